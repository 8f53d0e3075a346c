/-
  Signs as data. sign.kept, sign.within, sign.ranged. mens.Check, sign.One.
-/
import Derived.Test.YtblhfojaiipboaaGreatDoorBp0
import Derived.Test.YtblhfojaiipboaaGreatDoorSy1
import Derived.IntWalk
import Derived.KernelRfl
namespace Go.Proofs.YtblhfojaiipboaaGreatDoor
open Go.Cm Go
set_option maxRecDepth 100000
variable {S : St}
def m2 : Value := aggL [.int .i64 2, .int .i64 2, .int .i64 2, .int .i64 2]
def partS : ByteArray := ⟨#[112, 97, 114, 116]⟩
def lkT : List (Nat × List Value × Value) → Nat → List Value → Option Value
 | [], _, _ => none
 | (g, as_, v) :: r, f, a => bif Nat.beq g f && sameL 1000 as_ a then some v else lkT r f a
def tbl : List (Nat × List Value × Value) := [
 (50, [m2], tupV [.slice none 0 0, .int .i64 0]),
 (111, [m2, .int .i64 1], tupV [.int .i64 0, .int .i64 0]),
 (112, [m2, .int .i64 1], tupV [.int .i64 2, .int .i64 0]),
 (88, [m2, .int .i64 1], tupV [aggL [.int .i64 16, .int .i64 1], .int .i64 0]),
 (87, [m2, .int .i64 1], aggL [.int .i64 32, .int .i64 3]),
 (65, [aggL [.int .i64 16, .int .i64 1], aggL [.int .i64 3, .int .i64 2]], tupV [aggL [.int .i64 24, .int .i64 1], .int .i64 0]),
 (20, [m2, .int .i64 1], .bool false),
 (111, [m2, .int .i64 2], tupV [.int .i64 0, .int .i64 0]),
 (112, [m2, .int .i64 2], tupV [.int .i64 2, .int .i64 0]),
 (88, [m2, .int .i64 2], tupV [aggL [.int .i64 8, .int .i64 1], .int .i64 0]),
 (87, [m2, .int .i64 2], aggL [.int .i64 16, .int .i64 3]),
 (65, [aggL [.int .i64 8, .int .i64 1], aggL [.int .i64 3, .int .i64 2]], tupV [aggL [.int .i64 12, .int .i64 1], .int .i64 0]),
 (20, [m2, .int .i64 2], .bool false),
 (111, [m2, .int .i64 3], tupV [.int .i64 0, .int .i64 0]),
 (112, [m2, .int .i64 3], tupV [.int .i64 2, .int .i64 0]),
 (88, [m2, .int .i64 3], tupV [aggL [.int .i64 4, .int .i64 1], .int .i64 0]),
 (87, [m2, .int .i64 3], aggL [.int .i64 8, .int .i64 3]),
 (65, [aggL [.int .i64 4, .int .i64 1], aggL [.int .i64 3, .int .i64 2]], tupV [aggL [.int .i64 6, .int .i64 1], .int .i64 0]),
 (20, [m2, .int .i64 3], .bool false),
 (111, [m2, .int .i64 4], tupV [.int .i64 0, .int .i64 0]),
 (112, [m2, .int .i64 4], tupV [.int .i64 2, .int .i64 0]),
 (88, [m2, .int .i64 4], tupV [aggL [.int .i64 2, .int .i64 1], .int .i64 0]),
 (87, [m2, .int .i64 4], aggL [.int .i64 4, .int .i64 3]),
 (65, [aggL [.int .i64 2, .int .i64 1], aggL [.int .i64 3, .int .i64 2]], tupV [aggL [.int .i64 3, .int .i64 1], .int .i64 0]),
 (20, [m2, .int .i64 4], .bool false),
 (111, [m2, .int .i64 5], tupV [.int .i64 0, .int .i64 0]),
 (112, [m2, .int .i64 5], tupV [.int .i64 2, .int .i64 0]),
 (88, [m2, .int .i64 5], tupV [aggL [.int .i64 1, .int .i64 1], .int .i64 0]),
 (87, [m2, .int .i64 5], aggL [.int .i64 2, .int .i64 3]),
 (65, [aggL [.int .i64 1, .int .i64 1], aggL [.int .i64 3, .int .i64 2]], tupV [aggL [.int .i64 3, .int .i64 2], .int .i64 0]),
 (20, [m2, .int .i64 5], .bool false),
 (111, [m2, .int .i64 6], tupV [.int .i64 0, .int .i64 0]),
 (112, [m2, .int .i64 6], tupV [.int .i64 2, .int .i64 0]),
 (88, [m2, .int .i64 6], tupV [aggL [.int .i64 1, .int .i64 2], .int .i64 0]),
 (87, [m2, .int .i64 6], aggL [.int .i64 1, .int .i64 3]),
 (65, [aggL [.int .i64 1, .int .i64 2], aggL [.int .i64 3, .int .i64 2]], tupV [aggL [.int .i64 3, .int .i64 4], .int .i64 0]),
 (20, [m2, .int .i64 6], .bool false),
 (111, [m2, .int .i64 7], tupV [.int .i64 0, .int .i64 0]),
 (112, [m2, .int .i64 7], tupV [.int .i64 2, .int .i64 0]),
 (88, [m2, .int .i64 7], tupV [aggL [.int .i64 1, .int .i64 4], .int .i64 0]),
 (87, [m2, .int .i64 7], aggL [.int .i64 1, .int .i64 6]),
 (65, [aggL [.int .i64 1, .int .i64 4], aggL [.int .i64 3, .int .i64 2]], tupV [aggL [.int .i64 3, .int .i64 8], .int .i64 0]),
 (20, [m2, .int .i64 7], .bool false),
 (111, [m2, .int .i64 8], tupV [.int .i64 0, .int .i64 0]),
 (112, [m2, .int .i64 8], tupV [.int .i64 2, .int .i64 0]),
 (88, [m2, .int .i64 8], tupV [aggL [.int .i64 1, .int .i64 8], .int .i64 0]),
 (87, [m2, .int .i64 8], aggL [.int .i64 1, .int .i64 12]),
 (65, [aggL [.int .i64 1, .int .i64 8], aggL [.int .i64 3, .int .i64 2]], tupV [aggL [.int .i64 3, .int .i64 16], .int .i64 0]),
 (20, [m2, .int .i64 8], .bool false),
 (65, [aggL [.int .i64 32, .int .i64 3], aggL [.int .i64 3, .int .i64 2]], tupV [aggL [.int .i64 16, .int .i64 1], .int .i64 0]),
 (65, [aggL [.int .i64 16, .int .i64 3], aggL [.int .i64 3, .int .i64 2]], tupV [aggL [.int .i64 8, .int .i64 1], .int .i64 0]),
 (65, [aggL [.int .i64 8, .int .i64 3], aggL [.int .i64 3, .int .i64 2]], tupV [aggL [.int .i64 4, .int .i64 1], .int .i64 0]),
 (65, [aggL [.int .i64 4, .int .i64 3], aggL [.int .i64 3, .int .i64 2]], tupV [aggL [.int .i64 2, .int .i64 1], .int .i64 0]),
 (65, [aggL [.int .i64 2, .int .i64 3], aggL [.int .i64 3, .int .i64 2]], tupV [aggL [.int .i64 1, .int .i64 1], .int .i64 0]),
 (65, [aggL [.int .i64 1, .int .i64 3], aggL [.int .i64 3, .int .i64 2]], tupV [aggL [.int .i64 1, .int .i64 2], .int .i64 0]),
 (65, [aggL [.int .i64 1, .int .i64 6], aggL [.int .i64 3, .int .i64 2]], tupV [aggL [.int .i64 1, .int .i64 4], .int .i64 0]),
 (65, [aggL [.int .i64 1, .int .i64 12], aggL [.int .i64 3, .int .i64 2]], tupV [aggL [.int .i64 1, .int .i64 8], .int .i64 0]),
 (155, [.int .u64 0], .int .i64 0),
 (54, [.string partS], .bool true)]
def callM : FuncId → List Value → St → Option Value := fun f a _ => match a with
 | [] => bif Nat.beq f 6 then some (.bool true) else none
 | _ => lkT tbl f a
abbrev KK : Known := kk callM
structure Sg where
 kind : Int
 value : Int
 place : Int
 acc : Int
 color : Bool
 stem : Int
 oblique : Bool
 last : Bool
 mx : Int
 md : Int
 tm : Int
 pr : Int
 stroke : Bool
 n : Int
 d : Int
 step : Int
 line : Int
instance : DecidableEq Sg := fun a b => decidable_of_iff (a.kind = b.kind ∧ a.value = b.value ∧ a.place = b.place ∧ a.acc = b.acc ∧ a.color = b.color ∧ a.stem = b.stem ∧ a.oblique = b.oblique ∧ a.last = b.last ∧ a.mx = b.mx ∧ a.md = b.md ∧ a.tm = b.tm ∧ a.pr = b.pr ∧ a.stroke = b.stroke ∧ a.n = b.n ∧ a.d = b.d ∧ a.step = b.step ∧ a.line = b.line) ⟨fun h => by cases a; cases b; rw [Sg.mk.injEq]; exact h, fun h => by subst h; simp⟩
def Sg.cells (s : Sg) : List Value := [.int .i64 s.kind, .int .i64 s.value, .int .i64 s.place, .int .i64 s.acc, .bool s.color, .int .i64 s.stem, .bool s.oblique, .bool s.last, .int .i64 s.mx, .int .i64 s.md, .int .i64 s.tm, .int .i64 s.pr, .bool s.stroke, .int .i64 s.n, .int .i64 s.d, .int .i64 s.step, .int .i64 s.line]
def Sg.v (s : Sg) : Value := aggL s.cells
def usesL : List Value := [.bool false, .bool false, .bool false, .bool false, .bool false, .bool false, .bool false, .bool false, .bool false, .bool false, .bool false, .bool false, .bool true, .bool true, .bool true, .bool true, .bool false, .bool false, .bool false, .bool false, .bool false, .bool false, .bool false, .bool false, .bool true, .bool false, .bool false, .bool false, .bool false, .bool false, .bool false, .bool false, .bool false, .bool false, .bool false, .bool false, .bool false, .bool false, .bool false, .bool false, .bool false, .bool false, .bool false, .bool false, .bool false, .bool false, .bool false, .bool false, .bool false, .bool true, .bool true, .bool true, .bool true, .bool true, .bool true, .bool false, .bool false, .bool false, .bool false, .bool false, .bool false, .bool false, .bool false, .bool false, .bool false, .bool false, .bool false, .bool true, .bool true, .bool false, .bool false, .bool false, .bool false, .bool false, .bool false, .bool false, .bool false, .bool false, .bool false, .bool false, .bool false, .bool true, .bool true, .bool false, .bool false, .bool false, .bool false, .bool false, .bool false, .bool false, .bool false, .bool false, .bool false, .bool false, .bool false, .bool true, .bool false, .bool false, .bool false, .bool false, .bool false, .bool false, .bool false, .bool false, .bool false, .bool true, .bool false, .bool false, .bool false, .bool false, .bool false, .bool false, .bool false, .bool false, .bool false, .bool false, .bool false, .bool false, .bool false, .bool false, .bool false, .bool false, .bool false, .bool false, .bool false, .bool false, .bool false, .bool false, .bool false, .bool true, .bool false, .bool false, .bool false, .bool false, .bool false, .bool false, .bool false, .bool false, .bool false, .bool false, .bool false, .bool false, .bool false, .bool false, .bool false, .bool false, .bool false, .bool false, .bool false, .bool false, .bool false, .bool false, .bool false, .bool false, .bool false, .bool false]
def ubn (k i : Nat) : Bool := match nth usesL (k * 12 + i) with
 | some (.bool b) => b
 | _ => false
def ub (k : Int) (i : Nat) : Bool := ubn k.toNat i
theorem uses_at {k : Int} (h1 : 1 ≤ k) (h2 : k ≤ 12) : takeN 12 (dropN (0 + k.toNat * 12) usesL) = some [.bool (ub k 0), .bool (ub k 1), .bool (ub k 2), .bool (ub k 3), .bool (ub k 4), .bool (ub k 5), .bool (ub k 6), .bool (ub k 7), .bool (ub k 8), .bool (ub k 9), .bool (ub k 10), .bool (ub k 11)] := by
 obtain rfl | rfl | rfl | rfl | rfl | rfl | rfl | rfl | rfl | rfl | rfl | rfl : k = 1 ∨ k = 2 ∨ k = 3 ∨ k = 4 ∨ k = 5 ∨ k = 6 ∨ k = 7 ∨ k = 8 ∨ k = 9 ∨ k = 10 ∨ k = 11 ∨ k = 12 := by omega
 all_goals rfl
def Gl (S : St) : Prop := 2 < S.size ∧ S.get 2 = some (.cells usesL 0 false false [])
theorem Gl.keep {S T : St} (h : Gl S) (k : Keep S T) : Gl T := ⟨Nat.lt_of_lt_of_le h.1 k.1, (k.2 2 h.1).trans h.2⟩
theorem atoms_sign (s : Sg) : ∀ v, v ∈ s.cells → Atom v := by
 unfold Sg.cells
 repeat first | exact atoms_nil | refine atoms_cons (atom_int _ _) ?_ | refine atoms_cons (atom_bool _) ?_
theorem BLs : (∀ b : Bool, (b && true) = b) ∧ (∀ b : Bool, (true && b) = b) ∧ (∀ b : Bool, (b && false) = false) ∧ (∀ b : Bool, (false && b) = false) ∧ (∀ b : Bool, (b || true) = true) ∧ (∀ b : Bool, (true || b) = true) ∧ (∀ b : Bool, (b || false) = b) ∧ (∀ b : Bool, (false || b) = b) ∧ (∀ b : Bool, (!!b) = b) ∧ (!true) = false ∧ (!false) = true :=
 ⟨Bool.and_true, Bool.true_and, Bool.and_false, Bool.false_and, Bool.or_true, Bool.true_or, Bool.or_false, Bool.false_or, Bool.not_not, rfl, rfl⟩
theorem eqMens (d : Nat) (a b c e a' b' c' e' : Int) : eqV Tryz.prog (d + 2) 28 (aggL [.int .i64 a, .int .i64 b, .int .i64 c, .int .i64 e]) (aggL [.int .i64 a', .int .i64 b', .int .i64 c', .int .i64 e']) = some ((a == a') && ((b == b') && ((c == c') && ((e == e') && true)))) :=
 eq_struct Tryz.underlying28 (by kernel_rfl) (eqFields_cons (by kernel_rfl) (part1 (by kernel_rfl) rfl) (part1 (by kernel_rfl) rfl) (eq_int Tryz.underlying3) (eqFields_cons (by kernel_rfl) (part1 (by kernel_rfl) rfl) (part1 (by kernel_rfl) rfl) (eq_int Tryz.underlying3) (eqFields_cons (by kernel_rfl) (part1 (by kernel_rfl) rfl) (part1 (by kernel_rfl) rfl) (eq_int Tryz.underlying3) (eqFields_cons (by kernel_rfl) (part1 (by kernel_rfl) rfl) (part1 (by kernel_rfl) rfl) (eq_int Tryz.underlying3) rfl))))
theorem eqClef (d : Nat) (a b a' b' : Int) : eqV Tryz.prog (d + 2) 30 (aggL [.int .i64 a, .int .i64 b]) (aggL [.int .i64 a', .int .i64 b']) = some ((a == a') && ((b == b') && true)) :=
 eq_struct Tryz.underlying30 (by kernel_rfl) (eqFields_cons (by kernel_rfl) (part1 (by kernel_rfl) rfl) (part1 (by kernel_rfl) rfl) (eq_int Tryz.underlying3) (eqFields_cons (by kernel_rfl) (part1 (by kernel_rfl) rfl) (part1 (by kernel_rfl) rfl) (eq_int Tryz.underlying3) rfl))
theorem eqSign (s r : Sg) : eqV Tryz.prog eqDepth 32 s.v r.v = some (decide (s = r)) := by
 have h : eqV Tryz.prog 40 32 (aggL s.cells) (aggL r.cells) = _ := eq_struct Tryz.underlying32 (by kernel_rfl) (eqFields_cons (by kernel_rfl) (part1 (by kernel_rfl) rfl) (part1 (by kernel_rfl) rfl) (eq_int Tryz.underlying3) (eqFields_cons (by kernel_rfl) (part1 (by kernel_rfl) rfl) (part1 (by kernel_rfl) rfl) (eq_int Tryz.underlying3) (eqFields_cons (by kernel_rfl) (part1 (by kernel_rfl) rfl) (part1 (by kernel_rfl) rfl) (eq_int Tryz.underlying3) (eqFields_cons (by kernel_rfl) (part1 (by kernel_rfl) rfl) (part1 (by kernel_rfl) rfl) (eq_int Tryz.underlying3) (eqFields_cons (by kernel_rfl) (part1 (by kernel_rfl) rfl) (part1 (by kernel_rfl) rfl) (eq_bool Tryz.underlying4) (eqFields_cons (by kernel_rfl) (part1 (by kernel_rfl) rfl) (part1 (by kernel_rfl) rfl) (eq_int Tryz.underlying3) (eqFields_cons (by kernel_rfl) (part1 (by kernel_rfl) rfl) (part1 (by kernel_rfl) rfl) (eq_bool Tryz.underlying4) (eqFields_cons (by kernel_rfl) (part1 (by kernel_rfl) rfl) (part1 (by kernel_rfl) rfl) (eq_bool Tryz.underlying4) (eqFields_cons (by kernel_rfl) (partN (z := 4) (by kernel_rfl) (by kernel_rfl) rfl) (partN (z := 4) (by kernel_rfl) (by kernel_rfl) rfl) (eqMens ..) (eqFields_cons (by kernel_rfl) (part1 (by kernel_rfl) rfl) (part1 (by kernel_rfl) rfl) (eq_bool Tryz.underlying4) (eqFields_cons (by kernel_rfl) (part1 (by kernel_rfl) rfl) (part1 (by kernel_rfl) rfl) (eq_int Tryz.underlying3) (eqFields_cons (by kernel_rfl) (part1 (by kernel_rfl) rfl) (part1 (by kernel_rfl) rfl) (eq_int Tryz.underlying3) (eqFields_cons (by kernel_rfl) (partN (z := 2) (by kernel_rfl) (by kernel_rfl) rfl) (partN (z := 2) (by kernel_rfl) (by kernel_rfl) rfl) (eqClef ..) rfl)))))))))))))
 refine h.trans (congrArg some ?_)
 cases s; cases r
 simp only [Sg.mk.injEq]
 rw [Bool.eq_iff_iff]
 simp [and_assoc]
theorem neSign (xo yo : Operand) (s r : Sg) : binV Tryz.prog .neq 32 xo yo s.v r.v = some (.bool (!decide (s = r))) := bin_ne (by kernel_rfl) (eqSign s r)
end Go.Proofs.YtblhfojaiipboaaGreatDoor
namespace Go.Proofs.YtblhfojaiipboaaGreatDoor
open Go.Cm Go
set_option maxRecDepth 100000
variable {S : St}
def keptS (s : Sg) (a0 a1 a2 a3 a4 a5 a6 a7 a8 a9 a10 a11 : Bool) : Sg := { kind := s.kind, value := bif a0 then s.value else 0, place := bif a1 then s.place else 0, acc := bif a2 then s.acc else 0, color := bif a3 then s.color else false, stem := bif a4 then s.stem else 0, oblique := bif a5 then s.oblique else false, last := bif a6 then s.last else false, mx := bif a7 then s.mx else 0, md := bif a7 then s.md else 0, tm := bif a7 then s.tm else 0, pr := bif a7 then s.pr else 0, stroke := bif a8 then s.stroke else false, n := bif a9 then s.n else 0, d := bif a10 then s.d else 0, step := bif a11 then s.step else 0, line := bif a11 then s.line else 0 }
noncomputable def c73 : Code := Tryz.f73.body.getD .skip
theorem spec73 (s : Sg) (a0 a1 a2 a3 a4 a5 a6 a7 a8 a9 a10 a11 : Bool) : CC Tryz.prog KK 73 [s.v, .agg #[.bool a0, .bool a1, .bool a2, .bool a3, .bool a4, .bool a5, .bool a6, .bool a7, .bool a8, .bool a9, .bool a10, .bool a11]] S (fun v S' => Keep S S' ∧ v = (keptS s a0 a1 a2 a3 a4 a5 a6 a7 a8 a9 a10 a11).v) := by
 refine cc_enter (c := c73) (n := 70) Tryz.func73 rfl rfl rfl (by kernel_rfl) rfl rfl ?_
 have hl := Hold.start S
 refine xp_seq rfl ?_; refine xp_region rfl (by kernel_rfl) ?_; refine re_boxL hl rfl rfl rfl rfl rfl rfl ?_; intro B2 S2 hl; refine re_boxL hl rfl rfl rfl rfl rfl rfl ?_; intro B3 S3 hl; refine re_allocL hl rfl rfl rfl rfl rfl (z := [.int .i64 0, .int .i64 0, .int .i64 0, .int .i64 0, .bool false, .int .i64 0, .bool false, .bool false, .int .i64 0, .int .i64 0, .int .i64 0, .int .i64 0, .bool false, .int .i64 0, .int .i64 0, .int .i64 0, .int .i64 0]) (by kernel_rfl) ?_; intro B4 S4 hl; refine re_end rfl ?_; refine xp_seq rfl ?_; refine xp_region rfl (by kernel_rfl) ?_
 refine re_rd rfl rfl rfl rfl (rd_fieldAddr rfl rfl (fieldAddr_at Tryz.underlying32 rfl (by kernel_rfl))) ?_; refine re_rd rfl rfl rfl rfl (rd_load rfl rfl (load1_of (by kernel_rfl) (hl.get 2 rfl) rfl)) ?_; refine re_rd rfl rfl rfl rfl (rd_build rfl rfl (v := aggL [.int .i64 s.kind, .int .i64 0, .int .i64 0, .int .i64 0, .bool false, .int .i64 0, .bool false, .bool false, .int .i64 0, .int .i64 0, .int .i64 0, .int .i64 0, .bool false, .int .i64 0, .int .i64 0, .int .i64 0, .int .i64 0]) (by rfl)) ?_
 refine re_allocL hl rfl rfl rfl rfl rfl (z := [.int .i64 0, .int .i64 0, .int .i64 0, .int .i64 0, .bool false, .int .i64 0, .bool false, .bool false, .int .i64 0, .int .i64 0, .int .i64 0, .int .i64 0, .bool false, .int .i64 0, .int .i64 0, .int .i64 0, .int .i64 0]) (by kernel_rfl) ?_; intro B5 S5 hl; refine re_storeL hl 0 rfl rfl rfl rfl rfl rfl rfl (by kernel_rfl) rfl ?_; intro S6 hl; refine re_end rfl ?_
 refine xp_seq rfl (xe_to (L1 := [(2, ptrTo B2 0), (3, ptrTo B3 0), (4, ptrTo B4 0), (5, ptrTo B5 0)]) (fun S' => Hold S [S] S' [(B5, .cells [.int .i64 s.kind, .int .i64 (bif a0 then s.value else 0), .int .i64 0, .int .i64 0, .bool false, .int .i64 0, .bool false, .bool false, .int .i64 0, .int .i64 0, .int .i64 0, .int .i64 0, .bool false, .int .i64 0, .int .i64 0, .int .i64 0, .int .i64 0] 32 false true []), (B4, .cells [.int .i64 0, .int .i64 0, .int .i64 0, .int .i64 0, .bool false, .int .i64 0, .bool false, .bool false, .int .i64 0, .int .i64 0, .int .i64 0, .int .i64 0, .bool false, .int .i64 0, .int .i64 0, .int .i64 0, .int .i64 0] 32 false true []), (B3, .cells [.bool a0, .bool a1, .bool a2, .bool a3, .bool a4, .bool a5, .bool a6, .bool a7, .bool a8, .bool a9, .bool a10, .bool a11] 153 false true []), (B2, .cells [.int .i64 s.kind, .int .i64 s.value, .int .i64 s.place, .int .i64 s.acc, .bool s.color, .int .i64 s.stem, .bool s.oblique, .bool s.last, .int .i64 s.mx, .int .i64 s.md, .int .i64 s.tm, .int .i64 s.pr, .bool s.stroke, .int .i64 s.n, .int .i64 s.d, .int .i64 s.step, .int .i64 s.line] 32 false true [])]) ?_ ?_)
 ·refine xp_seq rfl (xp_region rfl (by kernel_rfl) ?_)
  refine re_rd rfl rfl rfl rfl (rd_fieldAddr rfl rfl (fieldAddr_at Tryz.underlying153 rfl (by kernel_rfl))) ?_; refine re_rd rfl rfl rfl rfl (rd_load rfl rfl (load1_of (by kernel_rfl) (hl.get 2 rfl) rfl)) ?_; refine re_end rfl ?_; refine xp_cond rfl rfl (fun h => ?_) (fun h => ?_)
  ·subst h
   refine xp_region rfl (by kernel_rfl) ?_; refine re_rd rfl rfl rfl rfl (rd_fieldAddr rfl rfl (fieldAddr_at Tryz.underlying32 rfl (by kernel_rfl))) ?_; refine re_rd rfl rfl rfl rfl (rd_load rfl rfl (load1_of (by kernel_rfl) (hl.get 3 rfl) rfl)) ?_; refine re_rd rfl rfl rfl rfl (rd_fieldAddr rfl rfl (fieldAddr_at Tryz.underlying32 rfl (by kernel_rfl))) ?_; refine re_storeL hl 0 rfl rfl rfl rfl rfl rfl rfl (by kernel_rfl) rfl ?_; intro S1 hl
   exact re_end rfl ⟨rfl, ⟨rfl, rfl, rfl, rfl, trivial⟩, hl⟩
  ·subst h
   exact xp_skip rfl ⟨rfl, ⟨rfl, rfl, rfl, rfl, trivial⟩, hl⟩
 clear hl; intro S6 hl
 refine xp_seq rfl (xe_to (L1 := [(2, ptrTo B2 0), (3, ptrTo B3 0), (4, ptrTo B4 0), (5, ptrTo B5 0)]) (fun S' => Hold S [S] S' [(B5, .cells [.int .i64 s.kind, .int .i64 (bif a0 then s.value else 0), .int .i64 (bif a1 then s.place else 0), .int .i64 0, .bool false, .int .i64 0, .bool false, .bool false, .int .i64 0, .int .i64 0, .int .i64 0, .int .i64 0, .bool false, .int .i64 0, .int .i64 0, .int .i64 0, .int .i64 0] 32 false true []), (B4, .cells [.int .i64 0, .int .i64 0, .int .i64 0, .int .i64 0, .bool false, .int .i64 0, .bool false, .bool false, .int .i64 0, .int .i64 0, .int .i64 0, .int .i64 0, .bool false, .int .i64 0, .int .i64 0, .int .i64 0, .int .i64 0] 32 false true []), (B3, .cells [.bool a0, .bool a1, .bool a2, .bool a3, .bool a4, .bool a5, .bool a6, .bool a7, .bool a8, .bool a9, .bool a10, .bool a11] 153 false true []), (B2, .cells [.int .i64 s.kind, .int .i64 s.value, .int .i64 s.place, .int .i64 s.acc, .bool s.color, .int .i64 s.stem, .bool s.oblique, .bool s.last, .int .i64 s.mx, .int .i64 s.md, .int .i64 s.tm, .int .i64 s.pr, .bool s.stroke, .int .i64 s.n, .int .i64 s.d, .int .i64 s.step, .int .i64 s.line] 32 false true [])]) ?_ ?_)
 ·refine xp_seq rfl (xp_region rfl (by kernel_rfl) ?_)
  refine re_rd rfl rfl rfl rfl (rd_fieldAddr rfl rfl (fieldAddr_at Tryz.underlying153 rfl (by kernel_rfl))) ?_; refine re_rd rfl rfl rfl rfl (rd_load rfl rfl (load1_of (by kernel_rfl) (hl.get 2 rfl) rfl)) ?_; refine re_end rfl ?_; refine xp_cond rfl rfl (fun h => ?_) (fun h => ?_)
  ·subst h
   refine xp_region rfl (by kernel_rfl) ?_; refine re_rd rfl rfl rfl rfl (rd_fieldAddr rfl rfl (fieldAddr_at Tryz.underlying32 rfl (by kernel_rfl))) ?_; refine re_rd rfl rfl rfl rfl (rd_load rfl rfl (load1_of (by kernel_rfl) (hl.get 3 rfl) rfl)) ?_; refine re_rd rfl rfl rfl rfl (rd_fieldAddr rfl rfl (fieldAddr_at Tryz.underlying32 rfl (by kernel_rfl))) ?_; refine re_storeL hl 0 rfl rfl rfl rfl rfl rfl rfl (by kernel_rfl) rfl ?_; intro S1 hl
   exact re_end rfl ⟨rfl, ⟨rfl, rfl, rfl, rfl, trivial⟩, hl⟩
  ·subst h
   exact xp_skip rfl ⟨rfl, ⟨rfl, rfl, rfl, rfl, trivial⟩, hl⟩
 clear hl; intro S6 hl
 refine xp_seq rfl (xe_to (L1 := [(2, ptrTo B2 0), (3, ptrTo B3 0), (4, ptrTo B4 0), (5, ptrTo B5 0)]) (fun S' => Hold S [S] S' [(B5, .cells [.int .i64 s.kind, .int .i64 (bif a0 then s.value else 0), .int .i64 (bif a1 then s.place else 0), .int .i64 (bif a2 then s.acc else 0), .bool false, .int .i64 0, .bool false, .bool false, .int .i64 0, .int .i64 0, .int .i64 0, .int .i64 0, .bool false, .int .i64 0, .int .i64 0, .int .i64 0, .int .i64 0] 32 false true []), (B4, .cells [.int .i64 0, .int .i64 0, .int .i64 0, .int .i64 0, .bool false, .int .i64 0, .bool false, .bool false, .int .i64 0, .int .i64 0, .int .i64 0, .int .i64 0, .bool false, .int .i64 0, .int .i64 0, .int .i64 0, .int .i64 0] 32 false true []), (B3, .cells [.bool a0, .bool a1, .bool a2, .bool a3, .bool a4, .bool a5, .bool a6, .bool a7, .bool a8, .bool a9, .bool a10, .bool a11] 153 false true []), (B2, .cells [.int .i64 s.kind, .int .i64 s.value, .int .i64 s.place, .int .i64 s.acc, .bool s.color, .int .i64 s.stem, .bool s.oblique, .bool s.last, .int .i64 s.mx, .int .i64 s.md, .int .i64 s.tm, .int .i64 s.pr, .bool s.stroke, .int .i64 s.n, .int .i64 s.d, .int .i64 s.step, .int .i64 s.line] 32 false true [])]) ?_ ?_)
 ·refine xp_seq rfl (xp_region rfl (by kernel_rfl) ?_)
  refine re_rd rfl rfl rfl rfl (rd_fieldAddr rfl rfl (fieldAddr_at Tryz.underlying153 rfl (by kernel_rfl))) ?_; refine re_rd rfl rfl rfl rfl (rd_load rfl rfl (load1_of (by kernel_rfl) (hl.get 2 rfl) rfl)) ?_; refine re_end rfl ?_; refine xp_cond rfl rfl (fun h => ?_) (fun h => ?_)
  ·subst h
   refine xp_region rfl (by kernel_rfl) ?_; refine re_rd rfl rfl rfl rfl (rd_fieldAddr rfl rfl (fieldAddr_at Tryz.underlying32 rfl (by kernel_rfl))) ?_; refine re_rd rfl rfl rfl rfl (rd_load rfl rfl (load1_of (by kernel_rfl) (hl.get 3 rfl) rfl)) ?_; refine re_rd rfl rfl rfl rfl (rd_fieldAddr rfl rfl (fieldAddr_at Tryz.underlying32 rfl (by kernel_rfl))) ?_; refine re_storeL hl 0 rfl rfl rfl rfl rfl rfl rfl (by kernel_rfl) rfl ?_; intro S1 hl
   exact re_end rfl ⟨rfl, ⟨rfl, rfl, rfl, rfl, trivial⟩, hl⟩
  ·subst h
   exact xp_skip rfl ⟨rfl, ⟨rfl, rfl, rfl, rfl, trivial⟩, hl⟩
 clear hl; intro S6 hl
 refine xp_seq rfl (xe_to (L1 := [(2, ptrTo B2 0), (3, ptrTo B3 0), (4, ptrTo B4 0), (5, ptrTo B5 0)]) (fun S' => Hold S [S] S' [(B5, .cells [.int .i64 s.kind, .int .i64 (bif a0 then s.value else 0), .int .i64 (bif a1 then s.place else 0), .int .i64 (bif a2 then s.acc else 0), .bool (bif a3 then s.color else false), .int .i64 0, .bool false, .bool false, .int .i64 0, .int .i64 0, .int .i64 0, .int .i64 0, .bool false, .int .i64 0, .int .i64 0, .int .i64 0, .int .i64 0] 32 false true []), (B4, .cells [.int .i64 0, .int .i64 0, .int .i64 0, .int .i64 0, .bool false, .int .i64 0, .bool false, .bool false, .int .i64 0, .int .i64 0, .int .i64 0, .int .i64 0, .bool false, .int .i64 0, .int .i64 0, .int .i64 0, .int .i64 0] 32 false true []), (B3, .cells [.bool a0, .bool a1, .bool a2, .bool a3, .bool a4, .bool a5, .bool a6, .bool a7, .bool a8, .bool a9, .bool a10, .bool a11] 153 false true []), (B2, .cells [.int .i64 s.kind, .int .i64 s.value, .int .i64 s.place, .int .i64 s.acc, .bool s.color, .int .i64 s.stem, .bool s.oblique, .bool s.last, .int .i64 s.mx, .int .i64 s.md, .int .i64 s.tm, .int .i64 s.pr, .bool s.stroke, .int .i64 s.n, .int .i64 s.d, .int .i64 s.step, .int .i64 s.line] 32 false true [])]) ?_ ?_)
 ·refine xp_seq rfl (xp_region rfl (by kernel_rfl) ?_)
  refine re_rd rfl rfl rfl rfl (rd_fieldAddr rfl rfl (fieldAddr_at Tryz.underlying153 rfl (by kernel_rfl))) ?_; refine re_rd rfl rfl rfl rfl (rd_load rfl rfl (load1_of (by kernel_rfl) (hl.get 2 rfl) rfl)) ?_; refine re_end rfl ?_; refine xp_cond rfl rfl (fun h => ?_) (fun h => ?_)
  ·subst h
   refine xp_region rfl (by kernel_rfl) ?_; refine re_rd rfl rfl rfl rfl (rd_fieldAddr rfl rfl (fieldAddr_at Tryz.underlying32 rfl (by kernel_rfl))) ?_; refine re_rd rfl rfl rfl rfl (rd_load rfl rfl (load1_of (by kernel_rfl) (hl.get 3 rfl) rfl)) ?_; refine re_rd rfl rfl rfl rfl (rd_fieldAddr rfl rfl (fieldAddr_at Tryz.underlying32 rfl (by kernel_rfl))) ?_; refine re_storeL hl 0 rfl rfl rfl rfl rfl rfl rfl (by kernel_rfl) rfl ?_; intro S1 hl
   exact re_end rfl ⟨rfl, ⟨rfl, rfl, rfl, rfl, trivial⟩, hl⟩
  ·subst h
   exact xp_skip rfl ⟨rfl, ⟨rfl, rfl, rfl, rfl, trivial⟩, hl⟩
 clear hl; intro S6 hl
 refine xp_seq rfl (xe_to (L1 := [(2, ptrTo B2 0), (3, ptrTo B3 0), (4, ptrTo B4 0), (5, ptrTo B5 0)]) (fun S' => Hold S [S] S' [(B5, .cells [.int .i64 s.kind, .int .i64 (bif a0 then s.value else 0), .int .i64 (bif a1 then s.place else 0), .int .i64 (bif a2 then s.acc else 0), .bool (bif a3 then s.color else false), .int .i64 (bif a4 then s.stem else 0), .bool false, .bool false, .int .i64 0, .int .i64 0, .int .i64 0, .int .i64 0, .bool false, .int .i64 0, .int .i64 0, .int .i64 0, .int .i64 0] 32 false true []), (B4, .cells [.int .i64 0, .int .i64 0, .int .i64 0, .int .i64 0, .bool false, .int .i64 0, .bool false, .bool false, .int .i64 0, .int .i64 0, .int .i64 0, .int .i64 0, .bool false, .int .i64 0, .int .i64 0, .int .i64 0, .int .i64 0] 32 false true []), (B3, .cells [.bool a0, .bool a1, .bool a2, .bool a3, .bool a4, .bool a5, .bool a6, .bool a7, .bool a8, .bool a9, .bool a10, .bool a11] 153 false true []), (B2, .cells [.int .i64 s.kind, .int .i64 s.value, .int .i64 s.place, .int .i64 s.acc, .bool s.color, .int .i64 s.stem, .bool s.oblique, .bool s.last, .int .i64 s.mx, .int .i64 s.md, .int .i64 s.tm, .int .i64 s.pr, .bool s.stroke, .int .i64 s.n, .int .i64 s.d, .int .i64 s.step, .int .i64 s.line] 32 false true [])]) ?_ ?_)
 ·refine xp_seq rfl (xp_region rfl (by kernel_rfl) ?_)
  refine re_rd rfl rfl rfl rfl (rd_fieldAddr rfl rfl (fieldAddr_at Tryz.underlying153 rfl (by kernel_rfl))) ?_; refine re_rd rfl rfl rfl rfl (rd_load rfl rfl (load1_of (by kernel_rfl) (hl.get 2 rfl) rfl)) ?_; refine re_end rfl ?_; refine xp_cond rfl rfl (fun h => ?_) (fun h => ?_)
  ·subst h
   refine xp_region rfl (by kernel_rfl) ?_; refine re_rd rfl rfl rfl rfl (rd_fieldAddr rfl rfl (fieldAddr_at Tryz.underlying32 rfl (by kernel_rfl))) ?_; refine re_rd rfl rfl rfl rfl (rd_load rfl rfl (load1_of (by kernel_rfl) (hl.get 3 rfl) rfl)) ?_; refine re_rd rfl rfl rfl rfl (rd_fieldAddr rfl rfl (fieldAddr_at Tryz.underlying32 rfl (by kernel_rfl))) ?_; refine re_storeL hl 0 rfl rfl rfl rfl rfl rfl rfl (by kernel_rfl) rfl ?_; intro S1 hl
   exact re_end rfl ⟨rfl, ⟨rfl, rfl, rfl, rfl, trivial⟩, hl⟩
  ·subst h
   exact xp_skip rfl ⟨rfl, ⟨rfl, rfl, rfl, rfl, trivial⟩, hl⟩
 clear hl; intro S6 hl
 refine xp_seq rfl (xe_to (L1 := [(2, ptrTo B2 0), (3, ptrTo B3 0), (4, ptrTo B4 0), (5, ptrTo B5 0)]) (fun S' => Hold S [S] S' [(B5, .cells [.int .i64 s.kind, .int .i64 (bif a0 then s.value else 0), .int .i64 (bif a1 then s.place else 0), .int .i64 (bif a2 then s.acc else 0), .bool (bif a3 then s.color else false), .int .i64 (bif a4 then s.stem else 0), .bool (bif a5 then s.oblique else false), .bool false, .int .i64 0, .int .i64 0, .int .i64 0, .int .i64 0, .bool false, .int .i64 0, .int .i64 0, .int .i64 0, .int .i64 0] 32 false true []), (B4, .cells [.int .i64 0, .int .i64 0, .int .i64 0, .int .i64 0, .bool false, .int .i64 0, .bool false, .bool false, .int .i64 0, .int .i64 0, .int .i64 0, .int .i64 0, .bool false, .int .i64 0, .int .i64 0, .int .i64 0, .int .i64 0] 32 false true []), (B3, .cells [.bool a0, .bool a1, .bool a2, .bool a3, .bool a4, .bool a5, .bool a6, .bool a7, .bool a8, .bool a9, .bool a10, .bool a11] 153 false true []), (B2, .cells [.int .i64 s.kind, .int .i64 s.value, .int .i64 s.place, .int .i64 s.acc, .bool s.color, .int .i64 s.stem, .bool s.oblique, .bool s.last, .int .i64 s.mx, .int .i64 s.md, .int .i64 s.tm, .int .i64 s.pr, .bool s.stroke, .int .i64 s.n, .int .i64 s.d, .int .i64 s.step, .int .i64 s.line] 32 false true [])]) ?_ ?_)
 ·refine xp_seq rfl (xp_region rfl (by kernel_rfl) ?_)
  refine re_rd rfl rfl rfl rfl (rd_fieldAddr rfl rfl (fieldAddr_at Tryz.underlying153 rfl (by kernel_rfl))) ?_; refine re_rd rfl rfl rfl rfl (rd_load rfl rfl (load1_of (by kernel_rfl) (hl.get 2 rfl) rfl)) ?_; refine re_end rfl ?_; refine xp_cond rfl rfl (fun h => ?_) (fun h => ?_)
  ·subst h
   refine xp_region rfl (by kernel_rfl) ?_; refine re_rd rfl rfl rfl rfl (rd_fieldAddr rfl rfl (fieldAddr_at Tryz.underlying32 rfl (by kernel_rfl))) ?_; refine re_rd rfl rfl rfl rfl (rd_load rfl rfl (load1_of (by kernel_rfl) (hl.get 3 rfl) rfl)) ?_; refine re_rd rfl rfl rfl rfl (rd_fieldAddr rfl rfl (fieldAddr_at Tryz.underlying32 rfl (by kernel_rfl))) ?_; refine re_storeL hl 0 rfl rfl rfl rfl rfl rfl rfl (by kernel_rfl) rfl ?_; intro S1 hl
   exact re_end rfl ⟨rfl, ⟨rfl, rfl, rfl, rfl, trivial⟩, hl⟩
  ·subst h
   exact xp_skip rfl ⟨rfl, ⟨rfl, rfl, rfl, rfl, trivial⟩, hl⟩
 clear hl; intro S6 hl
 refine xp_seq rfl (xe_to (L1 := [(2, ptrTo B2 0), (3, ptrTo B3 0), (4, ptrTo B4 0), (5, ptrTo B5 0)]) (fun S' => Hold S [S] S' [(B5, .cells [.int .i64 s.kind, .int .i64 (bif a0 then s.value else 0), .int .i64 (bif a1 then s.place else 0), .int .i64 (bif a2 then s.acc else 0), .bool (bif a3 then s.color else false), .int .i64 (bif a4 then s.stem else 0), .bool (bif a5 then s.oblique else false), .bool (bif a6 then s.last else false), .int .i64 0, .int .i64 0, .int .i64 0, .int .i64 0, .bool false, .int .i64 0, .int .i64 0, .int .i64 0, .int .i64 0] 32 false true []), (B4, .cells [.int .i64 0, .int .i64 0, .int .i64 0, .int .i64 0, .bool false, .int .i64 0, .bool false, .bool false, .int .i64 0, .int .i64 0, .int .i64 0, .int .i64 0, .bool false, .int .i64 0, .int .i64 0, .int .i64 0, .int .i64 0] 32 false true []), (B3, .cells [.bool a0, .bool a1, .bool a2, .bool a3, .bool a4, .bool a5, .bool a6, .bool a7, .bool a8, .bool a9, .bool a10, .bool a11] 153 false true []), (B2, .cells [.int .i64 s.kind, .int .i64 s.value, .int .i64 s.place, .int .i64 s.acc, .bool s.color, .int .i64 s.stem, .bool s.oblique, .bool s.last, .int .i64 s.mx, .int .i64 s.md, .int .i64 s.tm, .int .i64 s.pr, .bool s.stroke, .int .i64 s.n, .int .i64 s.d, .int .i64 s.step, .int .i64 s.line] 32 false true [])]) ?_ ?_)
 ·refine xp_seq rfl (xp_region rfl (by kernel_rfl) ?_)
  refine re_rd rfl rfl rfl rfl (rd_fieldAddr rfl rfl (fieldAddr_at Tryz.underlying153 rfl (by kernel_rfl))) ?_; refine re_rd rfl rfl rfl rfl (rd_load rfl rfl (load1_of (by kernel_rfl) (hl.get 2 rfl) rfl)) ?_; refine re_end rfl ?_; refine xp_cond rfl rfl (fun h => ?_) (fun h => ?_)
  ·subst h
   refine xp_region rfl (by kernel_rfl) ?_; refine re_rd rfl rfl rfl rfl (rd_fieldAddr rfl rfl (fieldAddr_at Tryz.underlying32 rfl (by kernel_rfl))) ?_; refine re_rd rfl rfl rfl rfl (rd_load rfl rfl (load1_of (by kernel_rfl) (hl.get 3 rfl) rfl)) ?_; refine re_rd rfl rfl rfl rfl (rd_fieldAddr rfl rfl (fieldAddr_at Tryz.underlying32 rfl (by kernel_rfl))) ?_; refine re_storeL hl 0 rfl rfl rfl rfl rfl rfl rfl (by kernel_rfl) rfl ?_; intro S1 hl
   exact re_end rfl ⟨rfl, ⟨rfl, rfl, rfl, rfl, trivial⟩, hl⟩
  ·subst h
   exact xp_skip rfl ⟨rfl, ⟨rfl, rfl, rfl, rfl, trivial⟩, hl⟩
 clear hl; intro S6 hl
 refine xp_seq rfl (xe_to (L1 := [(2, ptrTo B2 0), (3, ptrTo B3 0), (4, ptrTo B4 0), (5, ptrTo B5 0)]) (fun S' => Hold S [S] S' [(B5, .cells [.int .i64 s.kind, .int .i64 (bif a0 then s.value else 0), .int .i64 (bif a1 then s.place else 0), .int .i64 (bif a2 then s.acc else 0), .bool (bif a3 then s.color else false), .int .i64 (bif a4 then s.stem else 0), .bool (bif a5 then s.oblique else false), .bool (bif a6 then s.last else false), .int .i64 (bif a7 then s.mx else 0), .int .i64 (bif a7 then s.md else 0), .int .i64 (bif a7 then s.tm else 0), .int .i64 (bif a7 then s.pr else 0), .bool false, .int .i64 0, .int .i64 0, .int .i64 0, .int .i64 0] 32 false true []), (B4, .cells [.int .i64 0, .int .i64 0, .int .i64 0, .int .i64 0, .bool false, .int .i64 0, .bool false, .bool false, .int .i64 0, .int .i64 0, .int .i64 0, .int .i64 0, .bool false, .int .i64 0, .int .i64 0, .int .i64 0, .int .i64 0] 32 false true []), (B3, .cells [.bool a0, .bool a1, .bool a2, .bool a3, .bool a4, .bool a5, .bool a6, .bool a7, .bool a8, .bool a9, .bool a10, .bool a11] 153 false true []), (B2, .cells [.int .i64 s.kind, .int .i64 s.value, .int .i64 s.place, .int .i64 s.acc, .bool s.color, .int .i64 s.stem, .bool s.oblique, .bool s.last, .int .i64 s.mx, .int .i64 s.md, .int .i64 s.tm, .int .i64 s.pr, .bool s.stroke, .int .i64 s.n, .int .i64 s.d, .int .i64 s.step, .int .i64 s.line] 32 false true [])]) ?_ ?_)
 ·refine xp_seq rfl (xp_region rfl (by kernel_rfl) ?_)
  refine re_rd rfl rfl rfl rfl (rd_fieldAddr rfl rfl (fieldAddr_at Tryz.underlying153 rfl (by kernel_rfl))) ?_; refine re_rd rfl rfl rfl rfl (rd_load rfl rfl (load1_of (by kernel_rfl) (hl.get 2 rfl) rfl)) ?_; refine re_end rfl ?_; refine xp_cond rfl rfl (fun h => ?_) (fun h => ?_)
  ·subst h
   refine xp_region rfl (by kernel_rfl) ?_; refine re_rd rfl rfl rfl rfl (rd_fieldAddr rfl rfl (fieldAddr_at Tryz.underlying32 rfl (by kernel_rfl))) ?_; refine re_rd rfl rfl rfl rfl (rd_load rfl rfl (loadN_of (z := 4) (by kernel_rfl) (by kernel_rfl) (hl.get 3 rfl) rfl)) ?_; refine re_rd rfl rfl rfl rfl (rd_fieldAddr rfl rfl (fieldAddr_at Tryz.underlying32 rfl (by kernel_rfl))) ?_; refine re_storeL hl 0 rfl rfl rfl rfl rfl rfl rfl (by kernel_rfl) rfl ?_; intro S1 hl
   exact re_end rfl ⟨rfl, ⟨rfl, rfl, rfl, rfl, trivial⟩, hl⟩
  ·subst h
   exact xp_skip rfl ⟨rfl, ⟨rfl, rfl, rfl, rfl, trivial⟩, hl⟩
 clear hl; intro S6 hl
 refine xp_seq rfl (xe_to (L1 := [(2, ptrTo B2 0), (3, ptrTo B3 0), (4, ptrTo B4 0), (5, ptrTo B5 0)]) (fun S' => Hold S [S] S' [(B5, .cells [.int .i64 s.kind, .int .i64 (bif a0 then s.value else 0), .int .i64 (bif a1 then s.place else 0), .int .i64 (bif a2 then s.acc else 0), .bool (bif a3 then s.color else false), .int .i64 (bif a4 then s.stem else 0), .bool (bif a5 then s.oblique else false), .bool (bif a6 then s.last else false), .int .i64 (bif a7 then s.mx else 0), .int .i64 (bif a7 then s.md else 0), .int .i64 (bif a7 then s.tm else 0), .int .i64 (bif a7 then s.pr else 0), .bool (bif a8 then s.stroke else false), .int .i64 0, .int .i64 0, .int .i64 0, .int .i64 0] 32 false true []), (B4, .cells [.int .i64 0, .int .i64 0, .int .i64 0, .int .i64 0, .bool false, .int .i64 0, .bool false, .bool false, .int .i64 0, .int .i64 0, .int .i64 0, .int .i64 0, .bool false, .int .i64 0, .int .i64 0, .int .i64 0, .int .i64 0] 32 false true []), (B3, .cells [.bool a0, .bool a1, .bool a2, .bool a3, .bool a4, .bool a5, .bool a6, .bool a7, .bool a8, .bool a9, .bool a10, .bool a11] 153 false true []), (B2, .cells [.int .i64 s.kind, .int .i64 s.value, .int .i64 s.place, .int .i64 s.acc, .bool s.color, .int .i64 s.stem, .bool s.oblique, .bool s.last, .int .i64 s.mx, .int .i64 s.md, .int .i64 s.tm, .int .i64 s.pr, .bool s.stroke, .int .i64 s.n, .int .i64 s.d, .int .i64 s.step, .int .i64 s.line] 32 false true [])]) ?_ ?_)
 ·refine xp_seq rfl (xp_region rfl (by kernel_rfl) ?_)
  refine re_rd rfl rfl rfl rfl (rd_fieldAddr rfl rfl (fieldAddr_at Tryz.underlying153 rfl (by kernel_rfl))) ?_; refine re_rd rfl rfl rfl rfl (rd_load rfl rfl (load1_of (by kernel_rfl) (hl.get 2 rfl) rfl)) ?_; refine re_end rfl ?_; refine xp_cond rfl rfl (fun h => ?_) (fun h => ?_)
  ·subst h
   refine xp_region rfl (by kernel_rfl) ?_; refine re_rd rfl rfl rfl rfl (rd_fieldAddr rfl rfl (fieldAddr_at Tryz.underlying32 rfl (by kernel_rfl))) ?_; refine re_rd rfl rfl rfl rfl (rd_load rfl rfl (load1_of (by kernel_rfl) (hl.get 3 rfl) rfl)) ?_; refine re_rd rfl rfl rfl rfl (rd_fieldAddr rfl rfl (fieldAddr_at Tryz.underlying32 rfl (by kernel_rfl))) ?_; refine re_storeL hl 0 rfl rfl rfl rfl rfl rfl rfl (by kernel_rfl) rfl ?_; intro S1 hl
   exact re_end rfl ⟨rfl, ⟨rfl, rfl, rfl, rfl, trivial⟩, hl⟩
  ·subst h
   exact xp_skip rfl ⟨rfl, ⟨rfl, rfl, rfl, rfl, trivial⟩, hl⟩
 clear hl; intro S6 hl
 refine xp_seq rfl (xe_to (L1 := [(2, ptrTo B2 0), (3, ptrTo B3 0), (4, ptrTo B4 0), (5, ptrTo B5 0)]) (fun S' => Hold S [S] S' [(B5, .cells [.int .i64 s.kind, .int .i64 (bif a0 then s.value else 0), .int .i64 (bif a1 then s.place else 0), .int .i64 (bif a2 then s.acc else 0), .bool (bif a3 then s.color else false), .int .i64 (bif a4 then s.stem else 0), .bool (bif a5 then s.oblique else false), .bool (bif a6 then s.last else false), .int .i64 (bif a7 then s.mx else 0), .int .i64 (bif a7 then s.md else 0), .int .i64 (bif a7 then s.tm else 0), .int .i64 (bif a7 then s.pr else 0), .bool (bif a8 then s.stroke else false), .int .i64 (bif a9 then s.n else 0), .int .i64 0, .int .i64 0, .int .i64 0] 32 false true []), (B4, .cells [.int .i64 0, .int .i64 0, .int .i64 0, .int .i64 0, .bool false, .int .i64 0, .bool false, .bool false, .int .i64 0, .int .i64 0, .int .i64 0, .int .i64 0, .bool false, .int .i64 0, .int .i64 0, .int .i64 0, .int .i64 0] 32 false true []), (B3, .cells [.bool a0, .bool a1, .bool a2, .bool a3, .bool a4, .bool a5, .bool a6, .bool a7, .bool a8, .bool a9, .bool a10, .bool a11] 153 false true []), (B2, .cells [.int .i64 s.kind, .int .i64 s.value, .int .i64 s.place, .int .i64 s.acc, .bool s.color, .int .i64 s.stem, .bool s.oblique, .bool s.last, .int .i64 s.mx, .int .i64 s.md, .int .i64 s.tm, .int .i64 s.pr, .bool s.stroke, .int .i64 s.n, .int .i64 s.d, .int .i64 s.step, .int .i64 s.line] 32 false true [])]) ?_ ?_)
 ·refine xp_seq rfl (xp_region rfl (by kernel_rfl) ?_)
  refine re_rd rfl rfl rfl rfl (rd_fieldAddr rfl rfl (fieldAddr_at Tryz.underlying153 rfl (by kernel_rfl))) ?_; refine re_rd rfl rfl rfl rfl (rd_load rfl rfl (load1_of (by kernel_rfl) (hl.get 2 rfl) rfl)) ?_; refine re_end rfl ?_; refine xp_cond rfl rfl (fun h => ?_) (fun h => ?_)
  ·subst h
   refine xp_region rfl (by kernel_rfl) ?_; refine re_rd rfl rfl rfl rfl (rd_fieldAddr rfl rfl (fieldAddr_at Tryz.underlying32 rfl (by kernel_rfl))) ?_; refine re_rd rfl rfl rfl rfl (rd_load rfl rfl (load1_of (by kernel_rfl) (hl.get 3 rfl) rfl)) ?_; refine re_rd rfl rfl rfl rfl (rd_fieldAddr rfl rfl (fieldAddr_at Tryz.underlying32 rfl (by kernel_rfl))) ?_; refine re_storeL hl 0 rfl rfl rfl rfl rfl rfl rfl (by kernel_rfl) rfl ?_; intro S1 hl
   exact re_end rfl ⟨rfl, ⟨rfl, rfl, rfl, rfl, trivial⟩, hl⟩
  ·subst h
   exact xp_skip rfl ⟨rfl, ⟨rfl, rfl, rfl, rfl, trivial⟩, hl⟩
 clear hl; intro S6 hl
 refine xp_seq rfl (xe_to (L1 := [(2, ptrTo B2 0), (3, ptrTo B3 0), (4, ptrTo B4 0), (5, ptrTo B5 0)]) (fun S' => Hold S [S] S' [(B5, .cells [.int .i64 s.kind, .int .i64 (bif a0 then s.value else 0), .int .i64 (bif a1 then s.place else 0), .int .i64 (bif a2 then s.acc else 0), .bool (bif a3 then s.color else false), .int .i64 (bif a4 then s.stem else 0), .bool (bif a5 then s.oblique else false), .bool (bif a6 then s.last else false), .int .i64 (bif a7 then s.mx else 0), .int .i64 (bif a7 then s.md else 0), .int .i64 (bif a7 then s.tm else 0), .int .i64 (bif a7 then s.pr else 0), .bool (bif a8 then s.stroke else false), .int .i64 (bif a9 then s.n else 0), .int .i64 (bif a10 then s.d else 0), .int .i64 0, .int .i64 0] 32 false true []), (B4, .cells [.int .i64 0, .int .i64 0, .int .i64 0, .int .i64 0, .bool false, .int .i64 0, .bool false, .bool false, .int .i64 0, .int .i64 0, .int .i64 0, .int .i64 0, .bool false, .int .i64 0, .int .i64 0, .int .i64 0, .int .i64 0] 32 false true []), (B3, .cells [.bool a0, .bool a1, .bool a2, .bool a3, .bool a4, .bool a5, .bool a6, .bool a7, .bool a8, .bool a9, .bool a10, .bool a11] 153 false true []), (B2, .cells [.int .i64 s.kind, .int .i64 s.value, .int .i64 s.place, .int .i64 s.acc, .bool s.color, .int .i64 s.stem, .bool s.oblique, .bool s.last, .int .i64 s.mx, .int .i64 s.md, .int .i64 s.tm, .int .i64 s.pr, .bool s.stroke, .int .i64 s.n, .int .i64 s.d, .int .i64 s.step, .int .i64 s.line] 32 false true [])]) ?_ ?_)
 ·refine xp_seq rfl (xp_region rfl (by kernel_rfl) ?_)
  refine re_rd rfl rfl rfl rfl (rd_fieldAddr rfl rfl (fieldAddr_at Tryz.underlying153 rfl (by kernel_rfl))) ?_; refine re_rd rfl rfl rfl rfl (rd_load rfl rfl (load1_of (by kernel_rfl) (hl.get 2 rfl) rfl)) ?_; refine re_end rfl ?_; refine xp_cond rfl rfl (fun h => ?_) (fun h => ?_)
  ·subst h
   refine xp_region rfl (by kernel_rfl) ?_; refine re_rd rfl rfl rfl rfl (rd_fieldAddr rfl rfl (fieldAddr_at Tryz.underlying32 rfl (by kernel_rfl))) ?_; refine re_rd rfl rfl rfl rfl (rd_load rfl rfl (load1_of (by kernel_rfl) (hl.get 3 rfl) rfl)) ?_; refine re_rd rfl rfl rfl rfl (rd_fieldAddr rfl rfl (fieldAddr_at Tryz.underlying32 rfl (by kernel_rfl))) ?_; refine re_storeL hl 0 rfl rfl rfl rfl rfl rfl rfl (by kernel_rfl) rfl ?_; intro S1 hl
   exact re_end rfl ⟨rfl, ⟨rfl, rfl, rfl, rfl, trivial⟩, hl⟩
  ·subst h
   exact xp_skip rfl ⟨rfl, ⟨rfl, rfl, rfl, rfl, trivial⟩, hl⟩
 clear hl; intro S6 hl
 refine xp_seq rfl (xe_to (L1 := [(2, ptrTo B2 0), (3, ptrTo B3 0), (4, ptrTo B4 0), (5, ptrTo B5 0)]) (fun S' => Hold S [S] S' [(B5, .cells [.int .i64 s.kind, .int .i64 (bif a0 then s.value else 0), .int .i64 (bif a1 then s.place else 0), .int .i64 (bif a2 then s.acc else 0), .bool (bif a3 then s.color else false), .int .i64 (bif a4 then s.stem else 0), .bool (bif a5 then s.oblique else false), .bool (bif a6 then s.last else false), .int .i64 (bif a7 then s.mx else 0), .int .i64 (bif a7 then s.md else 0), .int .i64 (bif a7 then s.tm else 0), .int .i64 (bif a7 then s.pr else 0), .bool (bif a8 then s.stroke else false), .int .i64 (bif a9 then s.n else 0), .int .i64 (bif a10 then s.d else 0), .int .i64 (bif a11 then s.step else 0), .int .i64 (bif a11 then s.line else 0)] 32 false true []), (B4, .cells [.int .i64 0, .int .i64 0, .int .i64 0, .int .i64 0, .bool false, .int .i64 0, .bool false, .bool false, .int .i64 0, .int .i64 0, .int .i64 0, .int .i64 0, .bool false, .int .i64 0, .int .i64 0, .int .i64 0, .int .i64 0] 32 false true []), (B3, .cells [.bool a0, .bool a1, .bool a2, .bool a3, .bool a4, .bool a5, .bool a6, .bool a7, .bool a8, .bool a9, .bool a10, .bool a11] 153 false true []), (B2, .cells [.int .i64 s.kind, .int .i64 s.value, .int .i64 s.place, .int .i64 s.acc, .bool s.color, .int .i64 s.stem, .bool s.oblique, .bool s.last, .int .i64 s.mx, .int .i64 s.md, .int .i64 s.tm, .int .i64 s.pr, .bool s.stroke, .int .i64 s.n, .int .i64 s.d, .int .i64 s.step, .int .i64 s.line] 32 false true [])]) ?_ ?_)
 ·refine xp_seq rfl (xp_region rfl (by kernel_rfl) ?_)
  refine re_rd rfl rfl rfl rfl (rd_fieldAddr rfl rfl (fieldAddr_at Tryz.underlying153 rfl (by kernel_rfl))) ?_; refine re_rd rfl rfl rfl rfl (rd_load rfl rfl (load1_of (by kernel_rfl) (hl.get 2 rfl) rfl)) ?_; refine re_end rfl ?_; refine xp_cond rfl rfl (fun h => ?_) (fun h => ?_)
  ·subst h
   refine xp_region rfl (by kernel_rfl) ?_; refine re_rd rfl rfl rfl rfl (rd_fieldAddr rfl rfl (fieldAddr_at Tryz.underlying32 rfl (by kernel_rfl))) ?_; refine re_rd rfl rfl rfl rfl (rd_load rfl rfl (loadN_of (z := 2) (by kernel_rfl) (by kernel_rfl) (hl.get 3 rfl) rfl)) ?_; refine re_rd rfl rfl rfl rfl (rd_fieldAddr rfl rfl (fieldAddr_at Tryz.underlying32 rfl (by kernel_rfl))) ?_; refine re_storeL hl 0 rfl rfl rfl rfl rfl rfl rfl (by kernel_rfl) rfl ?_; intro S1 hl
   exact re_end rfl ⟨rfl, ⟨rfl, rfl, rfl, rfl, trivial⟩, hl⟩
  ·subst h
   exact xp_skip rfl ⟨rfl, ⟨rfl, rfl, rfl, rfl, trivial⟩, hl⟩
 clear hl; intro S6 hl
 refine xp_seq rfl ?_; refine xp_region rfl (by kernel_rfl) ?_; refine re_rd rfl rfl rfl rfl (rd_load rfl rfl (loadN_of (z := 17) (by kernel_rfl) (by kernel_rfl) (hl.get 0 rfl) rfl)) ?_; refine re_storeL hl 1 rfl rfl rfl rfl rfl rfl rfl (by kernel_rfl) rfl ?_; intro S1 hl; refine re_end rfl ?_; refine xp_ret rfl ?_
 exact done_ret (ress_cell rfl (loadN_of (z := 17) (by kernel_rfl) (by kernel_rfl) (hl.get 1 rfl) rfl) rfl) ⟨hl.keep, rfl⟩
noncomputable def c102 : Code := Tryz.f102.body.getD .skip
theorem spec102 (a b c : Int) : CC Tryz.prog KK 102 [.int .i64 a, .int .i64 b, .int .i64 c] S (fun v S' => Keep S S' ∧ v = .bool (decide (b ≤ a) && decide (a ≤ c))) := by
 refine cc_enter (c := c102) (n := 15) Tryz.func102 rfl rfl rfl (by kernel_rfl) rfl rfl ?_
 have hl := Hold.start S
 refine xp_seq rfl ?_; refine xp_region rfl (by kernel_rfl) ?_; refine re_rd rfl rfl rfl rfl (rd_assign rfl rfl) ?_; refine re_end rfl ?_; refine xp_seq rfl ?_; refine xp_region rfl (by kernel_rfl) ?_; iterate 2 refine re_rd rfl rfl rfl rfl (rd_move rfl rfl) ?_
 refine re_rd rfl rfl rfl rfl (rd_bin rfl rfl rfl rfl) ?_; refine re_rd rfl rfl rfl rfl (rd_move rfl rfl) ?_; refine re_bool (d := 10) rfl (fun h10 => ?_) (fun h10 => ?_)
 ·
  iterate 2 refine re_rd rfl rfl rfl rfl (rd_move rfl rfl) ?_
  refine re_rd rfl rfl rfl rfl (rd_bin rfl rfl rfl rfl) ?_; refine re_rd rfl rfl rfl rfl (rd_pick_t rfl rfl rfl) ?_; refine re_rd rfl rfl rfl rfl (rd_assign rfl rfl) ?_; refine re_end rfl ?_; refine xp_ret rfl ?_
  refine done_ret (ress_tmp rfl rfl) ⟨hl.keep, congrArg Value.bool (by first | (simp [h10]; done) | (simp at *; simp [*]; done) | (simp at *; omega))⟩
 ·
  iterate 3 refine re_pass rfl rfl rfl rfl ?_
  refine re_rd rfl rfl rfl rfl (rd_pick_f rfl rfl rfl) ?_; refine re_rd rfl rfl rfl rfl (rd_assign rfl rfl) ?_; refine re_end rfl ?_; refine xp_ret rfl ?_
  refine done_ret (ress_tmp rfl rfl) ⟨hl.keep, congrArg Value.bool (by first | (simp [h10]; done) | (simp at *; simp [*]; done) | (simp at *; omega))⟩
def rangedF (s : Sg) (a0 a1 a2 a4 a10 a11 : Bool) : Bool := !((a0 && !(decide (1 ≤ s.value) && decide (s.value ≤ 8))) || (a1 && !(decide (-4 ≤ s.place) && decide (s.place ≤ 12))) || (a2 && !(decide (-1 ≤ s.acc) && decide (s.acc ≤ 2))) || (a4 && !(decide (0 ≤ s.stem) && decide (s.stem ≤ 3))) || (a10 && (!(decide (1 ≤ s.n) && decide (s.n ≤ 100)) || !(decide (1 ≤ s.d) && decide (s.d ≤ 100)))) || (a11 && (((s.step != 0) && (s.step != 3) && (s.step != 4)) || !(decide (1 ≤ s.line) && decide (s.line ≤ 5)))) || ((s.kind == 8) && !(decide (0 ≤ s.n) && decide (s.n ≤ 2))) || ((s.kind == 10) && !(decide (2 ≤ s.n) && decide (s.n ≤ 4))))
noncomputable def c74 : Code := Tryz.f74.body.getD .skip
theorem spec74 (s : Sg) (a0 a1 a2 a3 a4 a5 a6 a7 a8 a9 a10 a11 : Bool) : CC Tryz.prog KK 74 [s.v, .agg #[.bool a0, .bool a1, .bool a2, .bool a3, .bool a4, .bool a5, .bool a6, .bool a7, .bool a8, .bool a9, .bool a10, .bool a11]] S (fun v S' => Keep S S' ∧ v = .bool (rangedF s a0 a1 a2 a4 a10 a11)) := by
 refine cc_enter (c := c74) (n := 104) Tryz.func74 rfl rfl rfl (by kernel_rfl) rfl rfl ?_
 have hl := Hold.start S
 refine xp_seq rfl ?_; refine xp_region rfl (by kernel_rfl) ?_; refine re_boxL hl rfl rfl rfl rfl rfl rfl ?_; intro B2 S2 hl; refine re_boxL hl rfl rfl rfl rfl rfl rfl ?_; intro B3 S3 hl; refine re_rd rfl rfl rfl rfl (rd_assign rfl rfl) ?_; refine re_end rfl ?_; refine xp_seq rfl ?_; refine xp_block rfl ?_; refine xp_seq rfl (xe_toL hl [(5, .bool (a0 && !(decide (1 ≤ s.value) && decide (s.value ≤ 8)))), (3, ptrTo B3 0), (2, ptrTo B2 0)] ?_ ?_)
 ·
  refine xp_region rfl (by kernel_rfl) ?_; refine re_rd rfl rfl rfl rfl (rd_fieldAddr rfl rfl (fieldAddr_at Tryz.underlying153 rfl (by kernel_rfl))) ?_; refine re_rd rfl rfl rfl rfl (rd_load rfl rfl (load1_of (by kernel_rfl) (hl.get 0 rfl) rfl)) ?_; refine re_rd rfl rfl rfl rfl (rd_move rfl rfl) ?_; refine re_bool (d := 8) rfl (fun h8 => ?_) (fun h8 => ?_)
  ·
   refine re_rd rfl rfl rfl rfl (rd_fieldAddr rfl rfl (fieldAddr_at Tryz.underlying32 rfl (by kernel_rfl))) ?_; refine re_rd rfl rfl rfl rfl (rd_load rfl rfl (load1_of (by kernel_rfl) (hl.get 1 rfl) rfl)) ?_
   refine re_callL hl rfl rfl rfl rfl rfl rfl rfl (spec102 _ _ _) ?_; rintro v S1 hk1 rfl hl
   refine re_rd rfl rfl rfl rfl (rd_un rfl rfl rfl) ?_; refine re_rd rfl rfl rfl rfl (rd_pick_t rfl rfl rfl) ?_; refine re_rd rfl rfl rfl rfl (rd_assign rfl rfl) ?_; refine re_end rfl ?_
   exact ⟨rfl, ⟨bl (by first | (simp [h8]; done) | (simp only [h8, BLs])), rfl, rfl, trivial⟩, hl⟩
  ·
   iterate 4 refine re_pass rfl rfl rfl rfl ?_
   refine re_rd rfl rfl rfl rfl (rd_pick_f rfl rfl rfl) ?_; refine re_rd rfl rfl rfl rfl (rd_assign rfl rfl) ?_; refine re_end rfl ?_
   exact ⟨rfl, ⟨bl (by first | (simp [h8]; done) | (simp only [h8, BLs])), rfl, rfl, trivial⟩, hl⟩
 intro S1 hl
 refine xp_cond rfl rfl (fun h5 => ?_) (fun h5 => ?_)
 ·
  refine xp_skip rfl ?_; refine xp_seq rfl ?_; refine xp_region rfl (by kernel_rfl) ?_; refine re_rd rfl rfl rfl rfl (rd_assign rfl rfl) ?_; refine re_end rfl ?_; refine xp_ret rfl ?_
  refine done_ret (ress_tmp rfl rfl) ⟨hl.keep, congrArg Value.bool (by simp only [rangedF, h5]; rfl)⟩
 ·
  refine xp_seq rfl (xe_toL hl [(14, .bool (a1 && !(decide (-4 ≤ s.place) && decide (s.place ≤ 12)))), (3, ptrTo B3 0), (2, ptrTo B2 0)] ?_ ?_)
  ·
   refine xp_region rfl (by kernel_rfl) ?_; refine re_rd rfl rfl rfl rfl (rd_fieldAddr rfl rfl (fieldAddr_at Tryz.underlying153 rfl (by kernel_rfl))) ?_; refine re_rd rfl rfl rfl rfl (rd_load rfl rfl (load1_of (by kernel_rfl) (hl.get 0 rfl) rfl)) ?_; refine re_rd rfl rfl rfl rfl (rd_move rfl rfl) ?_; refine re_bool (d := 17) rfl (fun h17 => ?_) (fun h17 => ?_)
   ·
    refine re_rd rfl rfl rfl rfl (rd_fieldAddr rfl rfl (fieldAddr_at Tryz.underlying32 rfl (by kernel_rfl))) ?_; refine re_rd rfl rfl rfl rfl (rd_load rfl rfl (load1_of (by kernel_rfl) (hl.get 1 rfl) rfl)) ?_
    refine re_callL hl rfl rfl rfl rfl rfl rfl rfl (spec102 _ _ _) ?_; rintro v S1 hk1 rfl hl
    refine re_rd rfl rfl rfl rfl (rd_un rfl rfl rfl) ?_; refine re_rd rfl rfl rfl rfl (rd_pick_t rfl rfl rfl) ?_; refine re_rd rfl rfl rfl rfl (rd_assign rfl rfl) ?_; refine re_end rfl ?_
    exact ⟨rfl, ⟨bl (by first | (simp [h17]; done) | (simp only [h17, BLs])), rfl, rfl, trivial⟩, hl⟩
   ·
    iterate 4 refine re_pass rfl rfl rfl rfl ?_
    refine re_rd rfl rfl rfl rfl (rd_pick_f rfl rfl rfl) ?_; refine re_rd rfl rfl rfl rfl (rd_assign rfl rfl) ?_; refine re_end rfl ?_
    exact ⟨rfl, ⟨bl (by first | (simp [h17]; done) | (simp only [h17, BLs])), rfl, rfl, trivial⟩, hl⟩
  intro S1 hl
  refine xp_cond rfl rfl (fun h14 => ?_) (fun h14 => ?_)
  ·
   refine xp_skip rfl ?_; refine xp_seq rfl ?_; refine xp_region rfl (by kernel_rfl) ?_; refine re_rd rfl rfl rfl rfl (rd_assign rfl rfl) ?_; refine re_end rfl ?_; refine xp_ret rfl ?_
   refine done_ret (ress_tmp rfl rfl) ⟨hl.keep, congrArg Value.bool (by simp only [rangedF, h14, h5]; rfl)⟩
  ·
   refine xp_seq rfl (xe_toL hl [(23, .bool (a2 && !(decide (-1 ≤ s.acc) && decide (s.acc ≤ 2)))), (3, ptrTo B3 0), (2, ptrTo B2 0)] ?_ ?_)
   ·
    refine xp_region rfl (by kernel_rfl) ?_; refine re_rd rfl rfl rfl rfl (rd_fieldAddr rfl rfl (fieldAddr_at Tryz.underlying153 rfl (by kernel_rfl))) ?_; refine re_rd rfl rfl rfl rfl (rd_load rfl rfl (load1_of (by kernel_rfl) (hl.get 0 rfl) rfl)) ?_; refine re_rd rfl rfl rfl rfl (rd_move rfl rfl) ?_; refine re_bool (d := 26) rfl (fun h26 => ?_) (fun h26 => ?_)
    ·
     refine re_rd rfl rfl rfl rfl (rd_fieldAddr rfl rfl (fieldAddr_at Tryz.underlying32 rfl (by kernel_rfl))) ?_; refine re_rd rfl rfl rfl rfl (rd_load rfl rfl (load1_of (by kernel_rfl) (hl.get 1 rfl) rfl)) ?_
     refine re_callL hl rfl rfl rfl rfl rfl rfl rfl (spec102 _ _ _) ?_; rintro v S1 hk1 rfl hl
     refine re_rd rfl rfl rfl rfl (rd_un rfl rfl rfl) ?_; refine re_rd rfl rfl rfl rfl (rd_pick_t rfl rfl rfl) ?_; refine re_rd rfl rfl rfl rfl (rd_assign rfl rfl) ?_; refine re_end rfl ?_
     exact ⟨rfl, ⟨bl (by first | (simp [h26]; done) | (simp only [h26, BLs])), rfl, rfl, trivial⟩, hl⟩
    ·
     iterate 4 refine re_pass rfl rfl rfl rfl ?_
     refine re_rd rfl rfl rfl rfl (rd_pick_f rfl rfl rfl) ?_; refine re_rd rfl rfl rfl rfl (rd_assign rfl rfl) ?_; refine re_end rfl ?_
     exact ⟨rfl, ⟨bl (by first | (simp [h26]; done) | (simp only [h26, BLs])), rfl, rfl, trivial⟩, hl⟩
   intro S1 hl
   refine xp_cond rfl rfl (fun h23 => ?_) (fun h23 => ?_)
   ·
    refine xp_skip rfl ?_; refine xp_seq rfl ?_; refine xp_region rfl (by kernel_rfl) ?_; refine re_rd rfl rfl rfl rfl (rd_assign rfl rfl) ?_; refine re_end rfl ?_; refine xp_ret rfl ?_
    refine done_ret (ress_tmp rfl rfl) ⟨hl.keep, congrArg Value.bool (by simp only [rangedF, h23, h14, h5]; rfl)⟩
   ·
    refine xp_seq rfl (xe_toL hl [(32, .bool (a4 && !(decide (0 ≤ s.stem) && decide (s.stem ≤ 3)))), (3, ptrTo B3 0), (2, ptrTo B2 0)] ?_ ?_)
    ·
     refine xp_region rfl (by kernel_rfl) ?_; refine re_rd rfl rfl rfl rfl (rd_fieldAddr rfl rfl (fieldAddr_at Tryz.underlying153 rfl (by kernel_rfl))) ?_; refine re_rd rfl rfl rfl rfl (rd_load rfl rfl (load1_of (by kernel_rfl) (hl.get 0 rfl) rfl)) ?_; refine re_rd rfl rfl rfl rfl (rd_move rfl rfl) ?_; refine re_bool (d := 35) rfl (fun h35 => ?_) (fun h35 => ?_)
     ·
      refine re_rd rfl rfl rfl rfl (rd_fieldAddr rfl rfl (fieldAddr_at Tryz.underlying32 rfl (by kernel_rfl))) ?_; refine re_rd rfl rfl rfl rfl (rd_load rfl rfl (load1_of (by kernel_rfl) (hl.get 1 rfl) rfl)) ?_
      refine re_callL hl rfl rfl rfl rfl rfl rfl rfl (spec102 _ _ _) ?_; rintro v S1 hk1 rfl hl
      refine re_rd rfl rfl rfl rfl (rd_un rfl rfl rfl) ?_; refine re_rd rfl rfl rfl rfl (rd_pick_t rfl rfl rfl) ?_; refine re_rd rfl rfl rfl rfl (rd_assign rfl rfl) ?_; refine re_end rfl ?_
      exact ⟨rfl, ⟨bl (by first | (simp [h35]; done) | (simp only [h35, BLs])), rfl, rfl, trivial⟩, hl⟩
     ·
      iterate 4 refine re_pass rfl rfl rfl rfl ?_
      refine re_rd rfl rfl rfl rfl (rd_pick_f rfl rfl rfl) ?_; refine re_rd rfl rfl rfl rfl (rd_assign rfl rfl) ?_; refine re_end rfl ?_
      exact ⟨rfl, ⟨bl (by first | (simp [h35]; done) | (simp only [h35, BLs])), rfl, rfl, trivial⟩, hl⟩
    intro S1 hl
    refine xp_cond rfl rfl (fun h32 => ?_) (fun h32 => ?_)
    ·
     refine xp_skip rfl ?_; refine xp_seq rfl ?_; refine xp_region rfl (by kernel_rfl) ?_; refine re_rd rfl rfl rfl rfl (rd_assign rfl rfl) ?_; refine re_end rfl ?_; refine xp_ret rfl ?_
     refine done_ret (ress_tmp rfl rfl) ⟨hl.keep, congrArg Value.bool (by simp only [rangedF, h32, h23, h14, h5]; rfl)⟩
    ·
     refine xp_seq rfl (xe_toL hl [(41, .bool (a10 && (!(decide (1 ≤ s.n) && decide (s.n ≤ 100)) || !(decide (1 ≤ s.d) && decide (s.d ≤ 100))))), (3, ptrTo B3 0), (2, ptrTo B2 0)] ?_ ?_)
     ·
      refine xp_region rfl (by kernel_rfl) ?_; refine re_rd rfl rfl rfl rfl (rd_fieldAddr rfl rfl (fieldAddr_at Tryz.underlying153 rfl (by kernel_rfl))) ?_; refine re_rd rfl rfl rfl rfl (rd_load rfl rfl (load1_of (by kernel_rfl) (hl.get 0 rfl) rfl)) ?_; refine re_rd rfl rfl rfl rfl (rd_move rfl rfl) ?_; refine re_bool (d := 44) rfl (fun h44 => ?_) (fun h44 => ?_)
      ·
       refine re_rd rfl rfl rfl rfl (rd_fieldAddr rfl rfl (fieldAddr_at Tryz.underlying32 rfl (by kernel_rfl))) ?_; refine re_rd rfl rfl rfl rfl (rd_load rfl rfl (load1_of (by kernel_rfl) (hl.get 1 rfl) rfl)) ?_
       refine re_callL hl rfl rfl rfl rfl rfl rfl rfl (spec102 _ _ _) ?_; rintro v S1 hk1 rfl hl
       refine re_rd rfl rfl rfl rfl (rd_un rfl rfl rfl) ?_; refine re_rd rfl rfl rfl rfl (rd_move rfl rfl) ?_; refine re_bool (d := 49) rfl (fun h49 => ?_) (fun h49 => ?_)
       ·
        iterate 4 refine re_pass rfl rfl rfl rfl ?_
        iterate 2 refine re_rd rfl rfl rfl rfl (rd_pick_t rfl rfl rfl) ?_
        refine re_rd rfl rfl rfl rfl (rd_assign rfl rfl) ?_; refine re_end rfl ?_
        exact ⟨rfl, ⟨bl (by first | (simp [h49, h44]; done) | (simp only [h49, h44, BLs])), rfl, rfl, trivial⟩, hl⟩
       ·
        refine re_rd rfl rfl rfl rfl (rd_fieldAddr rfl rfl (fieldAddr_at Tryz.underlying32 rfl (by kernel_rfl))) ?_; refine re_rd rfl rfl rfl rfl (rd_load rfl rfl (load1_of (by kernel_rfl) (hl.get 1 rfl) rfl)) ?_
        refine re_callL hl rfl rfl rfl rfl rfl rfl rfl (spec102 _ _ _) ?_; rintro v S1 hk1 rfl hl
        refine re_rd rfl rfl rfl rfl (rd_un rfl rfl rfl) ?_; refine re_rd rfl rfl rfl rfl (rd_pick_f rfl rfl rfl) ?_; refine re_rd rfl rfl rfl rfl (rd_pick_t rfl rfl rfl) ?_; refine re_rd rfl rfl rfl rfl (rd_assign rfl rfl) ?_; refine re_end rfl ?_
        exact ⟨rfl, ⟨bl (by first | (simp [h49, h44]; done) | (simp only [h49, h44, BLs])), rfl, rfl, trivial⟩, hl⟩
      ·
       iterate 10 refine re_pass rfl rfl rfl rfl ?_
       refine re_rd rfl rfl rfl rfl (rd_pick_f rfl rfl rfl) ?_; refine re_rd rfl rfl rfl rfl (rd_assign rfl rfl) ?_; refine re_end rfl ?_
       exact ⟨rfl, ⟨bl (by first | (simp [h44]; done) | (simp only [h44, BLs])), rfl, rfl, trivial⟩, hl⟩
     intro S1 hl
     refine xp_cond rfl rfl (fun h41 => ?_) (fun h41 => ?_)
     ·
      refine xp_skip rfl ?_; refine xp_seq rfl ?_; refine xp_region rfl (by kernel_rfl) ?_; refine re_rd rfl rfl rfl rfl (rd_assign rfl rfl) ?_; refine re_end rfl ?_; refine xp_ret rfl ?_
      refine done_ret (ress_tmp rfl rfl) ⟨hl.keep, congrArg Value.bool (by simp only [rangedF, h41, h32, h23, h14, h5]; rfl)⟩
     ·
      refine xp_seq rfl (xe_toL hl [(56, .bool (a11 && (((s.step != 0) && (s.step != 3) && (s.step != 4)) || !(decide (1 ≤ s.line) && decide (s.line ≤ 5))))), (3, ptrTo B3 0), (2, ptrTo B2 0)] ?_ ?_)
      ·
       refine xp_region rfl (by kernel_rfl) ?_; refine re_rd rfl rfl rfl rfl (rd_fieldAddr rfl rfl (fieldAddr_at Tryz.underlying153 rfl (by kernel_rfl))) ?_; refine re_rd rfl rfl rfl rfl (rd_load rfl rfl (load1_of (by kernel_rfl) (hl.get 0 rfl) rfl)) ?_; refine re_rd rfl rfl rfl rfl (rd_move rfl rfl) ?_; refine re_bool (d := 59) rfl (fun h59 => ?_) (fun h59 => ?_)
       ·
        refine re_rd rfl rfl rfl rfl (rd_fieldAddr rfl rfl (fieldAddr_at Tryz.underlying32 rfl (by kernel_rfl))) ?_; refine re_rd rfl rfl rfl rfl (rd_fieldAddr rfl rfl (fieldAddr_at Tryz.underlying30 rfl (by kernel_rfl))) ?_; refine re_rd rfl rfl rfl rfl (rd_load rfl rfl (load1_of (by kernel_rfl) (hl.get 1 rfl) rfl)) ?_; refine re_rd rfl rfl rfl rfl (rd_bin rfl rfl rfl rfl) ?_; refine re_rd rfl rfl rfl rfl (rd_move rfl rfl) ?_; refine re_bool (d := 64) rfl (fun h64 => ?_) (fun h64 => ?_)
        ·
         refine re_rd rfl rfl rfl rfl (rd_fieldAddr rfl rfl (fieldAddr_at Tryz.underlying32 rfl (by kernel_rfl))) ?_; refine re_rd rfl rfl rfl rfl (rd_fieldAddr rfl rfl (fieldAddr_at Tryz.underlying30 rfl (by kernel_rfl))) ?_; refine re_rd rfl rfl rfl rfl (rd_load rfl rfl (load1_of (by kernel_rfl) (hl.get 1 rfl) rfl)) ?_; refine re_rd rfl rfl rfl rfl (rd_bin rfl rfl rfl rfl) ?_; refine re_rd rfl rfl rfl rfl (rd_pick_t rfl rfl rfl) ?_; refine re_rd rfl rfl rfl rfl (rd_move rfl rfl) ?_; refine re_bool (d := 70) rfl (fun h70 => ?_) (fun h70 => ?_)
         ·
          refine re_rd rfl rfl rfl rfl (rd_fieldAddr rfl rfl (fieldAddr_at Tryz.underlying32 rfl (by kernel_rfl))) ?_; refine re_rd rfl rfl rfl rfl (rd_fieldAddr rfl rfl (fieldAddr_at Tryz.underlying30 rfl (by kernel_rfl))) ?_; refine re_rd rfl rfl rfl rfl (rd_load rfl rfl (load1_of (by kernel_rfl) (hl.get 1 rfl) rfl)) ?_; refine re_rd rfl rfl rfl rfl (rd_bin rfl rfl rfl rfl) ?_; refine re_rd rfl rfl rfl rfl (rd_pick_t rfl rfl rfl) ?_; refine re_rd rfl rfl rfl rfl (rd_move rfl rfl) ?_; refine re_bool (d := 76) rfl (fun h76 => ?_) (fun h76 => ?_)
          ·
           iterate 5 refine re_pass rfl rfl rfl rfl ?_
           iterate 2 refine re_rd rfl rfl rfl rfl (rd_pick_t rfl rfl rfl) ?_
           refine re_rd rfl rfl rfl rfl (rd_assign rfl rfl) ?_; refine re_end rfl ?_
           exact ⟨rfl, ⟨bl (by first | (simp [h76, h70, h64, h59]; done) | (simp only [h76, h70, h64, h59, BLs])), rfl, rfl, trivial⟩, hl⟩
          ·
           refine re_rd rfl rfl rfl rfl (rd_fieldAddr rfl rfl (fieldAddr_at Tryz.underlying32 rfl (by kernel_rfl))) ?_; refine re_rd rfl rfl rfl rfl (rd_fieldAddr rfl rfl (fieldAddr_at Tryz.underlying30 rfl (by kernel_rfl))) ?_; refine re_rd rfl rfl rfl rfl (rd_load rfl rfl (load1_of (by kernel_rfl) (hl.get 1 rfl) rfl)) ?_
           refine re_callL hl rfl rfl rfl rfl rfl rfl rfl (spec102 _ _ _) ?_; rintro v S1 hk1 rfl hl
           refine re_rd rfl rfl rfl rfl (rd_un rfl rfl rfl) ?_; refine re_rd rfl rfl rfl rfl (rd_pick_f rfl rfl rfl) ?_; refine re_rd rfl rfl rfl rfl (rd_pick_t rfl rfl rfl) ?_; refine re_rd rfl rfl rfl rfl (rd_assign rfl rfl) ?_; refine re_end rfl ?_
           exact ⟨rfl, ⟨bl (by first | (simp [h76, h70, h64, h59]; done) | (simp only [h76, h70, h64, h59, BLs])), rfl, rfl, trivial⟩, hl⟩
         ·
          iterate 4 refine re_pass rfl rfl rfl rfl ?_
          refine re_rd rfl rfl rfl rfl (rd_pick_f rfl rfl rfl) ?_; refine re_rd rfl rfl rfl rfl (rd_move rfl rfl) ?_; refine re_rd rfl rfl rfl rfl (rd_fieldAddr rfl rfl (fieldAddr_at Tryz.underlying32 rfl (by kernel_rfl))) ?_; refine re_rd rfl rfl rfl rfl (rd_fieldAddr rfl rfl (fieldAddr_at Tryz.underlying30 rfl (by kernel_rfl))) ?_; refine re_rd rfl rfl rfl rfl (rd_load rfl rfl (load1_of (by kernel_rfl) (hl.get 1 rfl) rfl)) ?_
          refine re_callL hl rfl rfl rfl rfl rfl rfl rfl (spec102 _ _ _) ?_; rintro v S1 hk1 rfl hl
          refine re_rd rfl rfl rfl rfl (rd_un rfl rfl rfl) ?_; refine re_rd rfl rfl rfl rfl (rd_pick_f rfl rfl rfl) ?_; refine re_rd rfl rfl rfl rfl (rd_pick_t rfl rfl rfl) ?_; refine re_rd rfl rfl rfl rfl (rd_assign rfl rfl) ?_; refine re_end rfl ?_
          exact ⟨rfl, ⟨bl (by first | (simp [h70, h64, h59]; done) | (simp only [h70, h64, h59, BLs])), rfl, rfl, trivial⟩, hl⟩
        ·
         iterate 4 refine re_pass rfl rfl rfl rfl ?_
         refine re_rd rfl rfl rfl rfl (rd_pick_f rfl rfl rfl) ?_; refine re_rd rfl rfl rfl rfl (rd_move rfl rfl) ?_; iterate 4 refine re_pass rfl rfl rfl rfl ?_
         refine re_rd rfl rfl rfl rfl (rd_pick_f rfl rfl rfl) ?_; refine re_rd rfl rfl rfl rfl (rd_move rfl rfl) ?_; refine re_rd rfl rfl rfl rfl (rd_fieldAddr rfl rfl (fieldAddr_at Tryz.underlying32 rfl (by kernel_rfl))) ?_; refine re_rd rfl rfl rfl rfl (rd_fieldAddr rfl rfl (fieldAddr_at Tryz.underlying30 rfl (by kernel_rfl))) ?_; refine re_rd rfl rfl rfl rfl (rd_load rfl rfl (load1_of (by kernel_rfl) (hl.get 1 rfl) rfl)) ?_
         refine re_callL hl rfl rfl rfl rfl rfl rfl rfl (spec102 _ _ _) ?_; rintro v S1 hk1 rfl hl
         refine re_rd rfl rfl rfl rfl (rd_un rfl rfl rfl) ?_; refine re_rd rfl rfl rfl rfl (rd_pick_f rfl rfl rfl) ?_; refine re_rd rfl rfl rfl rfl (rd_pick_t rfl rfl rfl) ?_; refine re_rd rfl rfl rfl rfl (rd_assign rfl rfl) ?_; refine re_end rfl ?_
         exact ⟨rfl, ⟨bl (by first | (simp [h64, h59]; done) | (simp only [h64, h59, BLs])), rfl, rfl, trivial⟩, hl⟩
       ·
        iterate 23 refine re_pass rfl rfl rfl rfl ?_
        refine re_rd rfl rfl rfl rfl (rd_pick_f rfl rfl rfl) ?_; refine re_rd rfl rfl rfl rfl (rd_assign rfl rfl) ?_; refine re_end rfl ?_
        exact ⟨rfl, ⟨bl (by first | (simp [h59]; done) | (simp only [h59, BLs])), rfl, rfl, trivial⟩, hl⟩
      intro S1 hl
      refine xp_cond rfl rfl (fun h56 => ?_) (fun h56 => ?_)
      ·
       refine xp_skip rfl ?_; refine xp_seq rfl ?_; refine xp_region rfl (by kernel_rfl) ?_; refine re_rd rfl rfl rfl rfl (rd_assign rfl rfl) ?_; refine re_end rfl ?_; refine xp_ret rfl ?_
       refine done_ret (ress_tmp rfl rfl) ⟨hl.keep, congrArg Value.bool (by simp only [rangedF, h56, h41, h32, h23, h14, h5]; rfl)⟩
      ·
       refine xp_seq rfl (xe_toL hl [(84, .bool ((s.kind == 8) && !(decide (0 ≤ s.n) && decide (s.n ≤ 2)))), (3, ptrTo B3 0), (2, ptrTo B2 0)] ?_ ?_)
       ·
        refine xp_region rfl (by kernel_rfl) ?_; refine re_rd rfl rfl rfl rfl (rd_fieldAddr rfl rfl (fieldAddr_at Tryz.underlying32 rfl (by kernel_rfl))) ?_; refine re_rd rfl rfl rfl rfl (rd_load rfl rfl (load1_of (by kernel_rfl) (hl.get 1 rfl) rfl)) ?_; refine re_rd rfl rfl rfl rfl (rd_bin rfl rfl rfl rfl) ?_; refine re_rd rfl rfl rfl rfl (rd_move rfl rfl) ?_; refine re_bool (d := 88) rfl (fun h88 => ?_) (fun h88 => ?_)
        ·
         refine re_rd rfl rfl rfl rfl (rd_fieldAddr rfl rfl (fieldAddr_at Tryz.underlying32 rfl (by kernel_rfl))) ?_; refine re_rd rfl rfl rfl rfl (rd_load rfl rfl (load1_of (by kernel_rfl) (hl.get 1 rfl) rfl)) ?_
         refine re_callL hl rfl rfl rfl rfl rfl rfl rfl (spec102 _ _ _) ?_; rintro v S1 hk1 rfl hl
         refine re_rd rfl rfl rfl rfl (rd_un rfl rfl rfl) ?_; refine re_rd rfl rfl rfl rfl (rd_pick_t rfl rfl rfl) ?_; refine re_rd rfl rfl rfl rfl (rd_assign rfl rfl) ?_; refine re_end rfl ?_
         exact ⟨rfl, ⟨bl (by first | (simp [h88]; done) | (simp only [h88, BLs])), rfl, rfl, trivial⟩, hl⟩
        ·
         iterate 4 refine re_pass rfl rfl rfl rfl ?_
         refine re_rd rfl rfl rfl rfl (rd_pick_f rfl rfl rfl) ?_; refine re_rd rfl rfl rfl rfl (rd_assign rfl rfl) ?_; refine re_end rfl ?_
         exact ⟨rfl, ⟨bl (by first | (simp [h88]; done) | (simp only [h88, BLs])), rfl, rfl, trivial⟩, hl⟩
       intro S1 hl
       refine xp_cond rfl rfl (fun h84 => ?_) (fun h84 => ?_)
       ·
        refine xp_skip rfl ?_; refine xp_seq rfl ?_; refine xp_region rfl (by kernel_rfl) ?_; refine re_rd rfl rfl rfl rfl (rd_assign rfl rfl) ?_; refine re_end rfl ?_; refine xp_ret rfl ?_
        refine done_ret (ress_tmp rfl rfl) ⟨hl.keep, congrArg Value.bool (by simp only [rangedF, h84, h56, h41, h32, h23, h14, h5]; rfl)⟩
       ·
        refine xp_seq rfl (xe_toL hl [(94, .bool ((s.kind == 10) && !(decide (2 ≤ s.n) && decide (s.n ≤ 4)))), (3, ptrTo B3 0), (2, ptrTo B2 0)] ?_ ?_)
        ·
         refine xp_region rfl (by kernel_rfl) ?_; refine re_rd rfl rfl rfl rfl (rd_fieldAddr rfl rfl (fieldAddr_at Tryz.underlying32 rfl (by kernel_rfl))) ?_; refine re_rd rfl rfl rfl rfl (rd_load rfl rfl (load1_of (by kernel_rfl) (hl.get 1 rfl) rfl)) ?_; refine re_rd rfl rfl rfl rfl (rd_bin rfl rfl rfl rfl) ?_; refine re_rd rfl rfl rfl rfl (rd_move rfl rfl) ?_; refine re_bool (d := 98) rfl (fun h98 => ?_) (fun h98 => ?_)
         ·
          refine re_rd rfl rfl rfl rfl (rd_fieldAddr rfl rfl (fieldAddr_at Tryz.underlying32 rfl (by kernel_rfl))) ?_; refine re_rd rfl rfl rfl rfl (rd_load rfl rfl (load1_of (by kernel_rfl) (hl.get 1 rfl) rfl)) ?_
          refine re_callL hl rfl rfl rfl rfl rfl rfl rfl (spec102 _ _ _) ?_; rintro v S1 hk1 rfl hl
          refine re_rd rfl rfl rfl rfl (rd_un rfl rfl rfl) ?_; refine re_rd rfl rfl rfl rfl (rd_pick_t rfl rfl rfl) ?_; refine re_rd rfl rfl rfl rfl (rd_assign rfl rfl) ?_; refine re_end rfl ?_
          exact ⟨rfl, ⟨bl (by first | (simp [h98]; done) | (simp only [h98, BLs])), rfl, rfl, trivial⟩, hl⟩
         ·
          iterate 4 refine re_pass rfl rfl rfl rfl ?_
          refine re_rd rfl rfl rfl rfl (rd_pick_f rfl rfl rfl) ?_; refine re_rd rfl rfl rfl rfl (rd_assign rfl rfl) ?_; refine re_end rfl ?_
          exact ⟨rfl, ⟨bl (by first | (simp [h98]; done) | (simp only [h98, BLs])), rfl, rfl, trivial⟩, hl⟩
        intro S1 hl
        refine xp_cond rfl rfl (fun h94 => ?_) (fun h94 => ?_)
        ·
         refine xp_skip rfl ?_; refine xp_seq rfl ?_; refine xp_region rfl (by kernel_rfl) ?_; refine re_rd rfl rfl rfl rfl (rd_assign rfl rfl) ?_; refine re_end rfl ?_; refine xp_ret rfl ?_
         refine done_ret (ress_tmp rfl rfl) ⟨hl.keep, congrArg Value.bool (by simp only [rangedF, h94, h84, h56, h41, h32, h23, h14, h5]; rfl)⟩
        ·
         refine xp_seq rfl ?_; refine xp_region rfl (by kernel_rfl) ?_; refine re_rd rfl rfl rfl rfl (rd_assign rfl rfl) ?_; refine re_end rfl ?_; refine xp_ret rfl ?_
         refine blk_ret (thn_ret (done_ret (ress_tmp rfl rfl) ⟨hl.keep, congrArg Value.bool (by simp only [rangedF, h94, h84, h56, h41, h32, h23, h14, h5]; rfl)⟩))
end Go.Proofs.YtblhfojaiipboaaGreatDoor
namespace Go.Proofs.YtblhfojaiipboaaGreatDoor
open Go.Cm Go
set_option maxRecDepth 100000
variable {S : St}
noncomputable def c91 : Code := Tryz.f91.body.getD .skip
theorem spec91 (a b c d : Int) : CC Tryz.prog KK 91 [aggL [.int .i64 a, .int .i64 b, .int .i64 c, .int .i64 d]] S (fun v S' => Keep S S' ∧ v = aggL [.int .i64 a, .int .i64 b, .int .i64 c, .int .i64 d]) := by
 refine cc_enter (c := c91) (n := 12) Tryz.func91 rfl rfl rfl (by kernel_rfl) rfl rfl ?_
 have hl := Hold.start S
 refine xp_seq rfl ?_; refine xp_region rfl (by kernel_rfl) ?_; refine re_boxL hl rfl rfl rfl rfl rfl rfl ?_; intro B1 S1 hl; refine re_allocL hl rfl rfl rfl rfl rfl (z := [.int .i64 0, .int .i64 0, .int .i64 0, .int .i64 0]) (by kernel_rfl) ?_; intro B2 S2 hl; refine re_end rfl ?_; refine xp_seq rfl ?_; refine xp_region rfl (by kernel_rfl) ?_; refine re_rd rfl rfl rfl rfl (rd_fieldAddr rfl rfl (fieldAddr_at Tryz.underlying28 rfl (by kernel_rfl))) ?_; refine re_rd rfl rfl rfl rfl (rd_load rfl rfl (load1_of (by kernel_rfl) (hl.get 1 rfl) rfl)) ?_
 refine re_rd rfl rfl rfl rfl (rd_fieldAddr rfl rfl (fieldAddr_at Tryz.underlying28 rfl (by kernel_rfl))) ?_; refine re_rd rfl rfl rfl rfl (rd_load rfl rfl (load1_of (by kernel_rfl) (hl.get 1 rfl) rfl)) ?_; refine re_rd rfl rfl rfl rfl (rd_fieldAddr rfl rfl (fieldAddr_at Tryz.underlying28 rfl (by kernel_rfl))) ?_; refine re_rd rfl rfl rfl rfl (rd_load rfl rfl (load1_of (by kernel_rfl) (hl.get 1 rfl) rfl)) ?_; refine re_rd rfl rfl rfl rfl (rd_fieldAddr rfl rfl (fieldAddr_at Tryz.underlying28 rfl (by kernel_rfl))) ?_
 refine re_rd rfl rfl rfl rfl (rd_load rfl rfl (load1_of (by kernel_rfl) (hl.get 1 rfl) rfl)) ?_; refine re_rd rfl rfl rfl rfl (rd_build rfl rfl (v := aggL [.int .i64 a, .int .i64 b, .int .i64 c, .int .i64 d]) (by rfl)) ?_; refine re_storeL hl 0 rfl rfl rfl rfl rfl rfl rfl (by kernel_rfl) rfl ?_; intro S1 hl; refine re_end rfl ?_; refine xp_ret rfl ?_
 refine done_ret (ress_cell rfl (loadN_of (z := 4) (by kernel_rfl) (by kernel_rfl) (hl.get 0 rfl) rfl) rfl) ⟨hl.keep, rfl⟩
def okm (p : Int) : Bool := p == 2 || p == 3
def at4 (a b c d : Int) (i : Nat) : Int := match i with
 | 0 => a
 | 1 => b
 | 2 => c
 | _ => d
def mensE (a b c d : Int) : Int := bif okm a && okm b && okm c && okm d then 0 else 12
theorem mensE_no {a b c d : Int} {i : Nat} (h : okm (at4 a b c d i) = false) : mensE a b c d = 12 := by
 unfold mensE
 match i, h with
 | 0, h => simp only [at4] at h; simp [h]
 | 1, h => simp only [at4] at h; simp [h]
 | 2, h => simp only [at4] at h; simp [h]
 | _ + 3, h => simp only [at4] at h; simp [h]
theorem mensE_yes {a b c d : Int} (h : ∀ i, i < 4 → okm (at4 a b c d i) = true) : mensE a b c d = 0 := by
 unfold mensE
 have h0 := h 0 (by omega); have h1 := h 1 (by omega); have h2 := h 2 (by omega); have h3 := h 3 (by omega)
 simp only [at4] at h0 h1 h2 h3
 simp [h0, h1, h2, h3]
theorem at4_nth {a b c d : Int} : ∀ {i : Nat}, i < 4 → nth [Value.int .i64 a, .int .i64 b, .int .i64 c, .int .i64 d] ((i : Int).toNat * 1) = some (.int .i64 (at4 a b c d i))
 | 0, _ => rfl
 | 1, _ => rfl
 | 2, _ => rfl
 | 3, _ => rfl
noncomputable def c66 : Code := Tryz.f66.body.getD .skip
theorem spec66 (a b c d : Int) : CC Tryz.prog KK 66 [aggL [.int .i64 a, .int .i64 b, .int .i64 c, .int .i64 d]] S (fun v S' => Keep S S' ∧ v = .int .i64 (mensE a b c d)) := by
 refine cc_enter (c := c66) (n := 17) Tryz.func66 rfl rfl rfl (by kernel_rfl) rfl rfl ?_
 have hl := Hold.start S
 refine xp_seq rfl ?_; refine xp_region rfl (by kernel_rfl) ?_; refine re_boxL hl rfl rfl rfl rfl rfl rfl ?_; intro B1 S1 hl; refine re_rd rfl rfl rfl rfl (rd_assign rfl rfl) ?_; refine re_end rfl ?_; iterate 2 refine xp_seq rfl ?_
 refine xp_region rfl (by kernel_rfl) ?_; refine re_rd rfl rfl rfl rfl (rd_load rfl rfl (loadN_of (z := 4) (by kernel_rfl) (by kernel_rfl) (hl.get 0 rfl) rfl)) ?_
 refine re_callL hl rfl rfl rfl rfl rfl rfl rfl (spec91 _ _ _ _) ?_; rintro v S1 hk1 rfl hl
 refine re_rd rfl rfl rfl rfl (rd_move rfl rfl) ?_; refine re_end rfl ?_; refine xp_block rfl ?_
 -- LOOP
 refine xe_sub (L' := [(7, .int .i64 0), (6, aggL [.int .i64 a, .int .i64 b, .int .i64 c, .int .i64 d])]) ⟨rfl, rfl, trivial⟩ ?_
 refine xp_loop rfl (fun m L S' => ∃ i : Nat, i ≤ 4 ∧ m = 4 - i ∧ SubE [(7, .int .i64 (i : Int)), (6, aggL [.int .i64 a, .int .i64 b, .int .i64 c, .int .i64 d])] L ∧ (∀ j, j < i → okm (at4 a b c d j) = true) ∧ Keep S S') ?_ (m := 4) ⟨0, by omega, rfl, ⟨rfl, rfl, trivial⟩, fun j hj => by omega, hl.keep⟩
 clear hl; rintro m L S' ⟨i, hi, rfl, hs, hok, hk⟩; refine xe_sub hs ?_
 refine xp_seq rfl ?_; refine xp_region rfl (by kernel_rfl) ?_; refine re_rd rfl rfl rfl rfl (rd_bin rfl rfl rfl rfl) ?_; refine re_end rfl ?_; refine xp_seq rfl ?_; refine xp_cond rfl rfl (fun h8 => ?_) (fun h8 => ?_)
 ·
  refine xp_skip rfl ?_; refine xp_seq rfl ?_; refine xp_block rfl ?_; refine xp_seq rfl ?_; refine xp_region rfl (by kernel_rfl) ?_; refine re_rd rfl rfl rfl rfl (rd_index rfl rfl rfl (index_array1 (z := 1) (len := 4) (i := (i : Int)) (cs := [Value.int .i64 a, .int .i64 b, .int .i64 c, .int .i64 d].toArray) Tryz.underlying178 (by kernel_rfl) (by kernel_rfl) ⟨by omega, by simpa using h8⟩ (at4_nth (a := a) (b := b) (c := c) (d := d) (i := i) (by simp at h8; omega)))) ?_; refine re_rd rfl rfl rfl rfl (rd_assign rfl rfl) ?_; refine re_end rfl ?_
  refine xp_seq rfl (xe_to [(15, .bool (at4 a b c d i != 2 && at4 a b c d i != 3)), (7, .int .i64 (i : Int)), (6, aggL [.int .i64 a, .int .i64 b, .int .i64 c, .int .i64 d])] (fun S' => Keep S S') ?_ ?_)
  ·
   refine xp_region rfl (by kernel_rfl) ?_; refine re_rd rfl rfl rfl rfl (rd_move rfl rfl) ?_; refine re_rd rfl rfl rfl rfl (rd_bin rfl rfl rfl rfl) ?_; refine re_rd rfl rfl rfl rfl (rd_move rfl rfl) ?_; refine re_bool (d := 12) rfl (fun h12 => ?_) (fun h12 => ?_)
   ·
    refine re_rd rfl rfl rfl rfl (rd_move rfl rfl) ?_; refine re_rd rfl rfl rfl rfl (rd_bin rfl rfl rfl rfl) ?_; refine re_rd rfl rfl rfl rfl (rd_pick_t rfl rfl rfl) ?_; refine re_end rfl ?_
    exact ⟨rfl, ⟨bl (by first | (simp [h12]; done) | (simp only [h12, BLs])), rfl, rfl, trivial⟩, hk⟩
   ·
    iterate 2 refine re_pass rfl rfl rfl rfl ?_
    refine re_rd rfl rfl rfl rfl (rd_pick_f rfl rfl rfl) ?_; refine re_end rfl ?_
    exact ⟨rfl, ⟨bl (by first | (simp [h12]; done) | (simp only [h12, BLs])), rfl, rfl, trivial⟩, hk⟩
  clear hk; intro S1 hk
  refine xp_cond rfl rfl (fun h15 => ?_) (fun h15 => ?_)
  ·
   refine xp_seq rfl ?_; refine xp_region rfl (by kernel_rfl) ?_; refine re_rd rfl rfl rfl rfl (rd_assign rfl rfl) ?_; refine re_end rfl ?_; refine xp_ret rfl ?_
   refine blk_ret (thn_ret (round_ret (blk_ret (thn_ret (done_ret (ress_tmp rfl rfl) ⟨hk, congrArg (Value.int .i64) (mensE_no (i := i) (by simpa [okm] using h15)).symm⟩)))))
  ·
   refine xp_skip rfl ?_; refine xp_region rfl (by kernel_rfl) ?_; refine re_rd rfl rfl rfl rfl (rd_bin rfl rfl rfl rfl) ?_; refine re_rd rfl rfl rfl rfl (rd_move rfl rfl) ?_; refine re_end rfl ?_
   have hlt : i < 4 := by simp at h8; omega
   refine ⟨4 - (i + 1), by omega, i + 1, by omega, rfl, ⟨congrArg some (congrArg (Value.int .i64) (IntWalk.i64_in _ (by omega))), rfl, trivial⟩, fun j hj => ?_, hk⟩
   ·rcases Nat.lt_succ_iff_lt_or_eq.1 hj with hj | rfl
    ·exact hok j hj
    ·revert h15; unfold okm; simp only [bne]; cases (at4 a b c d j == 2) <;> cases (at4 a b c d j == 3) <;> decide
 ·
  refine xp_exit rfl ?_; refine xp_seq rfl ?_; refine xp_region rfl (by kernel_rfl) ?_; refine re_rd rfl rfl rfl rfl (rd_assign rfl rfl) ?_; refine re_end rfl ?_; refine xp_ret rfl ?_
  refine done_ret (ress_tmp rfl rfl) ⟨hk, congrArg (Value.int .i64) (mensE_yes fun j hj => hok j (by simp at h8; omega)).symm⟩
def one (s : Sg) : Int := bif decide (s.kind < 1) || decide (s.kind > 12) then 8 else bif !decide (s = keptS s (ub s.kind 0) (ub s.kind 1) (ub s.kind 2) (ub s.kind 3) (ub s.kind 4) (ub s.kind 5) (ub s.kind 6) (ub s.kind 7) (ub s.kind 8) (ub s.kind 9) (ub s.kind 10) (ub s.kind 11)) then 3 else bif ub s.kind 7 && (mensE s.mx s.md s.tm s.pr != 0) then 12 else bif !rangedF s (ub s.kind 0) (ub s.kind 1) (ub s.kind 2) (ub s.kind 4) (ub s.kind 10) (ub s.kind 11) then 2 else bif s.oblique && s.last then 3 else 0
noncomputable def c55 : Code := Tryz.f55.body.getD .skip
theorem spec55 (s : Sg) (hG : Gl S) : CC Tryz.prog KK 55 [s.v] S (fun v S' => Keep S S' ∧ v = .int .i64 (one s)) := by
 refine cc_enter (c := c55) (n := 43) Tryz.func55 rfl rfl rfl (by kernel_rfl) rfl rfl ?_
 have hl := Hold.start S
 refine xp_seq rfl ?_; refine xp_region rfl (by kernel_rfl) ?_; refine re_boxL hl rfl rfl rfl rfl rfl rfl ?_; intro B1 S1 hl; refine re_rd rfl rfl rfl rfl (rd_assign rfl rfl) ?_; refine re_end rfl ?_; refine xp_seq rfl ?_; refine xp_seq rfl (xe_toL hl [(11, .bool (decide (s.kind < 1) || decide (s.kind > 12))), (1, ptrTo B1 0)] ?_ ?_)
 ·
  refine xp_region rfl (by kernel_rfl) ?_; refine re_rd rfl rfl rfl rfl (rd_fieldAddr rfl rfl (fieldAddr_at Tryz.underlying32 rfl (by kernel_rfl))) ?_; refine re_rd rfl rfl rfl rfl (rd_load rfl rfl (load1_of (by kernel_rfl) (hl.get 0 rfl) rfl)) ?_; refine re_rd rfl rfl rfl rfl (rd_bin rfl rfl rfl rfl) ?_; refine re_rd rfl rfl rfl rfl (rd_move rfl rfl) ?_; refine re_bool (d := 7) rfl (fun h7 => ?_) (fun h7 => ?_)
  ·
   iterate 3 refine re_pass rfl rfl rfl rfl ?_
   refine re_rd rfl rfl rfl rfl (rd_pick_t rfl rfl rfl) ?_; refine re_end rfl ?_
   exact ⟨rfl, ⟨bl (by first | (simp [h7]; done) | (simp only [h7, BLs])), rfl, trivial⟩, hl⟩
  ·
   refine re_rd rfl rfl rfl rfl (rd_fieldAddr rfl rfl (fieldAddr_at Tryz.underlying32 rfl (by kernel_rfl))) ?_; refine re_rd rfl rfl rfl rfl (rd_load rfl rfl (load1_of (by kernel_rfl) (hl.get 0 rfl) rfl)) ?_; refine re_rd rfl rfl rfl rfl (rd_bin rfl rfl rfl rfl) ?_; refine re_rd rfl rfl rfl rfl (rd_pick_f rfl rfl rfl) ?_; refine re_end rfl ?_
   exact ⟨rfl, ⟨bl (by first | (simp [h7]; done) | (simp only [h7, BLs])), rfl, trivial⟩, hl⟩
 intro S1 hl
 refine xp_cond rfl rfl (fun h11 => ?_) (fun h11 => ?_)
 ·
  refine xp_seq rfl ?_; refine xp_region rfl (by kernel_rfl) ?_; refine re_rd rfl rfl rfl rfl (rd_assign rfl rfl) ?_; refine re_end rfl ?_; refine xp_ret rfl ?_
  refine thn_ret (done_ret (ress_tmp rfl rfl) ⟨hl.keep, congrArg (Value.int .i64) (by unfold one; simp only [h11, cond_true, cond_false])⟩)
 ·
  have k1 : 1 ≤ s.kind := by simp at h11; omega
  have k2 : s.kind ≤ 12 := by simp at h11; omega
  refine xp_skip rfl ?_; refine xp_seq rfl ?_; refine xp_region rfl (by kernel_rfl) ?_; refine re_rd rfl rfl rfl rfl (rd_fieldAddr rfl rfl (fieldAddr_at Tryz.underlying32 rfl (by kernel_rfl))) ?_; refine re_rd rfl rfl rfl rfl (rd_load rfl rfl (load1_of (by kernel_rfl) (hl.get 0 rfl) rfl)) ?_; refine re_rd rfl rfl rfl rfl (rd_indexAddr rfl rfl rfl (indexAddr_array (z := 12) Tryz.underlying154 (by kernel_rfl) ⟨by omega, by omega⟩)) ?_; refine re_rd rfl rfl rfl rfl (rd_load rfl rfl (loadN_of (z := 12) (by kernel_rfl) (by kernel_rfl) ((hl.keep.2 2 hG.1).trans hG.2) (uses_at k1 k2))) ?_
  refine re_allocL hl rfl rfl rfl rfl rfl (z := [.bool false, .bool false, .bool false, .bool false, .bool false, .bool false, .bool false, .bool false, .bool false, .bool false, .bool false, .bool false]) (by kernel_rfl) ?_; intro B3 S3 hl; refine re_storeL hl 0 rfl rfl rfl rfl rfl rfl rfl (by kernel_rfl) rfl ?_; intro S1 hl; refine re_end rfl ?_; refine xp_seq rfl ?_; refine xp_block rfl ?_; refine xp_seq rfl ?_; refine xp_draw (idx := [0, 1, 2, 3, 4, 5]) rfl (by kernel_rfl) (by kernel_rfl) ?_
  iterate 2 refine rp_lk rfl rfl rfl rfl rfl (rd_load rfl rfl (loadN_of (z := 17) (by kernel_rfl) (by kernel_rfl) (hl.get 1 rfl) rfl)) ?_
  refine rp_lk rfl rfl rfl rfl rfl (rd_load rfl rfl (loadN_of (z := 12) (by kernel_rfl) (by kernel_rfl) (hl.get 0 rfl) rfl)) ?_
  refine rp_callL hl rfl rfl rfl rfl rfl rfl rfl (spec73 s _ _ _ _ _ _ _ _ _ _ _ _) ?_; rintro v S1 hk1 rfl hl; refine ⟨⟨stays_no (by kernel_rfl), stays_no (by kernel_rfl), stays_load rfl rfl (loadN_of (z := 17) (by kernel_rfl) (by kernel_rfl) (hl.get 1 rfl) rfl) (same_agg rfl (atoms_sign s)) rfl, trivial⟩, ?_⟩
  refine rp_rd rfl rfl rfl rfl rfl (rd_bin rfl rfl rfl (neSign _ _ s (keptS s (ub s.kind 0) (ub s.kind 1) (ub s.kind 2) (ub s.kind 3) (ub s.kind 4) (ub s.kind 5) (ub s.kind 6) (ub s.kind 7) (ub s.kind 8) (ub s.kind 9) (ub s.kind 10) (ub s.kind 11)))) ?_; refine rp_rd rfl rfl rfl rfl rfl (rd_assign rfl rfl) ?_; refine rp_end rfl ?_; refine xp_cond rfl rfl (fun h16 => ?_) (fun h16 => ?_)
  ·
   refine xp_seq rfl ?_; refine xp_region rfl (by kernel_rfl) ?_; refine re_rd rfl rfl rfl rfl (rd_assign rfl rfl) ?_; refine re_end rfl ?_; refine xp_ret rfl ?_
   refine blk_ret (thn_ret (done_ret (ress_tmp rfl rfl) ⟨hl.keep, congrArg (Value.int .i64) (by unfold one; simp only [h16, h11, cond_true, cond_false])⟩))
  ·
   refine xp_seq rfl (xe_toL hl [(22, .bool (ub s.kind 7 && (mensE s.mx s.md s.tm s.pr != 0))), (3, ptrTo B3 0), (1, ptrTo B1 0)] ?_ ?_)
   ·
    refine xp_region rfl (by kernel_rfl) ?_; refine re_rd rfl rfl rfl rfl (rd_fieldAddr rfl rfl (fieldAddr_at Tryz.underlying153 rfl (by kernel_rfl))) ?_; refine re_rd rfl rfl rfl rfl (rd_load rfl rfl (load1_of (by kernel_rfl) (hl.get 0 rfl) rfl)) ?_; refine re_rd rfl rfl rfl rfl (rd_move rfl rfl) ?_; refine re_bool (d := 25) rfl (fun h25 => ?_) (fun h25 => ?_)
    ·
     refine re_rd rfl rfl rfl rfl (rd_fieldAddr rfl rfl (fieldAddr_at Tryz.underlying32 rfl (by kernel_rfl))) ?_; refine re_rd rfl rfl rfl rfl (rd_load rfl rfl (loadN_of (z := 4) (by kernel_rfl) (by kernel_rfl) (hl.get 1 rfl) rfl)) ?_
     refine re_callL hl rfl rfl rfl rfl rfl rfl rfl (spec66 _ _ _ _) ?_; rintro v S1 hk1 rfl hl
     refine re_rd rfl rfl rfl rfl (rd_bin rfl rfl rfl rfl) ?_; refine re_rd rfl rfl rfl rfl (rd_pick_t rfl rfl rfl) ?_; refine re_rd rfl rfl rfl rfl (rd_assign rfl rfl) ?_; refine re_end rfl ?_
     exact ⟨rfl, ⟨bl (by first | (simp [h25]; done) | (simp only [h25, BLs])), rfl, rfl, trivial⟩, hl⟩
    ·
     iterate 4 refine re_pass rfl rfl rfl rfl ?_
     refine re_rd rfl rfl rfl rfl (rd_pick_f rfl rfl rfl) ?_; refine re_rd rfl rfl rfl rfl (rd_assign rfl rfl) ?_; refine re_end rfl ?_
     exact ⟨rfl, ⟨bl (by first | (simp [h25]; done) | (simp only [h25, BLs])), rfl, rfl, trivial⟩, hl⟩
   intro S1 hl
   refine xp_cond rfl rfl (fun h22 => ?_) (fun h22 => ?_)
   ·
    refine xp_seq rfl ?_; refine xp_region rfl (by kernel_rfl) ?_; refine re_rd rfl rfl rfl rfl (rd_assign rfl rfl) ?_; refine re_end rfl ?_; refine xp_ret rfl ?_
    refine blk_ret (thn_ret (done_ret (ress_tmp rfl rfl) ⟨hl.keep, congrArg (Value.int .i64) (by unfold one; simp only [h22, h16, h11, cond_true, cond_false])⟩))
   ·
    refine xp_seq rfl ?_; refine xp_region rfl (by kernel_rfl) ?_; refine re_rd rfl rfl rfl rfl (rd_load rfl rfl (loadN_of (z := 17) (by kernel_rfl) (by kernel_rfl) (hl.get 1 rfl) rfl)) ?_; refine re_rd rfl rfl rfl rfl (rd_load rfl rfl (loadN_of (z := 12) (by kernel_rfl) (by kernel_rfl) (hl.get 0 rfl) rfl)) ?_
    refine re_callL hl rfl rfl rfl rfl rfl rfl rfl (spec74 s _ _ _ _ _ _ _ _ _ _ _ _) ?_; rintro v S1 hk1 rfl hl
    refine re_rd rfl rfl rfl rfl (rd_un rfl rfl rfl) ?_; refine re_rd rfl rfl rfl rfl (rd_assign rfl rfl) ?_; refine re_end rfl ?_; refine xp_cond rfl rfl (fun h31 => ?_) (fun h31 => ?_)
    ·
     refine xp_seq rfl ?_; refine xp_region rfl (by kernel_rfl) ?_; refine re_rd rfl rfl rfl rfl (rd_assign rfl rfl) ?_; refine re_end rfl ?_; refine xp_ret rfl ?_
     refine blk_ret (thn_ret (done_ret (ress_tmp rfl rfl) ⟨hl.keep, congrArg (Value.int .i64) (by unfold one; simp only [h31, h22, h16, h11, cond_true, cond_false])⟩))
    ·
     refine xp_seq rfl (xe_toL hl [(36, .bool (s.oblique && s.last)), (3, ptrTo B3 0), (1, ptrTo B1 0)] ?_ ?_)
     ·
      refine xp_region rfl (by kernel_rfl) ?_; refine re_rd rfl rfl rfl rfl (rd_fieldAddr rfl rfl (fieldAddr_at Tryz.underlying32 rfl (by kernel_rfl))) ?_; refine re_rd rfl rfl rfl rfl (rd_load rfl rfl (load1_of (by kernel_rfl) (hl.get 1 rfl) rfl)) ?_; refine re_rd rfl rfl rfl rfl (rd_move rfl rfl) ?_; refine re_bool (d := 39) rfl (fun h39 => ?_) (fun h39 => ?_)
      ·
       refine re_rd rfl rfl rfl rfl (rd_fieldAddr rfl rfl (fieldAddr_at Tryz.underlying32 rfl (by kernel_rfl))) ?_; refine re_rd rfl rfl rfl rfl (rd_load rfl rfl (load1_of (by kernel_rfl) (hl.get 1 rfl) rfl)) ?_; refine re_rd rfl rfl rfl rfl (rd_pick_t rfl rfl rfl) ?_; refine re_rd rfl rfl rfl rfl (rd_assign rfl rfl) ?_; refine re_end rfl ?_
       exact ⟨rfl, ⟨bl (by first | (simp [h39]; done) | (simp only [h39, BLs])), rfl, rfl, trivial⟩, hl⟩
      ·
       iterate 2 refine re_pass rfl rfl rfl rfl ?_
       refine re_rd rfl rfl rfl rfl (rd_pick_f rfl rfl rfl) ?_; refine re_rd rfl rfl rfl rfl (rd_assign rfl rfl) ?_; refine re_end rfl ?_
       exact ⟨rfl, ⟨bl (by first | (simp [h39]; done) | (simp only [h39, BLs])), rfl, rfl, trivial⟩, hl⟩
     intro S1 hl
     refine xp_cond rfl rfl (fun h36 => ?_) (fun h36 => ?_)
     ·
      refine xp_seq rfl ?_; refine xp_region rfl (by kernel_rfl) ?_; refine re_rd rfl rfl rfl rfl (rd_assign rfl rfl) ?_; refine re_end rfl ?_; refine xp_ret rfl ?_
      refine blk_ret (thn_ret (done_ret (ress_tmp rfl rfl) ⟨hl.keep, congrArg (Value.int .i64) (by unfold one; simp only [h36, h31, h22, h16, h11, cond_true, cond_false])⟩))
     ·
      refine xp_skip rfl ?_; refine xp_seq rfl ?_; refine xp_region rfl (by kernel_rfl) ?_; refine re_rd rfl rfl rfl rfl (rd_assign rfl rfl) ?_; refine re_end rfl ?_; refine xp_ret rfl ?_
      refine done_ret (ress_tmp rfl rfl) ⟨hl.keep, congrArg (Value.int .i64) (by unfold one; simp only [h36, h31, h22, h16, h11, cond_true, cond_false])⟩
end Go.Proofs.YtblhfojaiipboaaGreatDoor
