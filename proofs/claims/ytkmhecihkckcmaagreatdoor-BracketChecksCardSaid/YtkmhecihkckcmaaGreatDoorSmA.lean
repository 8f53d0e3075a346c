/-
  Signs as data. sign.kept, sign.within, sign.ranged. mens.Check, sign.One. Lists of signs, names. Spots; slices.Clone. source.Merge. Cells taken. Sources as arguments. Small functions of the reference and of the law.
-/
import Derived.Test.YtkmhecihkckcmaaGreatDoorBc0
import Derived.Test.YtkmhecihkckcmaaGreatDoorSy1
import Derived.Test.YtkmhecihkckcmaaGreatDoorSy2
import Derived.IntWalk
import Derived.KernelRfl


namespace Go.Proofs.YtkmhecihkckcmaaGreatDoor
open Go.Cm Go
set_option maxRecDepth 100000
variable {S : St}
def callM : FuncId → List Value → St → Option Value := fun f a _ => match a with
 | [] => bif Nat.beq f 4 then some (.bool true) else none
 | _ => none
abbrev KK : Known := kk callM
structure Sg where
 kind : Int
 value : Int
 place : Int
 acc : Int
 color : Bool
 stem : Int
 oblique : Bool
 last : Bool
 mx : Int
 md : Int
 tm : Int
 pr : Int
 stroke : Bool
 n : Int
 d : Int
 step : Int
 line : Int
instance : DecidableEq Sg := fun a b => decidable_of_iff (a.kind = b.kind ∧ a.value = b.value ∧ a.place = b.place ∧ a.acc = b.acc ∧ a.color = b.color ∧ a.stem = b.stem ∧ a.oblique = b.oblique ∧ a.last = b.last ∧ a.mx = b.mx ∧ a.md = b.md ∧ a.tm = b.tm ∧ a.pr = b.pr ∧ a.stroke = b.stroke ∧ a.n = b.n ∧ a.d = b.d ∧ a.step = b.step ∧ a.line = b.line) ⟨fun h => by cases a; cases b; rw [Sg.mk.injEq]; exact h, fun h => by subst h; simp⟩
def Sg.cells (s : Sg) : List Value := [.int .i64 s.kind, .int .i64 s.value, .int .i64 s.place, .int .i64 s.acc, .bool s.color, .int .i64 s.stem, .bool s.oblique, .bool s.last, .int .i64 s.mx, .int .i64 s.md, .int .i64 s.tm, .int .i64 s.pr, .bool s.stroke, .int .i64 s.n, .int .i64 s.d, .int .i64 s.step, .int .i64 s.line]
def Sg.v (s : Sg) : Value := aggL s.cells
def usesL : List Value := [.bool false, .bool false, .bool false, .bool false, .bool false, .bool false, .bool false, .bool false, .bool false, .bool false, .bool false, .bool false, .bool true, .bool true, .bool true, .bool true, .bool false, .bool false, .bool false, .bool false, .bool false, .bool false, .bool false, .bool false, .bool true, .bool false, .bool false, .bool false, .bool false, .bool false, .bool false, .bool false, .bool false, .bool false, .bool false, .bool false, .bool false, .bool false, .bool false, .bool false, .bool false, .bool false, .bool false, .bool false, .bool false, .bool false, .bool false, .bool false, .bool false, .bool true, .bool true, .bool true, .bool true, .bool true, .bool true, .bool false, .bool false, .bool false, .bool false, .bool false, .bool false, .bool false, .bool false, .bool false, .bool false, .bool false, .bool false, .bool true, .bool true, .bool false, .bool false, .bool false, .bool false, .bool false, .bool false, .bool false, .bool false, .bool false, .bool false, .bool false, .bool false, .bool true, .bool true, .bool false, .bool false, .bool false, .bool false, .bool false, .bool false, .bool false, .bool false, .bool false, .bool false, .bool false, .bool false, .bool true, .bool false, .bool false, .bool false, .bool false, .bool false, .bool false, .bool false, .bool false, .bool false, .bool true, .bool false, .bool false, .bool false, .bool false, .bool false, .bool false, .bool false, .bool false, .bool false, .bool false, .bool false, .bool false, .bool false, .bool false, .bool false, .bool false, .bool false, .bool false, .bool false, .bool false, .bool false, .bool false, .bool false, .bool true, .bool false, .bool false, .bool false, .bool false, .bool false, .bool false, .bool false, .bool false, .bool false, .bool false, .bool false, .bool false, .bool false, .bool false, .bool false, .bool false, .bool false, .bool false, .bool false, .bool false, .bool false, .bool false, .bool false, .bool false, .bool false, .bool false]
def ubn (k i : Nat) : Bool := match nth usesL (k * 12 + i) with
 | some (.bool b) => b
 | _ => false
def ub (k : Int) (i : Nat) : Bool := ubn k.toNat i
theorem uses_at {k : Int} (h1 : 1 ≤ k) (h2 : k ≤ 12) : takeN 12 (dropN (0 + k.toNat * 12) usesL) = some [.bool (ub k 0), .bool (ub k 1), .bool (ub k 2), .bool (ub k 3), .bool (ub k 4), .bool (ub k 5), .bool (ub k 6), .bool (ub k 7), .bool (ub k 8), .bool (ub k 9), .bool (ub k 10), .bool (ub k 11)] := by
 obtain rfl | rfl | rfl | rfl | rfl | rfl | rfl | rfl | rfl | rfl | rfl | rfl : k = 1 ∨ k = 2 ∨ k = 3 ∨ k = 4 ∨ k = 5 ∨ k = 6 ∨ k = 7 ∨ k = 8 ∨ k = 9 ∨ k = 10 ∨ k = 11 ∨ k = 12 := by omega
 all_goals rfl
def Gl (S : St) : Prop := 1 < S.size ∧ S.get 1 = some (.cells usesL 0 false false [])
theorem Gl.keep {S T : St} (h : Gl S) (k : Keep S T) : Gl T := ⟨Nat.lt_of_lt_of_le h.1 k.1, (k.2 1 h.1).trans h.2⟩
theorem atoms_sign (s : Sg) : ∀ v, v ∈ s.cells → Atom v := by
 unfold Sg.cells
 repeat first | exact atoms_nil | refine atoms_cons (atom_int _ _) ?_ | refine atoms_cons (atom_bool _) ?_
theorem BLs : (∀ b : Bool, (b && true) = b) ∧ (∀ b : Bool, (true && b) = b) ∧ (∀ b : Bool, (b && false) = false) ∧ (∀ b : Bool, (false && b) = false) ∧ (∀ b : Bool, (b || true) = true) ∧ (∀ b : Bool, (true || b) = true) ∧ (∀ b : Bool, (b || false) = b) ∧ (∀ b : Bool, (false || b) = b) ∧ (∀ b : Bool, (!!b) = b) ∧ (!true) = false ∧ (!false) = true :=
 ⟨Bool.and_true, Bool.true_and, Bool.and_false, Bool.false_and, Bool.or_true, Bool.true_or, Bool.or_false, Bool.false_or, Bool.not_not, rfl, rfl⟩
theorem eqMens (d : Nat) (a b c e a' b' c' e' : Int) : eqV Tryz.prog (d + 2) 59 (aggL [.int .i64 a, .int .i64 b, .int .i64 c, .int .i64 e]) (aggL [.int .i64 a', .int .i64 b', .int .i64 c', .int .i64 e']) = some ((a == a') && ((b == b') && ((c == c') && ((e == e') && true)))) :=
 eq_struct Tryz.underlying59 (by kernel_rfl) (eqFields_cons (by kernel_rfl) (part1 (by kernel_rfl) rfl) (part1 (by kernel_rfl) rfl) (eq_int Tryz.underlying3) (eqFields_cons (by kernel_rfl) (part1 (by kernel_rfl) rfl) (part1 (by kernel_rfl) rfl) (eq_int Tryz.underlying3) (eqFields_cons (by kernel_rfl) (part1 (by kernel_rfl) rfl) (part1 (by kernel_rfl) rfl) (eq_int Tryz.underlying3) (eqFields_cons (by kernel_rfl) (part1 (by kernel_rfl) rfl) (part1 (by kernel_rfl) rfl) (eq_int Tryz.underlying3) rfl))))
theorem eqClef (d : Nat) (a b a' b' : Int) : eqV Tryz.prog (d + 2) 61 (aggL [.int .i64 a, .int .i64 b]) (aggL [.int .i64 a', .int .i64 b']) = some ((a == a') && ((b == b') && true)) :=
 eq_struct Tryz.underlying61 (by kernel_rfl) (eqFields_cons (by kernel_rfl) (part1 (by kernel_rfl) rfl) (part1 (by kernel_rfl) rfl) (eq_int Tryz.underlying3) (eqFields_cons (by kernel_rfl) (part1 (by kernel_rfl) rfl) (part1 (by kernel_rfl) rfl) (eq_int Tryz.underlying3) rfl))
theorem eqSign (s r : Sg) : eqV Tryz.prog eqDepth 63 s.v r.v = some (decide (s = r)) := by
 have h : eqV Tryz.prog 40 63 (aggL s.cells) (aggL r.cells) = _ := eq_struct Tryz.underlying63 (by kernel_rfl) (eqFields_cons (by kernel_rfl) (part1 (by kernel_rfl) rfl) (part1 (by kernel_rfl) rfl) (eq_int Tryz.underlying3) (eqFields_cons (by kernel_rfl) (part1 (by kernel_rfl) rfl) (part1 (by kernel_rfl) rfl) (eq_int Tryz.underlying3) (eqFields_cons (by kernel_rfl) (part1 (by kernel_rfl) rfl) (part1 (by kernel_rfl) rfl) (eq_int Tryz.underlying3) (eqFields_cons (by kernel_rfl) (part1 (by kernel_rfl) rfl) (part1 (by kernel_rfl) rfl) (eq_int Tryz.underlying3) (eqFields_cons (by kernel_rfl) (part1 (by kernel_rfl) rfl) (part1 (by kernel_rfl) rfl) (eq_bool Tryz.underlying4) (eqFields_cons (by kernel_rfl) (part1 (by kernel_rfl) rfl) (part1 (by kernel_rfl) rfl) (eq_int Tryz.underlying3) (eqFields_cons (by kernel_rfl) (part1 (by kernel_rfl) rfl) (part1 (by kernel_rfl) rfl) (eq_bool Tryz.underlying4) (eqFields_cons (by kernel_rfl) (part1 (by kernel_rfl) rfl) (part1 (by kernel_rfl) rfl) (eq_bool Tryz.underlying4) (eqFields_cons (by kernel_rfl) (partN (z := 4) (by kernel_rfl) (by kernel_rfl) rfl) (partN (z := 4) (by kernel_rfl) (by kernel_rfl) rfl) (eqMens ..) (eqFields_cons (by kernel_rfl) (part1 (by kernel_rfl) rfl) (part1 (by kernel_rfl) rfl) (eq_bool Tryz.underlying4) (eqFields_cons (by kernel_rfl) (part1 (by kernel_rfl) rfl) (part1 (by kernel_rfl) rfl) (eq_int Tryz.underlying3) (eqFields_cons (by kernel_rfl) (part1 (by kernel_rfl) rfl) (part1 (by kernel_rfl) rfl) (eq_int Tryz.underlying3) (eqFields_cons (by kernel_rfl) (partN (z := 2) (by kernel_rfl) (by kernel_rfl) rfl) (partN (z := 2) (by kernel_rfl) (by kernel_rfl) rfl) (eqClef ..) rfl)))))))))))))
 refine h.trans (congrArg some ?_)
 cases s; cases r
 simp only [Sg.mk.injEq]
 rw [Bool.eq_iff_iff]
 simp [and_assoc]
theorem neSign (xo yo : Operand) (s r : Sg) : binV Tryz.prog .neq 63 xo yo s.v r.v = some (.bool (!decide (s = r))) := bin_ne (by kernel_rfl) (eqSign s r)
theorem i6 {x : Int} (h : -9223372036854775808 ≤ x ∧ x ≤ 9223372036854775807) : some (Value.int .i64 (IntKind.i64.wrap x)) = some (.int .i64 x) := congrArg some (congrArg (Value.int .i64) (IntWalk.i64_in x h))
theorem az24 : allSz Tryz.prog 24 = true := by kernel_rfl
theorem az46 : allSz Tryz.prog 46 = true := by kernel_rfl
theorem az54 : allSz Tryz.prog 54 = true := by kernel_rfl
theorem az59 : allSz Tryz.prog 59 = true := by kernel_rfl
theorem az61 : allSz Tryz.prog 61 = true := by kernel_rfl
theorem az63 : allSz Tryz.prog 63 = true := by kernel_rfl
theorem az84 : allSz Tryz.prog 84 = true := by kernel_rfl
theorem az95 : allSz Tryz.prog 95 = true := by kernel_rfl
theorem az97 : allSz Tryz.prog 97 = true := by kernel_rfl
theorem az139 : allSz Tryz.prog 139 = true := by kernel_rfl
end Go.Proofs.YtkmhecihkckcmaaGreatDoor
namespace Go.Proofs.YtkmhecihkckcmaaGreatDoor
open Go.Cm Go
set_option maxRecDepth 100000
variable {S : St}
def keptS (s : Sg) (a0 a1 a2 a3 a4 a5 a6 a7 a8 a9 a10 a11 : Bool) : Sg := { kind := s.kind, value := bif a0 then s.value else 0, place := bif a1 then s.place else 0, acc := bif a2 then s.acc else 0, color := bif a3 then s.color else false, stem := bif a4 then s.stem else 0, oblique := bif a5 then s.oblique else false, last := bif a6 then s.last else false, mx := bif a7 then s.mx else 0, md := bif a7 then s.md else 0, tm := bif a7 then s.tm else 0, pr := bif a7 then s.pr else 0, stroke := bif a8 then s.stroke else false, n := bif a9 then s.n else 0, d := bif a10 then s.d else 0, step := bif a11 then s.step else 0, line := bif a11 then s.line else 0 }
noncomputable def c81 : Code := Tryz.f81.body.getD .skip
theorem spec81 (s : Sg) (a0 a1 a2 a3 a4 a5 a6 a7 a8 a9 a10 a11 : Bool) : CC Tryz.prog KK 81 [s.v, .agg #[.bool a0, .bool a1, .bool a2, .bool a3, .bool a4, .bool a5, .bool a6, .bool a7, .bool a8, .bool a9, .bool a10, .bool a11]] S (fun v S' => Keep S S' ∧ v = (keptS s a0 a1 a2 a3 a4 a5 a6 a7 a8 a9 a10 a11).v) := by
 refine cc_enter (c := c81) (n := 70) Tryz.func81 rfl rfl rfl (by kernel_rfl) rfl rfl ?_
 have hl := Hold.start S
 refine xs (by kernel_rfl) ?_; refine re_boxL hl rfl rfl rfl rfl rfl rfl ?_; intro B2 S2 hl; refine re_boxL hl rfl rfl rfl rfl rfl rfl ?_; intro B3 S3 hl; refine re_allocL hl rfl rfl rfl rfl rfl (z := [.int .i64 0, .int .i64 0, .int .i64 0, .int .i64 0, .bool false, .int .i64 0, .bool false, .bool false, .int .i64 0, .int .i64 0, .int .i64 0, .int .i64 0, .bool false, .int .i64 0, .int .i64 0, .int .i64 0, .int .i64 0]) (by kernel_rfl) ?_; intro B4 S4 hl; refine re_end rfl ?_; refine xs (by kernel_rfl) ?_; refine rr rfl (rd_fieldAddr rfl rfl (fa Tryz.underlying63 az63 rfl)) ?_
 refine rr rfl (rl hl 2 rfl rfl (by kernel_rfl) rfl rfl) ?_; refine rr rfl (rd_build rfl rfl (v := aggL [.int .i64 s.kind, .int .i64 0, .int .i64 0, .int .i64 0, .bool false, .int .i64 0, .bool false, .bool false, .int .i64 0, .int .i64 0, .int .i64 0, .int .i64 0, .bool false, .int .i64 0, .int .i64 0, .int .i64 0, .int .i64 0]) (by rfl)) ?_
 refine re_allocL hl rfl rfl rfl rfl rfl (z := [.int .i64 0, .int .i64 0, .int .i64 0, .int .i64 0, .bool false, .int .i64 0, .bool false, .bool false, .int .i64 0, .int .i64 0, .int .i64 0, .int .i64 0, .bool false, .int .i64 0, .int .i64 0, .int .i64 0, .int .i64 0]) (by kernel_rfl) ?_; intro B5 S5 hl; refine re_storeL hl 0 rfl rfl rfl rfl rfl rfl rfl (by kernel_rfl) rfl ?_; intro S6 hl; refine re_end rfl ?_
 refine xp_seq rfl (xe_to (L1 := [(2, ptrTo B2 0), (3, ptrTo B3 0), (4, ptrTo B4 0), (5, ptrTo B5 0)]) (fun S' => Hold S [S] S' [(B5, .cells [.int .i64 s.kind, .int .i64 (bif a0 then s.value else 0), .int .i64 0, .int .i64 0, .bool false, .int .i64 0, .bool false, .bool false, .int .i64 0, .int .i64 0, .int .i64 0, .int .i64 0, .bool false, .int .i64 0, .int .i64 0, .int .i64 0, .int .i64 0] 63 false true []), (B4, .cells [.int .i64 0, .int .i64 0, .int .i64 0, .int .i64 0, .bool false, .int .i64 0, .bool false, .bool false, .int .i64 0, .int .i64 0, .int .i64 0, .int .i64 0, .bool false, .int .i64 0, .int .i64 0, .int .i64 0, .int .i64 0] 63 false true []), (B3, .cells [.bool a0, .bool a1, .bool a2, .bool a3, .bool a4, .bool a5, .bool a6, .bool a7, .bool a8, .bool a9, .bool a10, .bool a11] 139 false true []), (B2, .cells [.int .i64 s.kind, .int .i64 s.value, .int .i64 s.place, .int .i64 s.acc, .bool s.color, .int .i64 s.stem, .bool s.oblique, .bool s.last, .int .i64 s.mx, .int .i64 s.md, .int .i64 s.tm, .int .i64 s.pr, .bool s.stroke, .int .i64 s.n, .int .i64 s.d, .int .i64 s.step, .int .i64 s.line] 63 false true [])]) ?_ ?_)
 ·refine xp_seq rfl (xp_region rfl (by kernel_rfl) ?_)
  refine rr rfl (rd_fieldAddr rfl rfl (fa Tryz.underlying139 az139 rfl)) ?_; refine rr rfl (rl hl 2 rfl rfl (by kernel_rfl) rfl rfl) ?_; refine re_end rfl ?_; refine xp_cond rfl rfl (fun h => ?_) (fun h => ?_)
  ·subst h
   refine xg (by kernel_rfl) ?_; refine rr rfl (rd_fieldAddr rfl rfl (fa Tryz.underlying63 az63 rfl)) ?_; refine rr rfl (rl hl 3 rfl rfl (by kernel_rfl) rfl rfl) ?_; refine rr rfl (rd_fieldAddr rfl rfl (fa Tryz.underlying63 az63 rfl)) ?_; refine re_storeL hl 0 rfl rfl rfl rfl rfl rfl rfl (by kernel_rfl) rfl ?_; intro S1 hl
   exact re_end rfl ⟨rfl, ⟨rfl, rfl, rfl, rfl, trivial⟩, hl⟩
  ·subst h
   exact xp_skip rfl ⟨rfl, ⟨rfl, rfl, rfl, rfl, trivial⟩, hl⟩
 clear hl; intro S6 hl
 refine xp_seq rfl (xe_to (L1 := [(2, ptrTo B2 0), (3, ptrTo B3 0), (4, ptrTo B4 0), (5, ptrTo B5 0)]) (fun S' => Hold S [S] S' [(B5, .cells [.int .i64 s.kind, .int .i64 (bif a0 then s.value else 0), .int .i64 (bif a1 then s.place else 0), .int .i64 0, .bool false, .int .i64 0, .bool false, .bool false, .int .i64 0, .int .i64 0, .int .i64 0, .int .i64 0, .bool false, .int .i64 0, .int .i64 0, .int .i64 0, .int .i64 0] 63 false true []), (B4, .cells [.int .i64 0, .int .i64 0, .int .i64 0, .int .i64 0, .bool false, .int .i64 0, .bool false, .bool false, .int .i64 0, .int .i64 0, .int .i64 0, .int .i64 0, .bool false, .int .i64 0, .int .i64 0, .int .i64 0, .int .i64 0] 63 false true []), (B3, .cells [.bool a0, .bool a1, .bool a2, .bool a3, .bool a4, .bool a5, .bool a6, .bool a7, .bool a8, .bool a9, .bool a10, .bool a11] 139 false true []), (B2, .cells [.int .i64 s.kind, .int .i64 s.value, .int .i64 s.place, .int .i64 s.acc, .bool s.color, .int .i64 s.stem, .bool s.oblique, .bool s.last, .int .i64 s.mx, .int .i64 s.md, .int .i64 s.tm, .int .i64 s.pr, .bool s.stroke, .int .i64 s.n, .int .i64 s.d, .int .i64 s.step, .int .i64 s.line] 63 false true [])]) ?_ ?_)
 ·refine xp_seq rfl (xp_region rfl (by kernel_rfl) ?_)
  refine rr rfl (rd_fieldAddr rfl rfl (fa Tryz.underlying139 az139 rfl)) ?_; refine rr rfl (rl hl 2 rfl rfl (by kernel_rfl) rfl rfl) ?_; refine re_end rfl ?_; refine xp_cond rfl rfl (fun h => ?_) (fun h => ?_)
  ·subst h
   refine xg (by kernel_rfl) ?_; refine rr rfl (rd_fieldAddr rfl rfl (fa Tryz.underlying63 az63 rfl)) ?_; refine rr rfl (rl hl 3 rfl rfl (by kernel_rfl) rfl rfl) ?_; refine rr rfl (rd_fieldAddr rfl rfl (fa Tryz.underlying63 az63 rfl)) ?_; refine re_storeL hl 0 rfl rfl rfl rfl rfl rfl rfl (by kernel_rfl) rfl ?_; intro S1 hl
   exact re_end rfl ⟨rfl, ⟨rfl, rfl, rfl, rfl, trivial⟩, hl⟩
  ·subst h
   exact xp_skip rfl ⟨rfl, ⟨rfl, rfl, rfl, rfl, trivial⟩, hl⟩
 clear hl; intro S6 hl
 refine xp_seq rfl (xe_to (L1 := [(2, ptrTo B2 0), (3, ptrTo B3 0), (4, ptrTo B4 0), (5, ptrTo B5 0)]) (fun S' => Hold S [S] S' [(B5, .cells [.int .i64 s.kind, .int .i64 (bif a0 then s.value else 0), .int .i64 (bif a1 then s.place else 0), .int .i64 (bif a2 then s.acc else 0), .bool false, .int .i64 0, .bool false, .bool false, .int .i64 0, .int .i64 0, .int .i64 0, .int .i64 0, .bool false, .int .i64 0, .int .i64 0, .int .i64 0, .int .i64 0] 63 false true []), (B4, .cells [.int .i64 0, .int .i64 0, .int .i64 0, .int .i64 0, .bool false, .int .i64 0, .bool false, .bool false, .int .i64 0, .int .i64 0, .int .i64 0, .int .i64 0, .bool false, .int .i64 0, .int .i64 0, .int .i64 0, .int .i64 0] 63 false true []), (B3, .cells [.bool a0, .bool a1, .bool a2, .bool a3, .bool a4, .bool a5, .bool a6, .bool a7, .bool a8, .bool a9, .bool a10, .bool a11] 139 false true []), (B2, .cells [.int .i64 s.kind, .int .i64 s.value, .int .i64 s.place, .int .i64 s.acc, .bool s.color, .int .i64 s.stem, .bool s.oblique, .bool s.last, .int .i64 s.mx, .int .i64 s.md, .int .i64 s.tm, .int .i64 s.pr, .bool s.stroke, .int .i64 s.n, .int .i64 s.d, .int .i64 s.step, .int .i64 s.line] 63 false true [])]) ?_ ?_)
 ·refine xp_seq rfl (xp_region rfl (by kernel_rfl) ?_)
  refine rr rfl (rd_fieldAddr rfl rfl (fa Tryz.underlying139 az139 rfl)) ?_; refine rr rfl (rl hl 2 rfl rfl (by kernel_rfl) rfl rfl) ?_; refine re_end rfl ?_; refine xp_cond rfl rfl (fun h => ?_) (fun h => ?_)
  ·subst h
   refine xg (by kernel_rfl) ?_; refine rr rfl (rd_fieldAddr rfl rfl (fa Tryz.underlying63 az63 rfl)) ?_; refine rr rfl (rl hl 3 rfl rfl (by kernel_rfl) rfl rfl) ?_; refine rr rfl (rd_fieldAddr rfl rfl (fa Tryz.underlying63 az63 rfl)) ?_; refine re_storeL hl 0 rfl rfl rfl rfl rfl rfl rfl (by kernel_rfl) rfl ?_; intro S1 hl
   exact re_end rfl ⟨rfl, ⟨rfl, rfl, rfl, rfl, trivial⟩, hl⟩
  ·subst h
   exact xp_skip rfl ⟨rfl, ⟨rfl, rfl, rfl, rfl, trivial⟩, hl⟩
 clear hl; intro S6 hl
 refine xp_seq rfl (xe_to (L1 := [(2, ptrTo B2 0), (3, ptrTo B3 0), (4, ptrTo B4 0), (5, ptrTo B5 0)]) (fun S' => Hold S [S] S' [(B5, .cells [.int .i64 s.kind, .int .i64 (bif a0 then s.value else 0), .int .i64 (bif a1 then s.place else 0), .int .i64 (bif a2 then s.acc else 0), .bool (bif a3 then s.color else false), .int .i64 0, .bool false, .bool false, .int .i64 0, .int .i64 0, .int .i64 0, .int .i64 0, .bool false, .int .i64 0, .int .i64 0, .int .i64 0, .int .i64 0] 63 false true []), (B4, .cells [.int .i64 0, .int .i64 0, .int .i64 0, .int .i64 0, .bool false, .int .i64 0, .bool false, .bool false, .int .i64 0, .int .i64 0, .int .i64 0, .int .i64 0, .bool false, .int .i64 0, .int .i64 0, .int .i64 0, .int .i64 0] 63 false true []), (B3, .cells [.bool a0, .bool a1, .bool a2, .bool a3, .bool a4, .bool a5, .bool a6, .bool a7, .bool a8, .bool a9, .bool a10, .bool a11] 139 false true []), (B2, .cells [.int .i64 s.kind, .int .i64 s.value, .int .i64 s.place, .int .i64 s.acc, .bool s.color, .int .i64 s.stem, .bool s.oblique, .bool s.last, .int .i64 s.mx, .int .i64 s.md, .int .i64 s.tm, .int .i64 s.pr, .bool s.stroke, .int .i64 s.n, .int .i64 s.d, .int .i64 s.step, .int .i64 s.line] 63 false true [])]) ?_ ?_)
 ·refine xp_seq rfl (xp_region rfl (by kernel_rfl) ?_)
  refine rr rfl (rd_fieldAddr rfl rfl (fa Tryz.underlying139 az139 rfl)) ?_; refine rr rfl (rl hl 2 rfl rfl (by kernel_rfl) rfl rfl) ?_; refine re_end rfl ?_; refine xp_cond rfl rfl (fun h => ?_) (fun h => ?_)
  ·subst h
   refine xg (by kernel_rfl) ?_; refine rr rfl (rd_fieldAddr rfl rfl (fa Tryz.underlying63 az63 rfl)) ?_; refine rr rfl (rl hl 3 rfl rfl (by kernel_rfl) rfl rfl) ?_; refine rr rfl (rd_fieldAddr rfl rfl (fa Tryz.underlying63 az63 rfl)) ?_; refine re_storeL hl 0 rfl rfl rfl rfl rfl rfl rfl (by kernel_rfl) rfl ?_; intro S1 hl
   exact re_end rfl ⟨rfl, ⟨rfl, rfl, rfl, rfl, trivial⟩, hl⟩
  ·subst h
   exact xp_skip rfl ⟨rfl, ⟨rfl, rfl, rfl, rfl, trivial⟩, hl⟩
 clear hl; intro S6 hl
 refine xp_seq rfl (xe_to (L1 := [(2, ptrTo B2 0), (3, ptrTo B3 0), (4, ptrTo B4 0), (5, ptrTo B5 0)]) (fun S' => Hold S [S] S' [(B5, .cells [.int .i64 s.kind, .int .i64 (bif a0 then s.value else 0), .int .i64 (bif a1 then s.place else 0), .int .i64 (bif a2 then s.acc else 0), .bool (bif a3 then s.color else false), .int .i64 (bif a4 then s.stem else 0), .bool false, .bool false, .int .i64 0, .int .i64 0, .int .i64 0, .int .i64 0, .bool false, .int .i64 0, .int .i64 0, .int .i64 0, .int .i64 0] 63 false true []), (B4, .cells [.int .i64 0, .int .i64 0, .int .i64 0, .int .i64 0, .bool false, .int .i64 0, .bool false, .bool false, .int .i64 0, .int .i64 0, .int .i64 0, .int .i64 0, .bool false, .int .i64 0, .int .i64 0, .int .i64 0, .int .i64 0] 63 false true []), (B3, .cells [.bool a0, .bool a1, .bool a2, .bool a3, .bool a4, .bool a5, .bool a6, .bool a7, .bool a8, .bool a9, .bool a10, .bool a11] 139 false true []), (B2, .cells [.int .i64 s.kind, .int .i64 s.value, .int .i64 s.place, .int .i64 s.acc, .bool s.color, .int .i64 s.stem, .bool s.oblique, .bool s.last, .int .i64 s.mx, .int .i64 s.md, .int .i64 s.tm, .int .i64 s.pr, .bool s.stroke, .int .i64 s.n, .int .i64 s.d, .int .i64 s.step, .int .i64 s.line] 63 false true [])]) ?_ ?_)
 ·refine xp_seq rfl (xp_region rfl (by kernel_rfl) ?_)
  refine rr rfl (rd_fieldAddr rfl rfl (fa Tryz.underlying139 az139 rfl)) ?_; refine rr rfl (rl hl 2 rfl rfl (by kernel_rfl) rfl rfl) ?_; refine re_end rfl ?_; refine xp_cond rfl rfl (fun h => ?_) (fun h => ?_)
  ·subst h
   refine xg (by kernel_rfl) ?_; refine rr rfl (rd_fieldAddr rfl rfl (fa Tryz.underlying63 az63 rfl)) ?_; refine rr rfl (rl hl 3 rfl rfl (by kernel_rfl) rfl rfl) ?_; refine rr rfl (rd_fieldAddr rfl rfl (fa Tryz.underlying63 az63 rfl)) ?_; refine re_storeL hl 0 rfl rfl rfl rfl rfl rfl rfl (by kernel_rfl) rfl ?_; intro S1 hl
   exact re_end rfl ⟨rfl, ⟨rfl, rfl, rfl, rfl, trivial⟩, hl⟩
  ·subst h
   exact xp_skip rfl ⟨rfl, ⟨rfl, rfl, rfl, rfl, trivial⟩, hl⟩
 clear hl; intro S6 hl
 refine xp_seq rfl (xe_to (L1 := [(2, ptrTo B2 0), (3, ptrTo B3 0), (4, ptrTo B4 0), (5, ptrTo B5 0)]) (fun S' => Hold S [S] S' [(B5, .cells [.int .i64 s.kind, .int .i64 (bif a0 then s.value else 0), .int .i64 (bif a1 then s.place else 0), .int .i64 (bif a2 then s.acc else 0), .bool (bif a3 then s.color else false), .int .i64 (bif a4 then s.stem else 0), .bool (bif a5 then s.oblique else false), .bool false, .int .i64 0, .int .i64 0, .int .i64 0, .int .i64 0, .bool false, .int .i64 0, .int .i64 0, .int .i64 0, .int .i64 0] 63 false true []), (B4, .cells [.int .i64 0, .int .i64 0, .int .i64 0, .int .i64 0, .bool false, .int .i64 0, .bool false, .bool false, .int .i64 0, .int .i64 0, .int .i64 0, .int .i64 0, .bool false, .int .i64 0, .int .i64 0, .int .i64 0, .int .i64 0] 63 false true []), (B3, .cells [.bool a0, .bool a1, .bool a2, .bool a3, .bool a4, .bool a5, .bool a6, .bool a7, .bool a8, .bool a9, .bool a10, .bool a11] 139 false true []), (B2, .cells [.int .i64 s.kind, .int .i64 s.value, .int .i64 s.place, .int .i64 s.acc, .bool s.color, .int .i64 s.stem, .bool s.oblique, .bool s.last, .int .i64 s.mx, .int .i64 s.md, .int .i64 s.tm, .int .i64 s.pr, .bool s.stroke, .int .i64 s.n, .int .i64 s.d, .int .i64 s.step, .int .i64 s.line] 63 false true [])]) ?_ ?_)
 ·refine xp_seq rfl (xp_region rfl (by kernel_rfl) ?_)
  refine rr rfl (rd_fieldAddr rfl rfl (fa Tryz.underlying139 az139 rfl)) ?_; refine rr rfl (rl hl 2 rfl rfl (by kernel_rfl) rfl rfl) ?_; refine re_end rfl ?_; refine xp_cond rfl rfl (fun h => ?_) (fun h => ?_)
  ·subst h
   refine xg (by kernel_rfl) ?_; refine rr rfl (rd_fieldAddr rfl rfl (fa Tryz.underlying63 az63 rfl)) ?_; refine rr rfl (rl hl 3 rfl rfl (by kernel_rfl) rfl rfl) ?_; refine rr rfl (rd_fieldAddr rfl rfl (fa Tryz.underlying63 az63 rfl)) ?_; refine re_storeL hl 0 rfl rfl rfl rfl rfl rfl rfl (by kernel_rfl) rfl ?_; intro S1 hl
   exact re_end rfl ⟨rfl, ⟨rfl, rfl, rfl, rfl, trivial⟩, hl⟩
  ·subst h
   exact xp_skip rfl ⟨rfl, ⟨rfl, rfl, rfl, rfl, trivial⟩, hl⟩
 clear hl; intro S6 hl
 refine xp_seq rfl (xe_to (L1 := [(2, ptrTo B2 0), (3, ptrTo B3 0), (4, ptrTo B4 0), (5, ptrTo B5 0)]) (fun S' => Hold S [S] S' [(B5, .cells [.int .i64 s.kind, .int .i64 (bif a0 then s.value else 0), .int .i64 (bif a1 then s.place else 0), .int .i64 (bif a2 then s.acc else 0), .bool (bif a3 then s.color else false), .int .i64 (bif a4 then s.stem else 0), .bool (bif a5 then s.oblique else false), .bool (bif a6 then s.last else false), .int .i64 0, .int .i64 0, .int .i64 0, .int .i64 0, .bool false, .int .i64 0, .int .i64 0, .int .i64 0, .int .i64 0] 63 false true []), (B4, .cells [.int .i64 0, .int .i64 0, .int .i64 0, .int .i64 0, .bool false, .int .i64 0, .bool false, .bool false, .int .i64 0, .int .i64 0, .int .i64 0, .int .i64 0, .bool false, .int .i64 0, .int .i64 0, .int .i64 0, .int .i64 0] 63 false true []), (B3, .cells [.bool a0, .bool a1, .bool a2, .bool a3, .bool a4, .bool a5, .bool a6, .bool a7, .bool a8, .bool a9, .bool a10, .bool a11] 139 false true []), (B2, .cells [.int .i64 s.kind, .int .i64 s.value, .int .i64 s.place, .int .i64 s.acc, .bool s.color, .int .i64 s.stem, .bool s.oblique, .bool s.last, .int .i64 s.mx, .int .i64 s.md, .int .i64 s.tm, .int .i64 s.pr, .bool s.stroke, .int .i64 s.n, .int .i64 s.d, .int .i64 s.step, .int .i64 s.line] 63 false true [])]) ?_ ?_)
 ·refine xp_seq rfl (xp_region rfl (by kernel_rfl) ?_)
  refine rr rfl (rd_fieldAddr rfl rfl (fa Tryz.underlying139 az139 rfl)) ?_; refine rr rfl (rl hl 2 rfl rfl (by kernel_rfl) rfl rfl) ?_; refine re_end rfl ?_; refine xp_cond rfl rfl (fun h => ?_) (fun h => ?_)
  ·subst h
   refine xg (by kernel_rfl) ?_; refine rr rfl (rd_fieldAddr rfl rfl (fa Tryz.underlying63 az63 rfl)) ?_; refine rr rfl (rl hl 3 rfl rfl (by kernel_rfl) rfl rfl) ?_; refine rr rfl (rd_fieldAddr rfl rfl (fa Tryz.underlying63 az63 rfl)) ?_; refine re_storeL hl 0 rfl rfl rfl rfl rfl rfl rfl (by kernel_rfl) rfl ?_; intro S1 hl
   exact re_end rfl ⟨rfl, ⟨rfl, rfl, rfl, rfl, trivial⟩, hl⟩
  ·subst h
   exact xp_skip rfl ⟨rfl, ⟨rfl, rfl, rfl, rfl, trivial⟩, hl⟩
 clear hl; intro S6 hl
 refine xp_seq rfl (xe_to (L1 := [(2, ptrTo B2 0), (3, ptrTo B3 0), (4, ptrTo B4 0), (5, ptrTo B5 0)]) (fun S' => Hold S [S] S' [(B5, .cells [.int .i64 s.kind, .int .i64 (bif a0 then s.value else 0), .int .i64 (bif a1 then s.place else 0), .int .i64 (bif a2 then s.acc else 0), .bool (bif a3 then s.color else false), .int .i64 (bif a4 then s.stem else 0), .bool (bif a5 then s.oblique else false), .bool (bif a6 then s.last else false), .int .i64 (bif a7 then s.mx else 0), .int .i64 (bif a7 then s.md else 0), .int .i64 (bif a7 then s.tm else 0), .int .i64 (bif a7 then s.pr else 0), .bool false, .int .i64 0, .int .i64 0, .int .i64 0, .int .i64 0] 63 false true []), (B4, .cells [.int .i64 0, .int .i64 0, .int .i64 0, .int .i64 0, .bool false, .int .i64 0, .bool false, .bool false, .int .i64 0, .int .i64 0, .int .i64 0, .int .i64 0, .bool false, .int .i64 0, .int .i64 0, .int .i64 0, .int .i64 0] 63 false true []), (B3, .cells [.bool a0, .bool a1, .bool a2, .bool a3, .bool a4, .bool a5, .bool a6, .bool a7, .bool a8, .bool a9, .bool a10, .bool a11] 139 false true []), (B2, .cells [.int .i64 s.kind, .int .i64 s.value, .int .i64 s.place, .int .i64 s.acc, .bool s.color, .int .i64 s.stem, .bool s.oblique, .bool s.last, .int .i64 s.mx, .int .i64 s.md, .int .i64 s.tm, .int .i64 s.pr, .bool s.stroke, .int .i64 s.n, .int .i64 s.d, .int .i64 s.step, .int .i64 s.line] 63 false true [])]) ?_ ?_)
 ·refine xp_seq rfl (xp_region rfl (by kernel_rfl) ?_)
  refine rr rfl (rd_fieldAddr rfl rfl (fa Tryz.underlying139 az139 rfl)) ?_; refine rr rfl (rl hl 2 rfl rfl (by kernel_rfl) rfl rfl) ?_; refine re_end rfl ?_; refine xp_cond rfl rfl (fun h => ?_) (fun h => ?_)
  ·subst h
   refine xg (by kernel_rfl) ?_; refine rr rfl (rd_fieldAddr rfl rfl (fa Tryz.underlying63 az63 rfl)) ?_; refine rr rfl (rd_load rfl rfl (loadN_of (z := 4) (by kernel_rfl) (by kernel_rfl) (hl.get 3 rfl) rfl)) ?_; refine rr rfl (rd_fieldAddr rfl rfl (fa Tryz.underlying63 az63 rfl)) ?_; refine re_storeL hl 0 rfl rfl rfl rfl rfl rfl rfl (by kernel_rfl) rfl ?_; intro S1 hl
   exact re_end rfl ⟨rfl, ⟨rfl, rfl, rfl, rfl, trivial⟩, hl⟩
  ·subst h
   exact xp_skip rfl ⟨rfl, ⟨rfl, rfl, rfl, rfl, trivial⟩, hl⟩
 clear hl; intro S6 hl
 refine xp_seq rfl (xe_to (L1 := [(2, ptrTo B2 0), (3, ptrTo B3 0), (4, ptrTo B4 0), (5, ptrTo B5 0)]) (fun S' => Hold S [S] S' [(B5, .cells [.int .i64 s.kind, .int .i64 (bif a0 then s.value else 0), .int .i64 (bif a1 then s.place else 0), .int .i64 (bif a2 then s.acc else 0), .bool (bif a3 then s.color else false), .int .i64 (bif a4 then s.stem else 0), .bool (bif a5 then s.oblique else false), .bool (bif a6 then s.last else false), .int .i64 (bif a7 then s.mx else 0), .int .i64 (bif a7 then s.md else 0), .int .i64 (bif a7 then s.tm else 0), .int .i64 (bif a7 then s.pr else 0), .bool (bif a8 then s.stroke else false), .int .i64 0, .int .i64 0, .int .i64 0, .int .i64 0] 63 false true []), (B4, .cells [.int .i64 0, .int .i64 0, .int .i64 0, .int .i64 0, .bool false, .int .i64 0, .bool false, .bool false, .int .i64 0, .int .i64 0, .int .i64 0, .int .i64 0, .bool false, .int .i64 0, .int .i64 0, .int .i64 0, .int .i64 0] 63 false true []), (B3, .cells [.bool a0, .bool a1, .bool a2, .bool a3, .bool a4, .bool a5, .bool a6, .bool a7, .bool a8, .bool a9, .bool a10, .bool a11] 139 false true []), (B2, .cells [.int .i64 s.kind, .int .i64 s.value, .int .i64 s.place, .int .i64 s.acc, .bool s.color, .int .i64 s.stem, .bool s.oblique, .bool s.last, .int .i64 s.mx, .int .i64 s.md, .int .i64 s.tm, .int .i64 s.pr, .bool s.stroke, .int .i64 s.n, .int .i64 s.d, .int .i64 s.step, .int .i64 s.line] 63 false true [])]) ?_ ?_)
 ·refine xp_seq rfl (xp_region rfl (by kernel_rfl) ?_)
  refine rr rfl (rd_fieldAddr rfl rfl (fa Tryz.underlying139 az139 rfl)) ?_; refine rr rfl (rl hl 2 rfl rfl (by kernel_rfl) rfl rfl) ?_; refine re_end rfl ?_; refine xp_cond rfl rfl (fun h => ?_) (fun h => ?_)
  ·subst h
   refine xg (by kernel_rfl) ?_; refine rr rfl (rd_fieldAddr rfl rfl (fa Tryz.underlying63 az63 rfl)) ?_; refine rr rfl (rl hl 3 rfl rfl (by kernel_rfl) rfl rfl) ?_; refine rr rfl (rd_fieldAddr rfl rfl (fa Tryz.underlying63 az63 rfl)) ?_; refine re_storeL hl 0 rfl rfl rfl rfl rfl rfl rfl (by kernel_rfl) rfl ?_; intro S1 hl
   exact re_end rfl ⟨rfl, ⟨rfl, rfl, rfl, rfl, trivial⟩, hl⟩
  ·subst h
   exact xp_skip rfl ⟨rfl, ⟨rfl, rfl, rfl, rfl, trivial⟩, hl⟩
 clear hl; intro S6 hl
 refine xp_seq rfl (xe_to (L1 := [(2, ptrTo B2 0), (3, ptrTo B3 0), (4, ptrTo B4 0), (5, ptrTo B5 0)]) (fun S' => Hold S [S] S' [(B5, .cells [.int .i64 s.kind, .int .i64 (bif a0 then s.value else 0), .int .i64 (bif a1 then s.place else 0), .int .i64 (bif a2 then s.acc else 0), .bool (bif a3 then s.color else false), .int .i64 (bif a4 then s.stem else 0), .bool (bif a5 then s.oblique else false), .bool (bif a6 then s.last else false), .int .i64 (bif a7 then s.mx else 0), .int .i64 (bif a7 then s.md else 0), .int .i64 (bif a7 then s.tm else 0), .int .i64 (bif a7 then s.pr else 0), .bool (bif a8 then s.stroke else false), .int .i64 (bif a9 then s.n else 0), .int .i64 0, .int .i64 0, .int .i64 0] 63 false true []), (B4, .cells [.int .i64 0, .int .i64 0, .int .i64 0, .int .i64 0, .bool false, .int .i64 0, .bool false, .bool false, .int .i64 0, .int .i64 0, .int .i64 0, .int .i64 0, .bool false, .int .i64 0, .int .i64 0, .int .i64 0, .int .i64 0] 63 false true []), (B3, .cells [.bool a0, .bool a1, .bool a2, .bool a3, .bool a4, .bool a5, .bool a6, .bool a7, .bool a8, .bool a9, .bool a10, .bool a11] 139 false true []), (B2, .cells [.int .i64 s.kind, .int .i64 s.value, .int .i64 s.place, .int .i64 s.acc, .bool s.color, .int .i64 s.stem, .bool s.oblique, .bool s.last, .int .i64 s.mx, .int .i64 s.md, .int .i64 s.tm, .int .i64 s.pr, .bool s.stroke, .int .i64 s.n, .int .i64 s.d, .int .i64 s.step, .int .i64 s.line] 63 false true [])]) ?_ ?_)
 ·refine xp_seq rfl (xp_region rfl (by kernel_rfl) ?_)
  refine rr rfl (rd_fieldAddr rfl rfl (fa Tryz.underlying139 az139 rfl)) ?_; refine rr rfl (rl hl 2 rfl rfl (by kernel_rfl) rfl rfl) ?_; refine re_end rfl ?_; refine xp_cond rfl rfl (fun h => ?_) (fun h => ?_)
  ·subst h
   refine xg (by kernel_rfl) ?_; refine rr rfl (rd_fieldAddr rfl rfl (fa Tryz.underlying63 az63 rfl)) ?_; refine rr rfl (rl hl 3 rfl rfl (by kernel_rfl) rfl rfl) ?_; refine rr rfl (rd_fieldAddr rfl rfl (fa Tryz.underlying63 az63 rfl)) ?_; refine re_storeL hl 0 rfl rfl rfl rfl rfl rfl rfl (by kernel_rfl) rfl ?_; intro S1 hl
   exact re_end rfl ⟨rfl, ⟨rfl, rfl, rfl, rfl, trivial⟩, hl⟩
  ·subst h
   exact xp_skip rfl ⟨rfl, ⟨rfl, rfl, rfl, rfl, trivial⟩, hl⟩
 clear hl; intro S6 hl
 refine xp_seq rfl (xe_to (L1 := [(2, ptrTo B2 0), (3, ptrTo B3 0), (4, ptrTo B4 0), (5, ptrTo B5 0)]) (fun S' => Hold S [S] S' [(B5, .cells [.int .i64 s.kind, .int .i64 (bif a0 then s.value else 0), .int .i64 (bif a1 then s.place else 0), .int .i64 (bif a2 then s.acc else 0), .bool (bif a3 then s.color else false), .int .i64 (bif a4 then s.stem else 0), .bool (bif a5 then s.oblique else false), .bool (bif a6 then s.last else false), .int .i64 (bif a7 then s.mx else 0), .int .i64 (bif a7 then s.md else 0), .int .i64 (bif a7 then s.tm else 0), .int .i64 (bif a7 then s.pr else 0), .bool (bif a8 then s.stroke else false), .int .i64 (bif a9 then s.n else 0), .int .i64 (bif a10 then s.d else 0), .int .i64 0, .int .i64 0] 63 false true []), (B4, .cells [.int .i64 0, .int .i64 0, .int .i64 0, .int .i64 0, .bool false, .int .i64 0, .bool false, .bool false, .int .i64 0, .int .i64 0, .int .i64 0, .int .i64 0, .bool false, .int .i64 0, .int .i64 0, .int .i64 0, .int .i64 0] 63 false true []), (B3, .cells [.bool a0, .bool a1, .bool a2, .bool a3, .bool a4, .bool a5, .bool a6, .bool a7, .bool a8, .bool a9, .bool a10, .bool a11] 139 false true []), (B2, .cells [.int .i64 s.kind, .int .i64 s.value, .int .i64 s.place, .int .i64 s.acc, .bool s.color, .int .i64 s.stem, .bool s.oblique, .bool s.last, .int .i64 s.mx, .int .i64 s.md, .int .i64 s.tm, .int .i64 s.pr, .bool s.stroke, .int .i64 s.n, .int .i64 s.d, .int .i64 s.step, .int .i64 s.line] 63 false true [])]) ?_ ?_)
 ·refine xp_seq rfl (xp_region rfl (by kernel_rfl) ?_)
  refine rr rfl (rd_fieldAddr rfl rfl (fa Tryz.underlying139 az139 rfl)) ?_; refine rr rfl (rl hl 2 rfl rfl (by kernel_rfl) rfl rfl) ?_; refine re_end rfl ?_; refine xp_cond rfl rfl (fun h => ?_) (fun h => ?_)
  ·subst h
   refine xg (by kernel_rfl) ?_; refine rr rfl (rd_fieldAddr rfl rfl (fa Tryz.underlying63 az63 rfl)) ?_; refine rr rfl (rl hl 3 rfl rfl (by kernel_rfl) rfl rfl) ?_; refine rr rfl (rd_fieldAddr rfl rfl (fa Tryz.underlying63 az63 rfl)) ?_; refine re_storeL hl 0 rfl rfl rfl rfl rfl rfl rfl (by kernel_rfl) rfl ?_; intro S1 hl
   exact re_end rfl ⟨rfl, ⟨rfl, rfl, rfl, rfl, trivial⟩, hl⟩
  ·subst h
   exact xp_skip rfl ⟨rfl, ⟨rfl, rfl, rfl, rfl, trivial⟩, hl⟩
 clear hl; intro S6 hl
 refine xp_seq rfl (xe_to (L1 := [(2, ptrTo B2 0), (3, ptrTo B3 0), (4, ptrTo B4 0), (5, ptrTo B5 0)]) (fun S' => Hold S [S] S' [(B5, .cells [.int .i64 s.kind, .int .i64 (bif a0 then s.value else 0), .int .i64 (bif a1 then s.place else 0), .int .i64 (bif a2 then s.acc else 0), .bool (bif a3 then s.color else false), .int .i64 (bif a4 then s.stem else 0), .bool (bif a5 then s.oblique else false), .bool (bif a6 then s.last else false), .int .i64 (bif a7 then s.mx else 0), .int .i64 (bif a7 then s.md else 0), .int .i64 (bif a7 then s.tm else 0), .int .i64 (bif a7 then s.pr else 0), .bool (bif a8 then s.stroke else false), .int .i64 (bif a9 then s.n else 0), .int .i64 (bif a10 then s.d else 0), .int .i64 (bif a11 then s.step else 0), .int .i64 (bif a11 then s.line else 0)] 63 false true []), (B4, .cells [.int .i64 0, .int .i64 0, .int .i64 0, .int .i64 0, .bool false, .int .i64 0, .bool false, .bool false, .int .i64 0, .int .i64 0, .int .i64 0, .int .i64 0, .bool false, .int .i64 0, .int .i64 0, .int .i64 0, .int .i64 0] 63 false true []), (B3, .cells [.bool a0, .bool a1, .bool a2, .bool a3, .bool a4, .bool a5, .bool a6, .bool a7, .bool a8, .bool a9, .bool a10, .bool a11] 139 false true []), (B2, .cells [.int .i64 s.kind, .int .i64 s.value, .int .i64 s.place, .int .i64 s.acc, .bool s.color, .int .i64 s.stem, .bool s.oblique, .bool s.last, .int .i64 s.mx, .int .i64 s.md, .int .i64 s.tm, .int .i64 s.pr, .bool s.stroke, .int .i64 s.n, .int .i64 s.d, .int .i64 s.step, .int .i64 s.line] 63 false true [])]) ?_ ?_)
 ·refine xp_seq rfl (xp_region rfl (by kernel_rfl) ?_)
  refine rr rfl (rd_fieldAddr rfl rfl (fa Tryz.underlying139 az139 rfl)) ?_; refine rr rfl (rl hl 2 rfl rfl (by kernel_rfl) rfl rfl) ?_; refine re_end rfl ?_; refine xp_cond rfl rfl (fun h => ?_) (fun h => ?_)
  ·subst h
   refine xg (by kernel_rfl) ?_; refine rr rfl (rd_fieldAddr rfl rfl (fa Tryz.underlying63 az63 rfl)) ?_; refine rr rfl (rd_load rfl rfl (loadN_of (z := 2) (by kernel_rfl) (by kernel_rfl) (hl.get 3 rfl) rfl)) ?_; refine rr rfl (rd_fieldAddr rfl rfl (fa Tryz.underlying63 az63 rfl)) ?_; refine re_storeL hl 0 rfl rfl rfl rfl rfl rfl rfl (by kernel_rfl) rfl ?_; intro S1 hl
   exact re_end rfl ⟨rfl, ⟨rfl, rfl, rfl, rfl, trivial⟩, hl⟩
  ·subst h
   exact xp_skip rfl ⟨rfl, ⟨rfl, rfl, rfl, rfl, trivial⟩, hl⟩
 clear hl; intro S6 hl
 refine xs (by kernel_rfl) ?_; refine rr rfl (rd_load rfl rfl (loadN_of (z := 17) (by kernel_rfl) (by kernel_rfl) (hl.get 0 rfl) rfl)) ?_; refine re_storeL hl 1 rfl rfl rfl rfl rfl rfl rfl (by kernel_rfl) rfl ?_; intro S1 hl; refine re_end rfl ?_; refine xp_ret rfl ?_
 exact done_ret (ress_cell rfl (loadN_of (z := 17) (by kernel_rfl) (by kernel_rfl) (hl.get 1 rfl) rfl) rfl) ⟨hl.keep, rfl⟩
noncomputable def c105 : Code := Tryz.f105.body.getD .skip
theorem spec105 (a b c : Int) : CC Tryz.prog KK 105 [.int .i64 a, .int .i64 b, .int .i64 c] S (fun v S' => Keep S S' ∧ v = .bool (decide (b ≤ a) && decide (a ≤ c))) := by
 refine cc_enter (c := c105) (n := 15) Tryz.func105 rfl rfl rfl (by kernel_rfl) rfl rfl ?_
 have hl := Hold.start S
 refine xs (by kernel_rfl) ?_; refine rm rfl ?_; refine re_end rfl ?_; refine xs (by kernel_rfl) ?_; iterate 2 refine rm rfl ?_
 refine rr rfl (rd_bin rfl rfl rfl rfl) ?_; refine rm rfl ?_; refine re_bool (d := 10) rfl (fun h10 => ?_) (fun h10 => ?_)
 ·
  iterate 2 refine rm rfl ?_
  refine rr rfl (rd_bin rfl rfl rfl rfl) ?_; iterate 2 refine rm rfl ?_
  refine re_end rfl ?_; refine xp_ret rfl ?_
  refine done_ret (ress_tmp rfl rfl) ⟨hl.keep, congrArg Value.bool (by first | (simp [h10]; done) | (simp at *; simp [*]; done) | (simp at *; omega))⟩
 ·
  iterate 3 refine rz rfl ?_
  iterate 2 refine rm rfl ?_
  refine re_end rfl ?_; refine xp_ret rfl ?_
  refine done_ret (ress_tmp rfl rfl) ⟨hl.keep, congrArg Value.bool (by first | (simp [h10]; done) | (simp at *; simp [*]; done) | (simp at *; omega))⟩
def rangedF (s : Sg) (a0 a1 a2 a4 a10 a11 : Bool) : Bool := !((a0 && !(decide (1 ≤ s.value) && decide (s.value ≤ 8))) || (a1 && !(decide (-4 ≤ s.place) && decide (s.place ≤ 12))) || (a2 && !(decide (-1 ≤ s.acc) && decide (s.acc ≤ 2))) || (a4 && !(decide (0 ≤ s.stem) && decide (s.stem ≤ 3))) || (a10 && (!(decide (1 ≤ s.n) && decide (s.n ≤ 100)) || !(decide (1 ≤ s.d) && decide (s.d ≤ 100)))) || (a11 && (((s.step != 0) && (s.step != 3) && (s.step != 4)) || !(decide (1 ≤ s.line) && decide (s.line ≤ 5)))) || ((s.kind == 8) && !(decide (0 ≤ s.n) && decide (s.n ≤ 2))) || ((s.kind == 10) && !(decide (2 ≤ s.n) && decide (s.n ≤ 4))))
noncomputable def c83 : Code := Tryz.f83.body.getD .skip
theorem spec83 (s : Sg) (a0 a1 a2 a3 a4 a5 a6 a7 a8 a9 a10 a11 : Bool) : CC Tryz.prog KK 83 [s.v, .agg #[.bool a0, .bool a1, .bool a2, .bool a3, .bool a4, .bool a5, .bool a6, .bool a7, .bool a8, .bool a9, .bool a10, .bool a11]] S (fun v S' => Keep S S' ∧ v = .bool (rangedF s a0 a1 a2 a4 a10 a11)) := by
 refine cc_enter (c := c83) (n := 104) Tryz.func83 rfl rfl rfl (by kernel_rfl) rfl rfl ?_
 have hl := Hold.start S
 refine xs (by kernel_rfl) ?_; refine re_boxL hl rfl rfl rfl rfl rfl rfl ?_; intro B2 S2 hl; refine re_boxL hl rfl rfl rfl rfl rfl rfl ?_; intro B3 S3 hl; refine rm rfl ?_; refine re_end rfl ?_; refine xp_seq rfl ?_; refine xp_block rfl ?_; refine xp_seq rfl (xe_toL hl [(5, .bool (a0 && !(decide (1 ≤ s.value) && decide (s.value ≤ 8)))), (3, ptrTo B3 0), (2, ptrTo B2 0)] ?_ ?_)
 ·
  refine xg (by kernel_rfl) ?_; refine rr rfl (rd_fieldAddr rfl rfl (fa Tryz.underlying139 az139 rfl)) ?_; refine rr rfl (rl hl 0 rfl rfl (by kernel_rfl) rfl rfl) ?_; refine rm rfl ?_; refine re_bool (d := 8) rfl (fun h8 => ?_) (fun h8 => ?_)
  ·
   refine rr rfl (rd_fieldAddr rfl rfl (fa Tryz.underlying63 az63 rfl)) ?_; refine rr rfl (rl hl 1 rfl rfl (by kernel_rfl) rfl rfl) ?_
   refine re_callL hl rfl rfl rfl rfl rfl rfl rfl (spec105 _ _ _) ?_; rintro v S1 hk1 rfl hl
   refine rr rfl (rd_un rfl rfl rfl) ?_; iterate 2 refine rm rfl ?_
   refine re_end rfl ?_
   exact ⟨rfl, ⟨bl (by first | (simp [h8]; done) | (simp only [h8, BLs])), rfl, rfl, trivial⟩, hl⟩
  ·
   iterate 4 refine rz rfl ?_
   iterate 2 refine rm rfl ?_
   refine re_end rfl ?_
   exact ⟨rfl, ⟨bl (by first | (simp [h8]; done) | (simp only [h8, BLs])), rfl, rfl, trivial⟩, hl⟩
 intro S1 hl
 refine xp_cond rfl rfl (fun h5 => ?_) (fun h5 => ?_)
 ·
  refine xp_skip rfl ?_; refine xs (by kernel_rfl) ?_; refine rm rfl ?_; refine re_end rfl ?_; refine xp_ret rfl ?_
  refine done_ret (ress_tmp rfl rfl) ⟨hl.keep, congrArg Value.bool (by simp only [rangedF, h5]; rfl)⟩
 ·
  refine xp_seq rfl (xe_toL hl [(14, .bool (a1 && !(decide (-4 ≤ s.place) && decide (s.place ≤ 12)))), (3, ptrTo B3 0), (2, ptrTo B2 0)] ?_ ?_)
  ·
   refine xg (by kernel_rfl) ?_; refine rr rfl (rd_fieldAddr rfl rfl (fa Tryz.underlying139 az139 rfl)) ?_; refine rr rfl (rl hl 0 rfl rfl (by kernel_rfl) rfl rfl) ?_; refine rm rfl ?_; refine re_bool (d := 17) rfl (fun h17 => ?_) (fun h17 => ?_)
   ·
    refine rr rfl (rd_fieldAddr rfl rfl (fa Tryz.underlying63 az63 rfl)) ?_; refine rr rfl (rl hl 1 rfl rfl (by kernel_rfl) rfl rfl) ?_
    refine re_callL hl rfl rfl rfl rfl rfl rfl rfl (spec105 _ _ _) ?_; rintro v S1 hk1 rfl hl
    refine rr rfl (rd_un rfl rfl rfl) ?_; iterate 2 refine rm rfl ?_
    refine re_end rfl ?_
    exact ⟨rfl, ⟨bl (by first | (simp [h17]; done) | (simp only [h17, BLs])), rfl, rfl, trivial⟩, hl⟩
   ·
    iterate 4 refine rz rfl ?_
    iterate 2 refine rm rfl ?_
    refine re_end rfl ?_
    exact ⟨rfl, ⟨bl (by first | (simp [h17]; done) | (simp only [h17, BLs])), rfl, rfl, trivial⟩, hl⟩
  intro S1 hl
  refine xp_cond rfl rfl (fun h14 => ?_) (fun h14 => ?_)
  ·
   refine xp_skip rfl ?_; refine xs (by kernel_rfl) ?_; refine rm rfl ?_; refine re_end rfl ?_; refine xp_ret rfl ?_
   refine done_ret (ress_tmp rfl rfl) ⟨hl.keep, congrArg Value.bool (by simp only [rangedF, h14, h5]; rfl)⟩
  ·
   refine xp_seq rfl (xe_toL hl [(23, .bool (a2 && !(decide (-1 ≤ s.acc) && decide (s.acc ≤ 2)))), (3, ptrTo B3 0), (2, ptrTo B2 0)] ?_ ?_)
   ·
    refine xg (by kernel_rfl) ?_; refine rr rfl (rd_fieldAddr rfl rfl (fa Tryz.underlying139 az139 rfl)) ?_; refine rr rfl (rl hl 0 rfl rfl (by kernel_rfl) rfl rfl) ?_; refine rm rfl ?_; refine re_bool (d := 26) rfl (fun h26 => ?_) (fun h26 => ?_)
    ·
     refine rr rfl (rd_fieldAddr rfl rfl (fa Tryz.underlying63 az63 rfl)) ?_; refine rr rfl (rl hl 1 rfl rfl (by kernel_rfl) rfl rfl) ?_
     refine re_callL hl rfl rfl rfl rfl rfl rfl rfl (spec105 _ _ _) ?_; rintro v S1 hk1 rfl hl
     refine rr rfl (rd_un rfl rfl rfl) ?_; iterate 2 refine rm rfl ?_
     refine re_end rfl ?_
     exact ⟨rfl, ⟨bl (by first | (simp [h26]; done) | (simp only [h26, BLs])), rfl, rfl, trivial⟩, hl⟩
    ·
     iterate 4 refine rz rfl ?_
     iterate 2 refine rm rfl ?_
     refine re_end rfl ?_
     exact ⟨rfl, ⟨bl (by first | (simp [h26]; done) | (simp only [h26, BLs])), rfl, rfl, trivial⟩, hl⟩
   intro S1 hl
   refine xp_cond rfl rfl (fun h23 => ?_) (fun h23 => ?_)
   ·
    refine xp_skip rfl ?_; refine xs (by kernel_rfl) ?_; refine rm rfl ?_; refine re_end rfl ?_; refine xp_ret rfl ?_
    refine done_ret (ress_tmp rfl rfl) ⟨hl.keep, congrArg Value.bool (by simp only [rangedF, h23, h14, h5]; rfl)⟩
   ·
    refine xp_seq rfl (xe_toL hl [(32, .bool (a4 && !(decide (0 ≤ s.stem) && decide (s.stem ≤ 3)))), (3, ptrTo B3 0), (2, ptrTo B2 0)] ?_ ?_)
    ·
     refine xg (by kernel_rfl) ?_; refine rr rfl (rd_fieldAddr rfl rfl (fa Tryz.underlying139 az139 rfl)) ?_; refine rr rfl (rl hl 0 rfl rfl (by kernel_rfl) rfl rfl) ?_; refine rm rfl ?_; refine re_bool (d := 35) rfl (fun h35 => ?_) (fun h35 => ?_)
     ·
      refine rr rfl (rd_fieldAddr rfl rfl (fa Tryz.underlying63 az63 rfl)) ?_; refine rr rfl (rl hl 1 rfl rfl (by kernel_rfl) rfl rfl) ?_
      refine re_callL hl rfl rfl rfl rfl rfl rfl rfl (spec105 _ _ _) ?_; rintro v S1 hk1 rfl hl
      refine rr rfl (rd_un rfl rfl rfl) ?_; iterate 2 refine rm rfl ?_
      refine re_end rfl ?_
      exact ⟨rfl, ⟨bl (by first | (simp [h35]; done) | (simp only [h35, BLs])), rfl, rfl, trivial⟩, hl⟩
     ·
      iterate 4 refine rz rfl ?_
      iterate 2 refine rm rfl ?_
      refine re_end rfl ?_
      exact ⟨rfl, ⟨bl (by first | (simp [h35]; done) | (simp only [h35, BLs])), rfl, rfl, trivial⟩, hl⟩
    intro S1 hl
    refine xp_cond rfl rfl (fun h32 => ?_) (fun h32 => ?_)
    ·
     refine xp_skip rfl ?_; refine xs (by kernel_rfl) ?_; refine rm rfl ?_; refine re_end rfl ?_; refine xp_ret rfl ?_
     refine done_ret (ress_tmp rfl rfl) ⟨hl.keep, congrArg Value.bool (by simp only [rangedF, h32, h23, h14, h5]; rfl)⟩
    ·
     refine xp_seq rfl (xe_toL hl [(41, .bool (a10 && (!(decide (1 ≤ s.n) && decide (s.n ≤ 100)) || !(decide (1 ≤ s.d) && decide (s.d ≤ 100))))), (3, ptrTo B3 0), (2, ptrTo B2 0)] ?_ ?_)
     ·
      refine xg (by kernel_rfl) ?_; refine rr rfl (rd_fieldAddr rfl rfl (fa Tryz.underlying139 az139 rfl)) ?_; refine rr rfl (rl hl 0 rfl rfl (by kernel_rfl) rfl rfl) ?_; refine rm rfl ?_; refine re_bool (d := 44) rfl (fun h44 => ?_) (fun h44 => ?_)
      ·
       refine rr rfl (rd_fieldAddr rfl rfl (fa Tryz.underlying63 az63 rfl)) ?_; refine rr rfl (rl hl 1 rfl rfl (by kernel_rfl) rfl rfl) ?_
       refine re_callL hl rfl rfl rfl rfl rfl rfl rfl (spec105 _ _ _) ?_; rintro v S1 hk1 rfl hl
       refine rr rfl (rd_un rfl rfl rfl) ?_; refine rm rfl ?_; refine re_bool (d := 49) rfl (fun h49 => ?_) (fun h49 => ?_)
       ·
        iterate 4 refine rz rfl ?_
        iterate 3 refine rm rfl ?_
        refine re_end rfl ?_
        exact ⟨rfl, ⟨bl (by first | (simp [h49, h44]; done) | (simp only [h49, h44, BLs])), rfl, rfl, trivial⟩, hl⟩
       ·
        refine rr rfl (rd_fieldAddr rfl rfl (fa Tryz.underlying63 az63 rfl)) ?_; refine rr rfl (rl hl 1 rfl rfl (by kernel_rfl) rfl rfl) ?_
        refine re_callL hl rfl rfl rfl rfl rfl rfl rfl (spec105 _ _ _) ?_; rintro v S1 hk1 rfl hl
        refine rr rfl (rd_un rfl rfl rfl) ?_; iterate 3 refine rm rfl ?_
        refine re_end rfl ?_
        exact ⟨rfl, ⟨bl (by first | (simp [h49, h44]; done) | (simp only [h49, h44, BLs])), rfl, rfl, trivial⟩, hl⟩
      ·
       iterate 10 refine rz rfl ?_
       iterate 2 refine rm rfl ?_
       refine re_end rfl ?_
       exact ⟨rfl, ⟨bl (by first | (simp [h44]; done) | (simp only [h44, BLs])), rfl, rfl, trivial⟩, hl⟩
     intro S1 hl
     refine xp_cond rfl rfl (fun h41 => ?_) (fun h41 => ?_)
     ·
      refine xp_skip rfl ?_; refine xs (by kernel_rfl) ?_; refine rm rfl ?_; refine re_end rfl ?_; refine xp_ret rfl ?_
      refine done_ret (ress_tmp rfl rfl) ⟨hl.keep, congrArg Value.bool (by simp only [rangedF, h41, h32, h23, h14, h5]; rfl)⟩
     ·
      refine xp_seq rfl (xe_toL hl [(56, .bool (a11 && (((s.step != 0) && (s.step != 3) && (s.step != 4)) || !(decide (1 ≤ s.line) && decide (s.line ≤ 5))))), (3, ptrTo B3 0), (2, ptrTo B2 0)] ?_ ?_)
      ·
       refine xg (by kernel_rfl) ?_; refine rr rfl (rd_fieldAddr rfl rfl (fa Tryz.underlying139 az139 rfl)) ?_; refine rr rfl (rl hl 0 rfl rfl (by kernel_rfl) rfl rfl) ?_; refine rm rfl ?_; refine re_bool (d := 59) rfl (fun h59 => ?_) (fun h59 => ?_)
       ·
        refine rr rfl (rd_fieldAddr rfl rfl (fa Tryz.underlying63 az63 rfl)) ?_; refine rr rfl (rd_fieldAddr rfl rfl (fa Tryz.underlying61 az61 rfl)) ?_; refine rr rfl (rl hl 1 rfl rfl (by kernel_rfl) rfl rfl) ?_; refine rr rfl (rd_bin rfl rfl rfl rfl) ?_; refine rm rfl ?_; refine re_bool (d := 64) rfl (fun h64 => ?_) (fun h64 => ?_)
        ·
         refine rr rfl (rd_fieldAddr rfl rfl (fa Tryz.underlying63 az63 rfl)) ?_; refine rr rfl (rd_fieldAddr rfl rfl (fa Tryz.underlying61 az61 rfl)) ?_; refine rr rfl (rl hl 1 rfl rfl (by kernel_rfl) rfl rfl) ?_; refine rr rfl (rd_bin rfl rfl rfl rfl) ?_; iterate 2 refine rm rfl ?_
         refine re_bool (d := 70) rfl (fun h70 => ?_) (fun h70 => ?_)
         ·
          refine rr rfl (rd_fieldAddr rfl rfl (fa Tryz.underlying63 az63 rfl)) ?_; refine rr rfl (rd_fieldAddr rfl rfl (fa Tryz.underlying61 az61 rfl)) ?_; refine rr rfl (rl hl 1 rfl rfl (by kernel_rfl) rfl rfl) ?_; refine rr rfl (rd_bin rfl rfl rfl rfl) ?_; iterate 2 refine rm rfl ?_
          refine re_bool (d := 76) rfl (fun h76 => ?_) (fun h76 => ?_)
          ·
           iterate 5 refine rz rfl ?_
           iterate 3 refine rm rfl ?_
           refine re_end rfl ?_
           exact ⟨rfl, ⟨bl (by first | (simp [h76, h70, h64, h59]; done) | (simp only [h76, h70, h64, h59, BLs])), rfl, rfl, trivial⟩, hl⟩
          ·
           refine rr rfl (rd_fieldAddr rfl rfl (fa Tryz.underlying63 az63 rfl)) ?_; refine rr rfl (rd_fieldAddr rfl rfl (fa Tryz.underlying61 az61 rfl)) ?_; refine rr rfl (rl hl 1 rfl rfl (by kernel_rfl) rfl rfl) ?_
           refine re_callL hl rfl rfl rfl rfl rfl rfl rfl (spec105 _ _ _) ?_; rintro v S1 hk1 rfl hl
           refine rr rfl (rd_un rfl rfl rfl) ?_; iterate 3 refine rm rfl ?_
           refine re_end rfl ?_
           exact ⟨rfl, ⟨bl (by first | (simp [h76, h70, h64, h59]; done) | (simp only [h76, h70, h64, h59, BLs])), rfl, rfl, trivial⟩, hl⟩
         ·
          iterate 4 refine rz rfl ?_
          iterate 2 refine rm rfl ?_
          refine rr rfl (rd_fieldAddr rfl rfl (fa Tryz.underlying63 az63 rfl)) ?_; refine rr rfl (rd_fieldAddr rfl rfl (fa Tryz.underlying61 az61 rfl)) ?_; refine rr rfl (rl hl 1 rfl rfl (by kernel_rfl) rfl rfl) ?_
          refine re_callL hl rfl rfl rfl rfl rfl rfl rfl (spec105 _ _ _) ?_; rintro v S1 hk1 rfl hl
          refine rr rfl (rd_un rfl rfl rfl) ?_; iterate 3 refine rm rfl ?_
          refine re_end rfl ?_
          exact ⟨rfl, ⟨bl (by first | (simp [h70, h64, h59]; done) | (simp only [h70, h64, h59, BLs])), rfl, rfl, trivial⟩, hl⟩
        ·
         iterate 4 refine rz rfl ?_
         iterate 2 refine rm rfl ?_
         iterate 4 refine rz rfl ?_
         iterate 2 refine rm rfl ?_
         refine rr rfl (rd_fieldAddr rfl rfl (fa Tryz.underlying63 az63 rfl)) ?_; refine rr rfl (rd_fieldAddr rfl rfl (fa Tryz.underlying61 az61 rfl)) ?_; refine rr rfl (rl hl 1 rfl rfl (by kernel_rfl) rfl rfl) ?_
         refine re_callL hl rfl rfl rfl rfl rfl rfl rfl (spec105 _ _ _) ?_; rintro v S1 hk1 rfl hl
         refine rr rfl (rd_un rfl rfl rfl) ?_; iterate 3 refine rm rfl ?_
         refine re_end rfl ?_
         exact ⟨rfl, ⟨bl (by first | (simp [h64, h59]; done) | (simp only [h64, h59, BLs])), rfl, rfl, trivial⟩, hl⟩
       ·
        iterate 23 refine rz rfl ?_
        iterate 2 refine rm rfl ?_
        refine re_end rfl ?_
        exact ⟨rfl, ⟨bl (by first | (simp [h59]; done) | (simp only [h59, BLs])), rfl, rfl, trivial⟩, hl⟩
      intro S1 hl
      refine xp_cond rfl rfl (fun h56 => ?_) (fun h56 => ?_)
      ·
       refine xp_skip rfl ?_; refine xs (by kernel_rfl) ?_; refine rm rfl ?_; refine re_end rfl ?_; refine xp_ret rfl ?_
       refine done_ret (ress_tmp rfl rfl) ⟨hl.keep, congrArg Value.bool (by simp only [rangedF, h56, h41, h32, h23, h14, h5]; rfl)⟩
      ·
       refine xp_seq rfl (xe_toL hl [(84, .bool ((s.kind == 8) && !(decide (0 ≤ s.n) && decide (s.n ≤ 2)))), (3, ptrTo B3 0), (2, ptrTo B2 0)] ?_ ?_)
       ·
        refine xg (by kernel_rfl) ?_; refine rr rfl (rd_fieldAddr rfl rfl (fa Tryz.underlying63 az63 rfl)) ?_; refine rr rfl (rl hl 1 rfl rfl (by kernel_rfl) rfl rfl) ?_; refine rr rfl (rd_bin rfl rfl rfl rfl) ?_; refine rm rfl ?_; refine re_bool (d := 88) rfl (fun h88 => ?_) (fun h88 => ?_)
        ·
         refine rr rfl (rd_fieldAddr rfl rfl (fa Tryz.underlying63 az63 rfl)) ?_; refine rr rfl (rl hl 1 rfl rfl (by kernel_rfl) rfl rfl) ?_
         refine re_callL hl rfl rfl rfl rfl rfl rfl rfl (spec105 _ _ _) ?_; rintro v S1 hk1 rfl hl
         refine rr rfl (rd_un rfl rfl rfl) ?_; iterate 2 refine rm rfl ?_
         refine re_end rfl ?_
         exact ⟨rfl, ⟨bl (by first | (simp [h88]; done) | (simp only [h88, BLs])), rfl, rfl, trivial⟩, hl⟩
        ·
         iterate 4 refine rz rfl ?_
         iterate 2 refine rm rfl ?_
         refine re_end rfl ?_
         exact ⟨rfl, ⟨bl (by first | (simp [h88]; done) | (simp only [h88, BLs])), rfl, rfl, trivial⟩, hl⟩
       intro S1 hl
       refine xp_cond rfl rfl (fun h84 => ?_) (fun h84 => ?_)
       ·
        refine xp_skip rfl ?_; refine xs (by kernel_rfl) ?_; refine rm rfl ?_; refine re_end rfl ?_; refine xp_ret rfl ?_
        refine done_ret (ress_tmp rfl rfl) ⟨hl.keep, congrArg Value.bool (by simp only [rangedF, h84, h56, h41, h32, h23, h14, h5]; rfl)⟩
       ·
        refine xp_seq rfl (xe_toL hl [(94, .bool ((s.kind == 10) && !(decide (2 ≤ s.n) && decide (s.n ≤ 4)))), (3, ptrTo B3 0), (2, ptrTo B2 0)] ?_ ?_)
        ·
         refine xg (by kernel_rfl) ?_; refine rr rfl (rd_fieldAddr rfl rfl (fa Tryz.underlying63 az63 rfl)) ?_; refine rr rfl (rl hl 1 rfl rfl (by kernel_rfl) rfl rfl) ?_; refine rr rfl (rd_bin rfl rfl rfl rfl) ?_; refine rm rfl ?_; refine re_bool (d := 98) rfl (fun h98 => ?_) (fun h98 => ?_)
         ·
          refine rr rfl (rd_fieldAddr rfl rfl (fa Tryz.underlying63 az63 rfl)) ?_; refine rr rfl (rl hl 1 rfl rfl (by kernel_rfl) rfl rfl) ?_
          refine re_callL hl rfl rfl rfl rfl rfl rfl rfl (spec105 _ _ _) ?_; rintro v S1 hk1 rfl hl
          refine rr rfl (rd_un rfl rfl rfl) ?_; iterate 2 refine rm rfl ?_
          refine re_end rfl ?_
          exact ⟨rfl, ⟨bl (by first | (simp [h98]; done) | (simp only [h98, BLs])), rfl, rfl, trivial⟩, hl⟩
         ·
          iterate 4 refine rz rfl ?_
          iterate 2 refine rm rfl ?_
          refine re_end rfl ?_
          exact ⟨rfl, ⟨bl (by first | (simp [h98]; done) | (simp only [h98, BLs])), rfl, rfl, trivial⟩, hl⟩
        intro S1 hl
        refine xp_cond rfl rfl (fun h94 => ?_) (fun h94 => ?_)
        ·
         refine xp_skip rfl ?_; refine xs (by kernel_rfl) ?_; refine rm rfl ?_; refine re_end rfl ?_; refine xp_ret rfl ?_
         refine done_ret (ress_tmp rfl rfl) ⟨hl.keep, congrArg Value.bool (by simp only [rangedF, h94, h84, h56, h41, h32, h23, h14, h5]; rfl)⟩
        ·
         refine xs (by kernel_rfl) ?_; refine rm rfl ?_; refine re_end rfl ?_; refine xp_ret rfl ?_
         refine blk_ret (thn_ret (done_ret (ress_tmp rfl rfl) ⟨hl.keep, congrArg Value.bool (by simp only [rangedF, h94, h84, h56, h41, h32, h23, h14, h5]; rfl)⟩))
end Go.Proofs.YtkmhecihkckcmaaGreatDoor
namespace Go.Proofs.YtkmhecihkckcmaaGreatDoor
open Go.Cm Go
set_option maxRecDepth 100000
variable {S : St}
noncomputable def c104 : Code := Tryz.f104.body.getD .skip
theorem spec104 (a b c d : Int) : CC Tryz.prog KK 104 [aggL [.int .i64 a, .int .i64 b, .int .i64 c, .int .i64 d]] S (fun v S' => Keep S S' ∧ v = aggL [.int .i64 a, .int .i64 b, .int .i64 c, .int .i64 d]) := by
 refine cc_enter (c := c104) (n := 12) Tryz.func104 rfl rfl rfl (by kernel_rfl) rfl rfl ?_
 have hl := Hold.start S
 refine xs (by kernel_rfl) ?_; refine re_boxL hl rfl rfl rfl rfl rfl rfl ?_; intro B1 S1 hl; refine re_allocL hl rfl rfl rfl rfl rfl (z := [.int .i64 0, .int .i64 0, .int .i64 0, .int .i64 0]) (by kernel_rfl) ?_; intro B2 S2 hl; refine re_end rfl ?_; refine xs (by kernel_rfl) ?_; refine rr rfl (rd_fieldAddr rfl rfl (fa Tryz.underlying59 az59 rfl)) ?_; refine rr rfl (rl hl 1 rfl rfl (by kernel_rfl) rfl rfl) ?_; refine rr rfl (rd_fieldAddr rfl rfl (fa Tryz.underlying59 az59 rfl)) ?_; refine rr rfl (rl hl 1 rfl rfl (by kernel_rfl) rfl rfl) ?_
 refine rr rfl (rd_fieldAddr rfl rfl (fa Tryz.underlying59 az59 rfl)) ?_; refine rr rfl (rl hl 1 rfl rfl (by kernel_rfl) rfl rfl) ?_; refine rr rfl (rd_fieldAddr rfl rfl (fa Tryz.underlying59 az59 rfl)) ?_; refine rr rfl (rl hl 1 rfl rfl (by kernel_rfl) rfl rfl) ?_; refine rr rfl (rd_build rfl rfl (v := aggL [.int .i64 a, .int .i64 b, .int .i64 c, .int .i64 d]) (by rfl)) ?_; refine re_storeL hl 0 rfl rfl rfl rfl rfl rfl rfl (by kernel_rfl) rfl ?_; intro S1 hl; refine re_end rfl ?_; refine xp_ret rfl ?_
 refine done_ret (ress_cell rfl (loadN_of (z := 4) (by kernel_rfl) (by kernel_rfl) (hl.get 0 rfl) rfl) rfl) ⟨hl.keep, rfl⟩
def okm (p : Int) : Bool := p == 2 || p == 3
def at4 (a b c d : Int) (i : Nat) : Int := match i with
 | 0 => a
 | 1 => b
 | 2 => c
 | _ => d
def mensE (a b c d : Int) : Int := bif okm a && okm b && okm c && okm d then 0 else 12
theorem mensE_no {a b c d : Int} {i : Nat} (h : okm (at4 a b c d i) = false) : mensE a b c d = 12 := by
 unfold mensE
 match i, h with
 | 0, h => simp only [at4] at h; simp [h]
 | 1, h => simp only [at4] at h; simp [h]
 | 2, h => simp only [at4] at h; simp [h]
 | _ + 3, h => simp only [at4] at h; simp [h]
theorem mensE_yes {a b c d : Int} (h : ∀ i, i < 4 → okm (at4 a b c d i) = true) : mensE a b c d = 0 := by
 unfold mensE
 have h0 := h 0 (by omega); have h1 := h 1 (by omega); have h2 := h 2 (by omega); have h3 := h 3 (by omega)
 simp only [at4] at h0 h1 h2 h3
 simp [h0, h1, h2, h3]
theorem at4_nth {a b c d : Int} : ∀ {i : Nat}, i < 4 → nth [Value.int .i64 a, .int .i64 b, .int .i64 c, .int .i64 d] ((i : Int).toNat * 1) = some (.int .i64 (at4 a b c d i))
 | 0, _ => rfl
 | 1, _ => rfl
 | 2, _ => rfl
 | 3, _ => rfl
noncomputable def c82 : Code := Tryz.f82.body.getD .skip
theorem spec82 (a b c d : Int) : CC Tryz.prog KK 82 [aggL [.int .i64 a, .int .i64 b, .int .i64 c, .int .i64 d]] S (fun v S' => Keep S S' ∧ v = .int .i64 (mensE a b c d)) := by
 refine cc_enter (c := c82) (n := 17) Tryz.func82 rfl rfl rfl (by kernel_rfl) rfl rfl ?_
 have hl := Hold.start S
 refine xs (by kernel_rfl) ?_; refine re_boxL hl rfl rfl rfl rfl rfl rfl ?_; intro B1 S1 hl; refine rm rfl ?_; refine re_end rfl ?_; refine xp_seq rfl ?_; refine xs (by kernel_rfl) ?_; refine rr rfl (rd_load rfl rfl (loadN_of (z := 4) (by kernel_rfl) (by kernel_rfl) (hl.get 0 rfl) rfl)) ?_
 refine re_callL hl rfl rfl rfl rfl rfl rfl rfl (spec104 _ _ _ _) ?_; rintro v S1 hk1 rfl hl
 refine rm rfl ?_; refine re_end rfl ?_; refine xp_block rfl ?_
 -- LOOP
 refine xe_sub (L' := [(7, .int .i64 0), (6, aggL [.int .i64 a, .int .i64 b, .int .i64 c, .int .i64 d])]) ⟨rfl, rfl, trivial⟩ ?_
 refine xp_loop rfl (fun m L S' => ∃ i : Nat, i ≤ 4 ∧ m = 4 - i ∧ SubE [(7, .int .i64 (i : Int)), (6, aggL [.int .i64 a, .int .i64 b, .int .i64 c, .int .i64 d])] L ∧ (∀ j, j < i → okm (at4 a b c d j) = true) ∧ Keep S S') ?_ (m := 4) ⟨0, by omega, rfl, ⟨rfl, rfl, trivial⟩, fun j hj => by omega, hl.keep⟩
 clear hl; rintro m L S' ⟨i, hi, rfl, hs, hok, hk⟩; refine xe_sub hs ?_
 refine xs (by kernel_rfl) ?_; refine rr rfl (rd_bin rfl rfl rfl rfl) ?_; refine re_end rfl ?_; refine xp_seq rfl ?_; refine xp_cond rfl rfl (fun h8 => ?_) (fun h8 => ?_)
 ·
  refine xp_skip rfl ?_; refine xp_seq rfl ?_; refine xp_block rfl ?_; refine xs (by kernel_rfl) ?_; refine rr rfl (rd_index rfl rfl rfl (index_array1 (z := 1) (len := 4) (i := (i : Int)) (cs := [Value.int .i64 a, .int .i64 b, .int .i64 c, .int .i64 d].toArray) Tryz.underlying173 (by kernel_rfl) (by kernel_rfl) ⟨by omega, by simpa using h8⟩ (at4_nth (a := a) (b := b) (c := c) (d := d) (i := i) (by simp at h8; omega)))) ?_; refine rm rfl ?_; refine re_end rfl ?_
  refine xp_seq rfl (xe_to [(15, .bool (at4 a b c d i != 2 && at4 a b c d i != 3)), (7, .int .i64 (i : Int)), (6, aggL [.int .i64 a, .int .i64 b, .int .i64 c, .int .i64 d])] (fun S' => Keep S S') ?_ ?_)
  ·
   refine xg (by kernel_rfl) ?_; refine rm rfl ?_; refine rr rfl (rd_bin rfl rfl rfl rfl) ?_; refine rm rfl ?_; refine re_bool (d := 12) rfl (fun h12 => ?_) (fun h12 => ?_)
   ·
    refine rm rfl ?_; refine rr rfl (rd_bin rfl rfl rfl rfl) ?_; refine rm rfl ?_; refine re_end rfl ?_
    exact ⟨rfl, ⟨bl (by first | (simp [h12]; done) | (simp only [h12, BLs])), rfl, rfl, trivial⟩, hk⟩
   ·
    iterate 2 refine rz rfl ?_
    refine rm rfl ?_; refine re_end rfl ?_
    exact ⟨rfl, ⟨bl (by first | (simp [h12]; done) | (simp only [h12, BLs])), rfl, rfl, trivial⟩, hk⟩
  clear hk; intro S1 hk
  refine xp_cond rfl rfl (fun h15 => ?_) (fun h15 => ?_)
  ·
   refine xs (by kernel_rfl) ?_; refine rm rfl ?_; refine re_end rfl ?_; refine xp_ret rfl ?_
   refine blk_ret (thn_ret (round_ret (blk_ret (thn_ret (done_ret (ress_tmp rfl rfl) ⟨hk, congrArg (Value.int .i64) (mensE_no (i := i) (by simpa [okm] using h15)).symm⟩)))))
  ·
   refine xp_skip rfl ?_; refine xg (by kernel_rfl) ?_; refine rr rfl (rd_bin rfl rfl rfl rfl) ?_; refine rm rfl ?_; refine re_end rfl ?_
   have hlt : i < 4 := by simp at h8; omega
   refine ⟨4 - (i + 1), by omega, i + 1, by omega, rfl, ⟨congrArg some (congrArg (Value.int .i64) (IntWalk.i64_in _ (by omega))), rfl, trivial⟩, fun j hj => ?_, hk⟩
   ·rcases Nat.lt_succ_iff_lt_or_eq.1 hj with hj | rfl
    ·exact hok j hj
    ·revert h15; unfold okm; simp only [bne]; cases (at4 a b c d j == 2) <;> cases (at4 a b c d j == 3) <;> decide
 ·
  refine xp_exit rfl ?_; refine xs (by kernel_rfl) ?_; refine rm rfl ?_; refine re_end rfl ?_; refine xp_ret rfl ?_
  refine done_ret (ress_tmp rfl rfl) ⟨hk, congrArg (Value.int .i64) (mensE_yes fun j hj => hok j (by simp at h8; omega)).symm⟩
def one (s : Sg) : Int := bif decide (s.kind < 1) || decide (s.kind > 12) then 8 else bif !decide (s = keptS s (ub s.kind 0) (ub s.kind 1) (ub s.kind 2) (ub s.kind 3) (ub s.kind 4) (ub s.kind 5) (ub s.kind 6) (ub s.kind 7) (ub s.kind 8) (ub s.kind 9) (ub s.kind 10) (ub s.kind 11)) then 3 else bif ub s.kind 7 && (mensE s.mx s.md s.tm s.pr != 0) then 12 else bif !rangedF s (ub s.kind 0) (ub s.kind 1) (ub s.kind 2) (ub s.kind 4) (ub s.kind 10) (ub s.kind 11) then 2 else bif s.oblique && s.last then 3 else 0
noncomputable def c66 : Code := Tryz.f66.body.getD .skip
theorem spec66 (s : Sg) (hG : Gl S) : CC Tryz.prog KK 66 [s.v] S (fun v S' => Keep S S' ∧ v = .int .i64 (one s)) := by
 refine cc_enter (c := c66) (n := 43) Tryz.func66 rfl rfl rfl (by kernel_rfl) rfl rfl ?_
 have hl := Hold.start S
 refine xs (by kernel_rfl) ?_; refine re_boxL hl rfl rfl rfl rfl rfl rfl ?_; intro B1 S1 hl; refine rm rfl ?_; refine re_end rfl ?_; refine xp_seq rfl ?_; refine xp_seq rfl (xe_toL hl [(11, .bool (decide (s.kind < 1) || decide (s.kind > 12))), (1, ptrTo B1 0)] ?_ ?_)
 ·
  refine xg (by kernel_rfl) ?_; refine rr rfl (rd_fieldAddr rfl rfl (fa Tryz.underlying63 az63 rfl)) ?_; refine rr rfl (rl hl 0 rfl rfl (by kernel_rfl) rfl rfl) ?_; refine rr rfl (rd_bin rfl rfl rfl rfl) ?_; refine rm rfl ?_; refine re_bool (d := 7) rfl (fun h7 => ?_) (fun h7 => ?_)
  ·
   iterate 3 refine rz rfl ?_
   refine rm rfl ?_; refine re_end rfl ?_
   exact ⟨rfl, ⟨bl (by first | (simp [h7]; done) | (simp only [h7, BLs])), rfl, trivial⟩, hl⟩
  ·
   refine rr rfl (rd_fieldAddr rfl rfl (fa Tryz.underlying63 az63 rfl)) ?_; refine rr rfl (rl hl 0 rfl rfl (by kernel_rfl) rfl rfl) ?_; refine rr rfl (rd_bin rfl rfl rfl rfl) ?_; refine rm rfl ?_; refine re_end rfl ?_
   exact ⟨rfl, ⟨bl (by first | (simp [h7]; done) | (simp only [h7, BLs])), rfl, trivial⟩, hl⟩
 intro S1 hl
 refine xp_cond rfl rfl (fun h11 => ?_) (fun h11 => ?_)
 ·
  refine xs (by kernel_rfl) ?_; refine rm rfl ?_; refine re_end rfl ?_; refine xp_ret rfl ?_
  refine thn_ret (done_ret (ress_tmp rfl rfl) ⟨hl.keep, congrArg (Value.int .i64) (by unfold one; simp only [h11, cond_true, cond_false])⟩)
 ·
  have k1 : 1 ≤ s.kind := by simp at h11; omega
  have k2 : s.kind ≤ 12 := by simp at h11; omega
  refine xp_skip rfl ?_; refine xs (by kernel_rfl) ?_; refine rr rfl (rd_fieldAddr rfl rfl (fa Tryz.underlying63 az63 rfl)) ?_; refine rr rfl (rl hl 0 rfl rfl (by kernel_rfl) rfl rfl) ?_; refine rr rfl (rd_indexAddr rfl rfl rfl (indexAddr_array (z := 12) Tryz.underlying140 (by kernel_rfl) ⟨by omega, by omega⟩)) ?_; refine rr rfl (rd_load rfl rfl (loadN_of (z := 12) (by kernel_rfl) (by kernel_rfl) ((hl.keep.2 1 hG.1).trans hG.2) (uses_at k1 k2))) ?_
  refine re_allocL hl rfl rfl rfl rfl rfl (z := [.bool false, .bool false, .bool false, .bool false, .bool false, .bool false, .bool false, .bool false, .bool false, .bool false, .bool false, .bool false]) (by kernel_rfl) ?_; intro B3 S3 hl; refine re_storeL hl 0 rfl rfl rfl rfl rfl rfl rfl (by kernel_rfl) rfl ?_; intro S1 hl; refine re_end rfl ?_; refine xp_seq rfl ?_; refine xp_block rfl ?_; refine xp_seq rfl ?_; refine xp_draw (idx := [0, 1, 2, 3, 4, 5]) rfl (by kernel_rfl) (by kernel_rfl) ?_
  iterate 2 refine pk rfl (rd_load rfl rfl (loadN_of (z := 17) (by kernel_rfl) (by kernel_rfl) (hl.get 1 rfl) rfl)) ?_
  refine pk rfl (rd_load rfl rfl (loadN_of (z := 12) (by kernel_rfl) (by kernel_rfl) (hl.get 0 rfl) rfl)) ?_
  refine rp_callL hl rfl rfl rfl rfl rfl rfl rfl (spec81 s _ _ _ _ _ _ _ _ _ _ _ _) ?_; rintro v S1 hk1 rfl hl; refine ⟨⟨stays_no (by kernel_rfl), stays_no (by kernel_rfl), stays_load rfl rfl (loadN_of (z := 17) (by kernel_rfl) (by kernel_rfl) (hl.get 1 rfl) rfl) (same_agg rfl (atoms_sign s)) rfl, trivial⟩, ?_⟩
  refine pr rfl (rd_bin rfl rfl rfl (neSign _ _ s (keptS s (ub s.kind 0) (ub s.kind 1) (ub s.kind 2) (ub s.kind 3) (ub s.kind 4) (ub s.kind 5) (ub s.kind 6) (ub s.kind 7) (ub s.kind 8) (ub s.kind 9) (ub s.kind 10) (ub s.kind 11)))) ?_; refine pm rfl ?_; refine rp_end rfl ?_; refine xp_cond rfl rfl (fun h16 => ?_) (fun h16 => ?_)
  ·
   refine xs (by kernel_rfl) ?_; refine rm rfl ?_; refine re_end rfl ?_; refine xp_ret rfl ?_
   refine blk_ret (thn_ret (done_ret (ress_tmp rfl rfl) ⟨hl.keep, congrArg (Value.int .i64) (by unfold one; simp only [h16, h11, cond_true, cond_false])⟩))
  ·
   refine xp_seq rfl (xe_toL hl [(22, .bool (ub s.kind 7 && (mensE s.mx s.md s.tm s.pr != 0))), (3, ptrTo B3 0), (1, ptrTo B1 0)] ?_ ?_)
   ·
    refine xg (by kernel_rfl) ?_; refine rr rfl (rd_fieldAddr rfl rfl (fa Tryz.underlying139 az139 rfl)) ?_; refine rr rfl (rl hl 0 rfl rfl (by kernel_rfl) rfl rfl) ?_; refine rm rfl ?_; refine re_bool (d := 25) rfl (fun h25 => ?_) (fun h25 => ?_)
    ·
     refine rr rfl (rd_fieldAddr rfl rfl (fa Tryz.underlying63 az63 rfl)) ?_; refine rr rfl (rd_load rfl rfl (loadN_of (z := 4) (by kernel_rfl) (by kernel_rfl) (hl.get 1 rfl) rfl)) ?_
     refine re_callL hl rfl rfl rfl rfl rfl rfl rfl (spec82 _ _ _ _) ?_; rintro v S1 hk1 rfl hl
     refine rr rfl (rd_bin rfl rfl rfl rfl) ?_; iterate 2 refine rm rfl ?_
     refine re_end rfl ?_
     exact ⟨rfl, ⟨bl (by first | (simp [h25]; done) | (simp only [h25, BLs])), rfl, rfl, trivial⟩, hl⟩
    ·
     iterate 4 refine rz rfl ?_
     iterate 2 refine rm rfl ?_
     refine re_end rfl ?_
     exact ⟨rfl, ⟨bl (by first | (simp [h25]; done) | (simp only [h25, BLs])), rfl, rfl, trivial⟩, hl⟩
   intro S1 hl
   refine xp_cond rfl rfl (fun h22 => ?_) (fun h22 => ?_)
   ·
    refine xs (by kernel_rfl) ?_; refine rm rfl ?_; refine re_end rfl ?_; refine xp_ret rfl ?_
    refine blk_ret (thn_ret (done_ret (ress_tmp rfl rfl) ⟨hl.keep, congrArg (Value.int .i64) (by unfold one; simp only [h22, h16, h11, cond_true, cond_false])⟩))
   ·
    refine xs (by kernel_rfl) ?_; refine rr rfl (rd_load rfl rfl (loadN_of (z := 17) (by kernel_rfl) (by kernel_rfl) (hl.get 1 rfl) rfl)) ?_; refine rr rfl (rd_load rfl rfl (loadN_of (z := 12) (by kernel_rfl) (by kernel_rfl) (hl.get 0 rfl) rfl)) ?_
    refine re_callL hl rfl rfl rfl rfl rfl rfl rfl (spec83 s _ _ _ _ _ _ _ _ _ _ _ _) ?_; rintro v S1 hk1 rfl hl
    refine rr rfl (rd_un rfl rfl rfl) ?_; refine rm rfl ?_; refine re_end rfl ?_; refine xp_cond rfl rfl (fun h31 => ?_) (fun h31 => ?_)
    ·
     refine xs (by kernel_rfl) ?_; refine rm rfl ?_; refine re_end rfl ?_; refine xp_ret rfl ?_
     refine blk_ret (thn_ret (done_ret (ress_tmp rfl rfl) ⟨hl.keep, congrArg (Value.int .i64) (by unfold one; simp only [h31, h22, h16, h11, cond_true, cond_false])⟩))
    ·
     refine xp_seq rfl (xe_toL hl [(36, .bool (s.oblique && s.last)), (3, ptrTo B3 0), (1, ptrTo B1 0)] ?_ ?_)
     ·
      refine xg (by kernel_rfl) ?_; refine rr rfl (rd_fieldAddr rfl rfl (fa Tryz.underlying63 az63 rfl)) ?_; refine rr rfl (rl hl 1 rfl rfl (by kernel_rfl) rfl rfl) ?_; refine rm rfl ?_; refine re_bool (d := 39) rfl (fun h39 => ?_) (fun h39 => ?_)
      ·
       refine rr rfl (rd_fieldAddr rfl rfl (fa Tryz.underlying63 az63 rfl)) ?_; refine rr rfl (rl hl 1 rfl rfl (by kernel_rfl) rfl rfl) ?_; iterate 2 refine rm rfl ?_
       refine re_end rfl ?_
       exact ⟨rfl, ⟨bl (by first | (simp [h39]; done) | (simp only [h39, BLs])), rfl, rfl, trivial⟩, hl⟩
      ·
       iterate 2 refine rz rfl ?_
       iterate 2 refine rm rfl ?_
       refine re_end rfl ?_
       exact ⟨rfl, ⟨bl (by first | (simp [h39]; done) | (simp only [h39, BLs])), rfl, rfl, trivial⟩, hl⟩
     intro S1 hl
     refine xp_cond rfl rfl (fun h36 => ?_) (fun h36 => ?_)
     ·
      refine xs (by kernel_rfl) ?_; refine rm rfl ?_; refine re_end rfl ?_; refine xp_ret rfl ?_
      refine blk_ret (thn_ret (done_ret (ress_tmp rfl rfl) ⟨hl.keep, congrArg (Value.int .i64) (by unfold one; simp only [h36, h31, h22, h16, h11, cond_true, cond_false])⟩))
     ·
      refine xp_skip rfl ?_; refine xs (by kernel_rfl) ?_; refine rm rfl ?_; refine re_end rfl ?_; refine xp_ret rfl ?_
      refine done_ret (ress_tmp rfl rfl) ⟨hl.keep, congrArg (Value.int .i64) (by unfold one; simp only [h36, h31, h22, h16, h11, cond_true, cond_false])⟩
end Go.Proofs.YtkmhecihkckcmaaGreatDoor
namespace Go.Proofs.YtkmhecihkckcmaaGreatDoor
open Go.Cm Go
set_option maxRecDepth 100000
variable {S : St}
theorem nth_some {α : Type} : ∀ {l : List α} {i : Nat}, i < l.length → ∃ x, nth l i = some x
 | x :: _, 0, _ => ⟨x, rfl⟩
 | _ :: l, i + 1, h => nth_some (l := l) (i := i) (by simpa using h)
theorem nth_lt {α : Type} : ∀ {l : List α} {i : Nat} {x : α}, nth l i = some x → i < l.length
 | _ :: _, 0, _, _ => by simp
 | _ :: l, i + 1, x, h => by have := nth_lt (l := l) (i := i) (x := x) h; simp only [List.length_cons]; omega
theorem nth_map {α β : Type} (f : α → β) : ∀ {l : List α} {i : Nat} {x : α}, nth l i = some x → nth (l.map f) i = some (f x)
 | _ :: _, 0, _, h => by cases h; rfl
 | _ :: l, i + 1, x, h => nth_map f (l := l) (i := i) (x := x) h
def Signs (S : St) (v : Value) (C : List Sg) : Prop := SliceAt S 63 17 v (C.map Sg.cells)
theorem Signs.move {S S' : St} (h : RK S S') {v : Value} {C : List Sg} (hs : Signs S v C) : Signs S' v C := SliceAt.move h hs
theorem Signs.is {S : St} {v : Value} {C : List Sg} (h : Signs S v C) : ∃ a cap, v = .slice a C.length cap := by
 obtain ⟨a, cap, e⟩ := SliceAt.is h
 exact ⟨a, cap, by simpa using e⟩
theorem Signs.elem {S : St} {a : Option Addr} {len cap : Nat} {C : List Sg} (h : Signs S (.slice a len cap) C) {k : Nat} {x : Sg} (hk : nth C k = some x) :
  ∃ b o cs, a = some ⟨b, o, none⟩ ∧ len = C.length ∧ RowAt S b 63 cs ∧ takeN 17 (dropN (o + k * 17) cs) = some x.cells := by
 obtain ⟨b, o, cs, h1, h2, h3, h4⟩ := SliceAt.elem h (nth_map Sg.cells hk)
 exact ⟨b, o, cs, h1, by simpa using h2, h3, h4⟩
theorem nth_ext {α : Type} : ∀ {l r : List α}, l.length = r.length → (∀ j, j < l.length → nth l j = nth r j) → l = r
 | [], [], _, _ => rfl
 | [], _ :: _, h, _ => by simp at h
 | _ :: _, [], h, _ => by simp at h
 | x :: l, y :: r, h, hj => by
  have h0 := hj 0 (by simp)
  cases h0
  rw [nth_ext (l := l) (r := r) (by simpa using h) fun j k => hj (j + 1) (by simpa using k)]
def okc (c : Int) : Bool := !(((decide (c < 97) || decide (c > 122)) && (decide (c < 48) || decide (c > 57))) && (c != 45))
def hd0 (l : List UInt8) : Int := (l.headD 0).toNat
def nameB (l : List UInt8) : Bool := (((((l.length : Int) == 0) || decide ((l.length : Int) > 20)) || decide (hd0 l < 97)) || decide (hd0 l > 122))
def nameF (l : List UInt8) : Bool := !nameB l && l.all fun c => okc c.toNat
theorem nameB_len {l : List UInt8} (h : nameB l = false) : l.length ≤ 20 := by
 unfold nameB at h
 simp at h
 omega
theorem nth_hd {l : List UInt8} (h : ((l.length : Int) == 0) = false) : nth l 0 = some (l.headD 0) := by
 cases l with
 | nil => simp at h
 | cons a l => rfl
theorem all_no {l : List UInt8} {i : Nat} {c : UInt8} (h : nth l i = some c) (hc : okc c.toNat = false) : (l.all fun c => okc c.toNat) = false := by
 rw [List.all_eq_false]
 refine ⟨c, nth_mem h, ?_⟩
 rw [hc]; simp
theorem all_yes {l : List UInt8} (h : ∀ j, j < l.length → ∀ c, nth l j = some c → okc c.toNat = true) : (l.all fun c => okc c.toNat) = true := by
 rw [List.all_eq_true]
 intro c hc
 obtain ⟨j, hj, e⟩ := List.getElem_of_mem hc
 refine h j hj c ?_
 rw [nth_eq, List.getElem?_eq_getElem hj, e]
noncomputable def c26 : Code := Tryz.f26.body.getD .skip
theorem spec26 (a a2 : Option Addr) (cap cap2 : Nat) (C D : List Sg) (hn : C.length ≤ 1000) (hv : Signs S (.slice a C.length cap) C) (hv2 : Signs S (.slice a2 D.length cap2) D) : CC Tryz.prog KK 26 [.slice a C.length cap, .slice a2 D.length cap2] S (fun v S' => Keep S S' ∧ v = .bool (decide (C = D))) := by
 refine cc_enter (c := c26) (n := 26) Tryz.func26 rfl rfl rfl (by kernel_rfl) rfl rfl ?_
 have hl := Hold.start S
 refine xs (by kernel_rfl) ?_; refine rm rfl ?_; refine re_end rfl ?_; refine xp_seq rfl ?_; refine xs (by kernel_rfl) ?_; refine rm rfl ?_; refine rr rfl (rd_len rfl rfl (len_slice Tryz.underlying22)) ?_; refine rm rfl ?_; refine rr rfl (rd_len rfl rfl (len_slice Tryz.underlying22)) ?_; refine rr rfl (rd_bin rfl rfl rfl rfl) ?_; refine re_end rfl ?_; refine xp_cond rfl rfl (fun h10 => ?_) (fun h10 => ?_)
 ·
  refine xs (by kernel_rfl) ?_; refine rm rfl ?_; refine re_end rfl ?_; refine xp_ret rfl ?_
  refine thn_ret (done_ret (ress_tmp rfl rfl) ⟨hl.keep, congrArg Value.bool (by symm; rw [decide_eq_false_iff_not]; rintro rfl; simp at h10)⟩)
 ·
  refine xp_skip rfl ?_; refine xp_seq rfl ?_; refine xs (by kernel_rfl) ?_; refine rm rfl ?_; refine re_end rfl ?_; refine xp_block rfl ?_
  -- LOOP
  refine xe_sub (L' := [(5, .int .i64 0), (1, .slice a2 D.length cap2), (0, .slice a C.length cap)]) ⟨rfl, rfl, rfl, trivial⟩ ?_
  have hlen : C.length = D.length := by simp at h10; omega
  refine xp_loop rfl (fun m L S' => ∃ i : Nat, i ≤ C.length ∧ m = C.length - i ∧ SubE [(5, .int .i64 (i : Int)), (1, .slice a2 D.length cap2), (0, .slice a C.length cap)] L ∧ (∀ j, j < i → nth C j = nth D j) ∧ Hold S [S] S' []) ?_ (m := C.length) ⟨0, by omega, rfl, ⟨rfl, rfl, rfl, trivial⟩, fun j hj => by omega, hl⟩
  clear hl; rintro m L S' ⟨i, hi, rfl, hs, hne, hl⟩; refine xe_sub hs ?_
  refine xp_seq rfl ?_; refine xs (by kernel_rfl) ?_; iterate 2 refine rm rfl ?_
  refine rr rfl (rd_len rfl rfl (len_slice Tryz.underlying22)) ?_; refine rr rfl (rd_bin rfl rfl rfl rfl) ?_; refine re_end rfl ?_; refine xp_cond rfl rfl (fun h14 => ?_) (fun h14 => ?_)
  ·
   have hlt : i < C.length := by simp at h14; omega
   obtain ⟨x, hx⟩ := nth_some hlt
   obtain ⟨y, hy⟩ := nth_some (hlen ▸ hlt)
   obtain ⟨b, o, cs, rfl, _, hrow, htk⟩ := hv.elem hx
   obtain ⟨b2, o2, cs2, rfl, _, hrow2, htk2⟩ := hv2.elem hy
   refine xp_skip rfl ?_; refine xp_seq rfl ?_; refine xp_block rfl ?_; refine xp_seq rfl ?_; refine xp_draw (idx := [0, 1, 2, 3, 4, 5, 6, 7, 8]) rfl (by kernel_rfl) (by kernel_rfl) ?_; iterate 2 refine pm rfl ?_
   refine pr rfl (rd_indexAddr rfl rfl rfl (indexAddr_slice (z := 17) Tryz.underlying22 (by kernel_rfl) ⟨by omega, by omega⟩)) ?_; refine pk rfl (rd_load rfl rfl (loadN_row (z := 17) (by kernel_rfl) (by kernel_rfl) (row_move (hl.since 0 rfl) hrow) htk)) ?_; iterate 2 refine pm rfl ?_
   refine pr rfl (rd_indexAddr rfl rfl rfl (indexAddr_slice (z := 17) Tryz.underlying22 (by kernel_rfl) ⟨by omega, by omega⟩)) ?_; refine pk rfl (rd_load rfl rfl (loadN_row (z := 17) (by kernel_rfl) (by kernel_rfl) (row_move (hl.since 0 rfl) hrow2) htk2)) ?_; refine pr rfl (rd_bin rfl rfl rfl (neSign _ _ x y)) ?_; refine rp_end rfl ?_; refine xp_cond rfl rfl (fun h25 => ?_) (fun h25 => ?_)
   ·
    refine xs (by kernel_rfl) ?_; refine rm rfl ?_; refine re_end rfl ?_; refine xp_ret rfl ?_
    refine blk_ret (thn_ret (round_ret (blk_ret (thn_ret (done_ret (ress_tmp rfl rfl) ⟨hl.keep, congrArg Value.bool (by symm; rw [decide_eq_false_iff_not]; rintro rfl; rw [hx] at hy; cases hy; simp at h25)⟩)))))
   ·
    refine xp_skip rfl ?_; refine xg (by kernel_rfl) ?_; refine rm rfl ?_; refine rr rfl (rd_bin rfl rfl rfl rfl) ?_; refine rm rfl ?_; refine re_end rfl ?_
    refine ⟨C.length - (i + 1), by omega, i + 1, by omega, rfl, ⟨congrArg some (congrArg (Value.int .i64) (IntWalk.i64_in _ (by omega))), rfl, rfl, trivial⟩, fun j hj => ?_, hl⟩
    rcases Nat.lt_succ_iff_lt_or_eq.1 hj with hj | rfl
    ·exact hne j hj
    ·rw [hx, hy]; exact congrArg some (by simpa using h25)
  ·
   refine xp_exit rfl ?_; refine xs (by kernel_rfl) ?_; refine rm rfl ?_; refine re_end rfl ?_; refine xp_ret rfl ?_
   refine done_ret (ress_tmp rfl rfl) ⟨hl.keep, congrArg Value.bool (by symm; rw [decide_eq_true_iff]; exact nth_ext hlen fun j hj => hne j (by simp at h14; omega))⟩
noncomputable def c65 : Code := Tryz.f65.body.getD .skip
theorem spec65 (s : ByteArray) : CC Tryz.prog KK 65 [.string s] S (fun v S' => Keep S S' ∧ v = .bool (nameF s.data.toList)) := by
 refine cc_enter (c := c65) (n := 50) Tryz.func65 rfl rfl rfl (by kernel_rfl) rfl rfl ?_
 have hl := Hold.start S
 refine xs (by kernel_rfl) ?_; refine rm rfl ?_; refine re_end rfl ?_; refine xp_seq rfl ?_; refine xp_seq rfl (xe_toL hl [(22, .bool (nameB s.data.toList)), (0, .string s)] ?_ ?_)
 ·
  refine xg (by kernel_rfl) ?_; refine rm rfl ?_; refine rr rfl (rd_len rfl rfl (len_string Tryz.underlying9)) ?_; refine rr rfl (rd_bin rfl rfl rfl rfl) ?_; refine rm rfl ?_; refine re_bool (d := 8) rfl (fun h8 => ?_) (fun h8 => ?_)
  ·
   iterate 3 refine rz rfl ?_
   iterate 2 refine rm rfl ?_
   iterate 3 refine rz rfl ?_
   iterate 2 refine rm rfl ?_
   iterate 3 refine rz rfl ?_
   refine rm rfl ?_; refine re_end rfl ?_
   exact ⟨rfl, ⟨bl (by unfold nameB hd0; simp only [h8, BLs]), rfl, trivial⟩, hl⟩
  ·
   refine rm rfl ?_; refine rr rfl (rd_len rfl rfl (len_string Tryz.underlying9)) ?_; refine rr rfl (rd_bin rfl rfl rfl rfl) ?_; iterate 2 refine rm rfl ?_
   refine re_bool (d := 13) rfl (fun h13 => ?_) (fun h13 => ?_)
   ·
    iterate 3 refine rz rfl ?_
    iterate 2 refine rm rfl ?_
    iterate 3 refine rz rfl ?_
    refine rm rfl ?_; refine re_end rfl ?_
    exact ⟨rfl, ⟨bl (by unfold nameB hd0; simp only [h13, h8, BLs]), rfl, trivial⟩, hl⟩
   ·
    refine rm rfl ?_; refine rr rfl (rd_index rfl rfl rfl (index_string Tryz.underlying9 (Int.le_refl 0) (nth_hd h8))) ?_; refine rr rfl (rd_bin rfl rfl rfl rfl) ?_; iterate 2 refine rm rfl ?_
    refine re_bool (d := 18) rfl (fun h18 => ?_) (fun h18 => ?_)
    ·
     iterate 3 refine rz rfl ?_
     refine rm rfl ?_; refine re_end rfl ?_
     exact ⟨rfl, ⟨bl (by unfold nameB hd0; simp only [h18, h13, h8, BLs]), rfl, trivial⟩, hl⟩
    ·
     refine rm rfl ?_; refine rr rfl (rd_index rfl rfl rfl (index_string Tryz.underlying9 (Int.le_refl 0) (nth_hd h8))) ?_; refine rr rfl (rd_bin rfl rfl rfl rfl) ?_; refine rm rfl ?_; refine re_end rfl ?_
     exact ⟨rfl, ⟨bl (by unfold nameB hd0; simp only [h18, h13, h8, BLs]), rfl, trivial⟩, hl⟩
 intro S1 hl
 refine xp_cond rfl rfl (fun h22 => ?_) (fun h22 => ?_)
 ·
  refine xs (by kernel_rfl) ?_; refine rm rfl ?_; refine re_end rfl ?_; refine xp_ret rfl ?_
  refine thn_ret (done_ret (ress_tmp rfl rfl) ⟨hl.keep, congrArg Value.bool (by unfold nameF; rw [h22]; rfl)⟩)
 ·
  refine xp_skip rfl ?_; refine xp_seq rfl ?_; refine xs (by kernel_rfl) ?_; refine rm rfl ?_; refine rr rfl (rd_len rfl rfl (len_string Tryz.underlying9)) ?_; refine rm rfl ?_; refine re_end rfl ?_; refine xp_block rfl ?_
  -- LOOP
  refine xe_sub (L' := [(25, .int .i64 0), (24, .int .i64 s.data.toList.length), (0, .string s)]) ⟨rfl, rfl, rfl, trivial⟩ ?_
  have hn : s.data.toList.length ≤ 20 := nameB_len h22
  refine xp_loop rfl (fun m L S' => ∃ i : Nat, i ≤ s.data.toList.length ∧ m = s.data.toList.length - i ∧ SubE [(25, .int .i64 (i : Int)), (24, .int .i64 s.data.toList.length), (0, .string s)] L ∧ (∀ j, j < i → ∀ c, nth s.data.toList j = some c → okc c.toNat = true) ∧ Hold S [S] S' []) ?_ (m := s.data.toList.length) ⟨0, by omega, rfl, ⟨rfl, rfl, rfl, trivial⟩, fun j hj => by omega, hl⟩
  clear hl; rintro m L S' ⟨i, hi, rfl, hs, hok, hl⟩; refine xe_sub hs ?_
  refine xs (by kernel_rfl) ?_; refine rr rfl (rd_bin rfl rfl rfl rfl) ?_; refine re_end rfl ?_; refine xp_seq rfl ?_; refine xp_cond rfl rfl (fun h26 => ?_) (fun h26 => ?_)
  ·
   have hlt : i < s.data.toList.length := by have := of_decide_eq_true h26; omega
   obtain ⟨c, hc⟩ := nth_some hlt
   refine xp_skip rfl ?_; refine xp_seq rfl ?_; refine xp_block rfl ?_; refine xs (by kernel_rfl) ?_; iterate 2 refine rm rfl ?_
   refine re_end rfl ?_; refine xs (by kernel_rfl) ?_; iterate 2 refine rm rfl ?_
   refine rr rfl (rd_index rfl rfl rfl (index_string Tryz.underlying9 (by omega) (hc))) ?_; refine rm rfl ?_; refine re_end rfl ?_; refine xp_seq rfl (xe_toL hl [(48, .bool (!okc c.toNat)), (25, .int .i64 (i : Int)), (24, .int .i64 s.data.toList.length), (0, .string s)] ?_ ?_)
   ·
    refine xg (by kernel_rfl) ?_; refine rm rfl ?_; refine rr rfl (rd_bin rfl rfl rfl rfl) ?_; refine rm rfl ?_; refine re_bool (d := 33) rfl (fun h33 => ?_) (fun h33 => ?_)
    ·
     iterate 2 refine rz rfl ?_
     iterate 3 refine rm rfl ?_
     refine rr rfl (rd_bin rfl rfl rfl rfl) ?_; refine rm rfl ?_; refine re_bool (d := 40) rfl (fun h40 => ?_) (fun h40 => ?_)
     ·
      iterate 2 refine rz rfl ?_
      iterate 4 refine rm rfl ?_
      refine rr rfl (rd_bin rfl rfl rfl rfl) ?_; refine rm rfl ?_; refine re_end rfl ?_
      exact ⟨rfl, ⟨bl (by unfold okc; simp only [h40, h33, BLs, Bool.not_not]), rfl, rfl, rfl, trivial⟩, hl⟩
     ·
      refine rm rfl ?_; refine rr rfl (rd_bin rfl rfl rfl rfl) ?_; iterate 3 refine rm rfl ?_
      refine re_bool (d := 45) rfl (fun h45 => ?_) (fun h45 => ?_)
      ·
       refine rm rfl ?_; refine rr rfl (rd_bin rfl rfl rfl rfl) ?_; refine rm rfl ?_; refine re_end rfl ?_
       exact ⟨rfl, ⟨bl (by unfold okc; simp only [h45, h40, h33, BLs, Bool.not_not]), rfl, rfl, rfl, trivial⟩, hl⟩
      ·
       iterate 2 refine rz rfl ?_
       refine rm rfl ?_; refine re_end rfl ?_
       exact ⟨rfl, ⟨bl (by unfold okc; simp only [h45, h40, h33, BLs, Bool.not_not]), rfl, rfl, rfl, trivial⟩, hl⟩
    ·
     refine rm rfl ?_; refine rr rfl (rd_bin rfl rfl rfl rfl) ?_; iterate 2 refine rm rfl ?_
     refine re_bool (d := 37) rfl (fun h37 => ?_) (fun h37 => ?_)
     ·
      refine rm rfl ?_; refine rr rfl (rd_bin rfl rfl rfl rfl) ?_; refine rm rfl ?_; refine re_bool (d := 40) rfl (fun h40 => ?_) (fun h40 => ?_)
      ·
       iterate 2 refine rz rfl ?_
       iterate 4 refine rm rfl ?_
       refine rr rfl (rd_bin rfl rfl rfl rfl) ?_; refine rm rfl ?_; refine re_end rfl ?_
       exact ⟨rfl, ⟨bl (by unfold okc; simp only [h40, h37, h33, BLs, Bool.not_not]), rfl, rfl, rfl, trivial⟩, hl⟩
      ·
       refine rm rfl ?_; refine rr rfl (rd_bin rfl rfl rfl rfl) ?_; iterate 3 refine rm rfl ?_
       refine re_bool (d := 45) rfl (fun h45 => ?_) (fun h45 => ?_)
       ·
        refine rm rfl ?_; refine rr rfl (rd_bin rfl rfl rfl rfl) ?_; refine rm rfl ?_; refine re_end rfl ?_
        exact ⟨rfl, ⟨bl (by unfold okc; simp only [h45, h40, h37, h33, BLs, Bool.not_not]), rfl, rfl, rfl, trivial⟩, hl⟩
       ·
        iterate 2 refine rz rfl ?_
        refine rm rfl ?_; refine re_end rfl ?_
        exact ⟨rfl, ⟨bl (by unfold okc; simp only [h45, h40, h37, h33, BLs, Bool.not_not]), rfl, rfl, rfl, trivial⟩, hl⟩
     ·
      iterate 6 refine rz rfl ?_
      iterate 2 refine rm rfl ?_
      iterate 2 refine rz rfl ?_
      refine rm rfl ?_; refine re_end rfl ?_
      exact ⟨rfl, ⟨bl (by unfold okc; simp only [h37, h33, BLs, Bool.not_not]), rfl, rfl, rfl, trivial⟩, hl⟩
   intro S1 hl
   refine xp_cond rfl rfl (fun h48 => ?_) (fun h48 => ?_)
   ·
    refine xs (by kernel_rfl) ?_; refine rm rfl ?_; refine re_end rfl ?_; refine xp_ret rfl ?_
    refine blk_ret (thn_ret (round_ret (blk_ret (thn_ret (done_ret (ress_tmp rfl rfl) ⟨hl.keep, congrArg Value.bool (by unfold nameF; rw [all_no hc (by simpa using h48), Bool.and_false])⟩)))))
   ·
    refine xp_skip rfl ?_; refine xg (by kernel_rfl) ?_; refine rr rfl (rd_bin rfl rfl rfl rfl) ?_; refine rm rfl ?_; refine re_end rfl ?_
    refine ⟨s.data.toList.length - (i + 1), by omega, i + 1, by omega, rfl, ⟨congrArg some (congrArg (Value.int .i64) (IntWalk.i64_in _ (by omega))), rfl, rfl, trivial⟩, fun j hj y hy => ?_, hl⟩
    rcases Nat.lt_succ_iff_lt_or_eq.1 hj with hj | rfl
    ·exact hok j hj y hy
    ·rw [hc] at hy; cases hy; simpa using h48
  ·
   refine xp_exit rfl ?_; refine xs (by kernel_rfl) ?_; refine rm rfl ?_; refine re_end rfl ?_; refine xp_ret rfl ?_
   refine done_ret (ress_tmp rfl rfl) ⟨hl.keep, congrArg Value.bool (by unfold nameF; rw [h22, all_yes fun j hj c hc => hok j (by have := of_decide_eq_false h26; omega) c hc]; rfl)⟩
end Go.Proofs.YtkmhecihkckcmaaGreatDoor
namespace Go.Proofs.YtkmhecihkckcmaaGreatDoor
open Go.Cm Go
set_option maxRecDepth 100000
variable {S : St}
theorem Signs.front {S : St} {a : Option Addr} {len cap : Nat} {C : List Sg} (h : Signs S (.slice a len cap) C) {k : Nat} (hk : k < C.length) :
  ∃ a2 cap', sliceV Tryz.prog 22 (.slice a len cap) none (some (.int .i64 (k : Int))) none S = some (.slice a2 (C.take k).length cap') ∧ Signs S (.slice a2 (C.take k).length cap') (C.take k) := by
 obtain ⟨v, h1, ⟨cap', h2⟩, h3⟩ := SliceAt.front (P := Tryz.prog) (kk := .i64) h Tryz.underlying22 (by kernel_rfl) (by simpa using hk)
 subst h2
 have e : (C.take k).length = k := by rw [List.length_take, Nat.min_eq_left (by omega)]
 rw [e]
 exact ⟨_, _, h1, by unfold Signs; rw [List.map_take]; exact h3⟩
theorem drop_nth' {α : Type} : ∀ {l : List α} {i : Nat} {x : α}, nth l i = some x → l.drop i = x :: l.drop (i + 1)
 | [], _, _, h => by cases h
 | y :: l, 0, x, h => by cases h; rfl
 | y :: l, i + 1, x, h => by simpa using drop_nth' (l := l) (i := i) h
def GrowS (S0 S : St) (v : Value) (C : List Sg) : Prop := Grow S0 S ⟨v, 63, 17, (C.map Sg.cells).flatten, C.length⟩
theorem cells17 (s : Sg) : s.cells.length = 17 := rfl
theorem flat17 : ∀ C : List Sg, ((C.map Sg.cells).flatten).length = C.length * 17
 | [] => rfl
 | x :: C => by simp only [List.map_cons, List.flatten_cons, List.length_append, flat17 C, cells17, List.length_cons, Nat.add_mul]; omega
theorem cellV_sign (s : Sg) : s.cells.all cellV = true := rfl
theorem flatCell : ∀ C : List Sg, ((C.map Sg.cells).flatten).all cellV = true
 | [] => rfl
 | x :: C => by simp only [List.map_cons, List.flatten_cons, List.all_append, flatCell C, cellV_sign, Bool.and_self]
theorem GrowS.signs {S0 S : St} {v : Value} {C : List Sg} (h : GrowS S0 S v C) : Signs S v C :=
 Grow.sliceAt (g := ⟨v, 63, 17, (C.map Sg.cells).flatten, C.length⟩) h (by simp) rfl (fun x hx => by
  obtain ⟨s, _, rfl⟩ := List.mem_map.1 hx
  rfl)
theorem clone_nil {S T : St} {a : Option Addr} {cap : Nat} {C : List Sg} (h : Signs S (.slice a C.length cap) C) (ha : a.isNone = true) : GrowS S T (tupV [.slice none 0 0]) C := by
 cases a with
 | some x => cases ha
 | none =>
  rcases h with ⟨h1, _⟩ | ⟨_, _, _, _, h1, _⟩
  ·obtain rfl : C = [] := List.map_eq_nil_iff.1 h1
   exact .inl ⟨rfl, rfl, rfl⟩
  ·cases h1
theorem clone_grow {S0 S : St} {v : Value} {C : List Sg} (h : Grow S0 S ⟨v, 63, 17, [] ++ (C.map Sg.cells).flatten, 0 + C.length⟩) : GrowS S0 S v C := by
 rw [List.nil_append, Nat.zero_add] at h
 exact h
noncomputable def c55 : Code := Tryz.f55.body.getD .skip
theorem spec55 (a : Option Addr) (cap : Nat) (C : List Sg) (hn : C.length ≤ 1000) (hv : Signs S (.slice a C.length cap) C) : CC Tryz.prog KK 55 [.slice a C.length cap] S (fun v S' => Keep S S' ∧ GrowS S S' v C) := by
 refine cc_enter (c := c55) (n := 8) Tryz.func55 rfl rfl rfl (by kernel_rfl) rfl rfl ?_
 have hl := Hold.start S
 refine xs (by kernel_rfl) ?_; refine rm rfl ?_; refine re_end rfl ?_; refine xp_seq rfl ?_; refine xs (by kernel_rfl) ?_; refine rm rfl ?_; refine rr rfl (rd_bin rfl rfl rfl (eq_nil Tryz.underlying22)) ?_; refine re_end rfl ?_; refine xp_cond rfl rfl (fun h4 => ?_) (fun h4 => ?_)
 ·
  refine xs (by kernel_rfl) ?_; refine rm rfl ?_; refine re_end rfl ?_; refine xp_ret rfl ?_
  refine thn_ret (done_ret (ress_tmp rfl rfl) ⟨hl.keep, clone_nil hv h4⟩)
 ·
  refine xp_skip rfl ?_; refine xs (by kernel_rfl) ?_; refine re_buildSliceG hl (c := []) 17 rfl rfl rfl rfl rfl Tryz.underlying22 rfl (by kernel_rfl) rfl ?_; intro v5 S1 hl; refine rm rfl ?_
  have hv' := hv.move (hl.since 0 rfl)
  refine re_appendG hl 0 rfl rfl (by simp) rfl rfl rfl rfl rfl rfl rfl Tryz.underlying22 Tryz.underlying22 rfl rfl (by kernel_rfl) hv'.cells (flat17 C) (flatCell C) (by kernel_rfl) (by show 0 + C.length ≤ maxNeed; unfold maxNeed; omega) ?_; intro v7 S1 hl; refine rm rfl ?_; refine re_end rfl ?_; refine xp_ret rfl ?_
  refine done_ret (ress_tmp rfl rfl) ⟨hl.keep, clone_grow (hl.gr _ (List.mem_cons_self ..))⟩
end Go.Proofs.YtkmhecihkckcmaaGreatDoor
namespace Go.Proofs.YtkmhecihkckcmaaGreatDoor
open Go.Cm Go
set_option maxRecDepth 100000
variable {S : St}
theorem Grow.is {S0 S : St} {g : Gr} (h : Grow S0 S g) : ∃ a, g.v = .slice a g.n g.n := by
 rcases h with ⟨h1, _, h3⟩ | ⟨b, kin, h1, _⟩
 ·exact ⟨none, by rw [h1, h3]⟩
 ·exact ⟨_, h1⟩
theorem src_row {S : St} {b o n cap z : Nat} {e : TypeId} {c new : List Value} (h : RowAt S b e c) (hn : takeN (n * z) (dropN o c) = some new) : sourceCells S z n (.slice (some ⟨b, o, none⟩) n cap) = some new := by
 obtain ⟨_, own, kin, hg⟩ := h
 show readCells S b o (n * z) = _
 unfold readCells
 rw [hg]
 exact hn
theorem indexAddr_sl {t e : TypeId} {a : Option Addr} {b o len cap z : Nat} {k : IntKind} {i : Int} (ha : a = some ⟨b, o, none⟩) (hu : Tryz.prog.underlying t = some (.slice e)) (hz : szOf Tryz.prog e = some z) (hi : 0 ≤ i ∧ i < len) :
  indexAddrV Tryz.prog t (.slice a len cap) (.int k i) = some (ptrTo b (o + i.toNat * z)) := by
 subst ha
 exact indexAddr_slice hu hz hi
end Go.Proofs.YtkmhecihkckcmaaGreatDoor
namespace Go.Proofs.YtkmhecihkckcmaaGreatDoor
open Go.Cm Go
set_option maxRecDepth 100000
variable {S : St}
theorem tk_nth {z o j : Nat} {c l : List Value} {v : Value} (h : takeN z (dropN o c) = some l) (hj : nth l j = some v) : nth c (o + j) = some v := by
 obtain ⟨_, _, e⟩ := takeN_spec _ _ _ h
 subst e
 have := nth_take hj
 rw [dropN_eq] at this
 rw [nth_eq] at this ⊢
 rw [List.getElem?_drop] at this
 exact this
theorem res2 {a b : Int} {p : Int × Int} (h : (a, b) = p) : tupV [.int .i64 a, .int .i64 b] = tupV [.int .i64 p.1, .int .i64 p.2] := by subst h; rfl
end Go.Proofs.YtkmhecihkckcmaaGreatDoor
namespace Go.Proofs.YtkmhecihkckcmaaGreatDoor
open Go.Cm Go
set_option maxRecDepth 100000
variable {S : St}
theorem rep_int {P : Program} {n : Nat} {t : TypeId} {k : IntKind} {c : List Value} (h : Rep P (n + 1) t S c) (hu : P.underlying t = some (.int k)) : ∃ m, c = [.int k m] := by
 unfold Rep at h
 rw [hu] at h
 obtain ⟨m, h, _⟩ := h
 exact ⟨m, h⟩
theorem rep_bool {P : Program} {n : Nat} {t : TypeId} {c : List Value} (h : Rep P (n + 1) t S c) (hu : P.underlying t = some .bool) : ∃ b, c = [.bool b] := by
 unfold Rep at h
 rw [hu] at h
 exact h
theorem rep_len {P : Program} {n : Nat} {t : TypeId} {fs : Array Field} {c : List Value} {z : Nat} (h : Rep P (n + 1) t S c) (hu : P.underlying t = some (.struct fs)) (hz : P.cellsOf t = z) : c.length = z := by
 unfold Rep at h
 rw [hu] at h
 exact h.1.trans hz
theorem rep_field {P : Program} {n j z : Nat} {t : TypeId} {fs : Array Field} {f : Field} {c : List Value} (h : Rep P (n + 1) t S c) (hu : P.underlying t = some (.struct fs)) (hf : nth fs.toList j = some f) (hz : P.cellsOf f.type = z) : Rep P n f.type S ((c.drop f.offset).take z) := by
 unfold Rep at h
 rw [hu] at h
 rw [← hz]
 exact h.2 f (nth_mem hf)
theorem nth_range {α : Type} (f : Nat → α) : ∀ (n k i : Nat), i < n → nth ((List.range' k n).map f) i = some (f (k + i))
 | n + 1, k, 0, _ => rfl
 | n + 1, k, i + 1, h => by
  show nth ((List.range' (k + 1) n).map f) i = _
  rw [nth_range f n (k + 1) i (by omega)]
  congr 2; omega
theorem rep_slice {P : Program} {n z : Nat} {t e : TypeId} {c : List Value} (h : Rep P (n + 1) t S c) (hu : P.underlying t = some (.slice e)) (hz : P.cellsOf e = z) : ∃ v C, c = [v] ∧ SliceAt S e z v C ∧ ∀ x, x ∈ C → Rep P n e S x := by
 unfold Rep at h
 rw [hu] at h
 rcases h with h | ⟨b, o, k, h⟩ | ⟨b, len, cs, h1, h2, h3, h4, h5, h6⟩
 ·exact ⟨_, [], h, .inl ⟨rfl, .inl rfl⟩, fun x hx => (List.not_mem_nil hx).elim⟩
 ·exact ⟨_, [], h, .inl ⟨rfl, .inr ⟨b, o, k, rfl⟩⟩, fun x hx => (List.not_mem_nil hx).elim⟩
 ·refine ⟨_, (List.range' 0 len).map (fun i => (cs.drop (i * z)).take z), h1, .inr ⟨b, 0, len, cs, by simp, by simp, ⟨h2, _, _, h3⟩, fun k x hk => ?_⟩, fun x hx => ?_⟩
  ·have hlt : k < len := by have := nth_lt hk; simpa using this
   rw [nth_range _ _ _ _ hlt] at hk
   cases hk
   rw [dropN_eq, Nat.zero_add, Nat.zero_add, takeN_some]
   rw [List.length_drop, h4, hz]
   have : (k + 1) * z ≤ len * z := Nat.mul_le_mul_right z hlt
   rw [Nat.add_mul] at this
   omega
  ·obtain ⟨i, hi, rfl⟩ := List.mem_map.1 hx
   rw [List.mem_range'_1] at hi
   have := h6 i (by omega)
   rw [hz] at this
   exact this
theorem uncons {c : List Value} {n : Nat} (h : c.length = n + 1) : ∃ x r, c = x :: r ∧ r.length = n := by
 cases c with
 | nil => cases h
 | cons x r => exact ⟨x, r, rfl, by simpa using h⟩
theorem rep_mens {c : List Value} {n : Nat} (h : Rep Tryz.prog (n + 2) 59 S c) : ∃ a b d e, c = [.int .i64 a, .int .i64 b, .int .i64 d, .int .i64 e] := by
 have hl0 := rep_len h Tryz.underlying59 (z := 4) (by kernel_rfl)
 obtain ⟨x0, r0, rfl, hl1⟩ := uncons hl0
 obtain ⟨x1, r1, rfl, hl2⟩ := uncons hl1
 obtain ⟨x2, r2, rfl, hl3⟩ := uncons hl2
 obtain ⟨x3, r3, rfl, hl4⟩ := uncons hl3
 obtain rfl := List.length_eq_zero_iff.1 hl4
 obtain ⟨a0, e0⟩ := rep_int (rep_field h Tryz.underlying59 (j := 0) (z := 1) rfl (by kernel_rfl)) Tryz.underlying3
 obtain ⟨a1, e1⟩ := rep_int (rep_field h Tryz.underlying59 (j := 1) (z := 1) rfl (by kernel_rfl)) Tryz.underlying3
 obtain ⟨a2, e2⟩ := rep_int (rep_field h Tryz.underlying59 (j := 2) (z := 1) rfl (by kernel_rfl)) Tryz.underlying3
 obtain ⟨a3, e3⟩ := rep_int (rep_field h Tryz.underlying59 (j := 3) (z := 1) rfl (by kernel_rfl)) Tryz.underlying3
 cases e0; cases e1; cases e2; cases e3
 exact ⟨a0, a1, a2, a3, rfl⟩
theorem rep_clef {c : List Value} {n : Nat} (h : Rep Tryz.prog (n + 2) 61 S c) : ∃ a b, c = [.int .i64 a, .int .i64 b] := by
 have hl0 := rep_len h Tryz.underlying61 (z := 2) (by kernel_rfl)
 obtain ⟨x0, r0, rfl, hl1⟩ := uncons hl0
 obtain ⟨x1, r1, rfl, hl2⟩ := uncons hl1
 obtain rfl := List.length_eq_zero_iff.1 hl2
 obtain ⟨a0, e0⟩ := rep_int (rep_field h Tryz.underlying61 (j := 0) (z := 1) rfl (by kernel_rfl)) Tryz.underlying3
 obtain ⟨a1, e1⟩ := rep_int (rep_field h Tryz.underlying61 (j := 1) (z := 1) rfl (by kernel_rfl)) Tryz.underlying3
 cases e0; cases e1
 exact ⟨a0, a1, rfl⟩
theorem rep_sign {c : List Value} {n : Nat} (h : Rep Tryz.prog (n + 3) 63 S c) : ∃ s : Sg, c = s.cells := by
 have hl0 := rep_len h Tryz.underlying63 (z := 17) (by kernel_rfl)
 obtain ⟨x0, r0, rfl, hl1⟩ := uncons hl0
 obtain ⟨x1, r1, rfl, hl2⟩ := uncons hl1
 obtain ⟨x2, r2, rfl, hl3⟩ := uncons hl2
 obtain ⟨x3, r3, rfl, hl4⟩ := uncons hl3
 obtain ⟨x4, r4, rfl, hl5⟩ := uncons hl4
 obtain ⟨x5, r5, rfl, hl6⟩ := uncons hl5
 obtain ⟨x6, r6, rfl, hl7⟩ := uncons hl6
 obtain ⟨x7, r7, rfl, hl8⟩ := uncons hl7
 obtain ⟨x8, r8, rfl, hl9⟩ := uncons hl8
 obtain ⟨x9, r9, rfl, hl10⟩ := uncons hl9
 obtain ⟨x10, r10, rfl, hl11⟩ := uncons hl10
 obtain ⟨x11, r11, rfl, hl12⟩ := uncons hl11
 obtain ⟨x12, r12, rfl, hl13⟩ := uncons hl12
 obtain ⟨x13, r13, rfl, hl14⟩ := uncons hl13
 obtain ⟨x14, r14, rfl, hl15⟩ := uncons hl14
 obtain ⟨x15, r15, rfl, hl16⟩ := uncons hl15
 obtain ⟨x16, r16, rfl, hl17⟩ := uncons hl16
 obtain rfl := List.length_eq_zero_iff.1 hl17
 obtain ⟨a0, e0⟩ := rep_int (rep_field h Tryz.underlying63 (j := 0) (z := 1) rfl (by kernel_rfl)) Tryz.underlying3
 obtain ⟨a1, e1⟩ := rep_int (rep_field h Tryz.underlying63 (j := 1) (z := 1) rfl (by kernel_rfl)) Tryz.underlying3
 obtain ⟨a2, e2⟩ := rep_int (rep_field h Tryz.underlying63 (j := 2) (z := 1) rfl (by kernel_rfl)) Tryz.underlying3
 obtain ⟨a3, e3⟩ := rep_int (rep_field h Tryz.underlying63 (j := 3) (z := 1) rfl (by kernel_rfl)) Tryz.underlying3
 obtain ⟨a4, e4⟩ := rep_bool (rep_field h Tryz.underlying63 (j := 4) (z := 1) rfl (by kernel_rfl)) Tryz.underlying4
 obtain ⟨a5, e5⟩ := rep_int (rep_field h Tryz.underlying63 (j := 5) (z := 1) rfl (by kernel_rfl)) Tryz.underlying3
 obtain ⟨a6, e6⟩ := rep_bool (rep_field h Tryz.underlying63 (j := 6) (z := 1) rfl (by kernel_rfl)) Tryz.underlying4
 obtain ⟨a7, e7⟩ := rep_bool (rep_field h Tryz.underlying63 (j := 7) (z := 1) rfl (by kernel_rfl)) Tryz.underlying4
 obtain ⟨a8, a9, a10, a11, e8⟩ := rep_mens (rep_field h Tryz.underlying63 (j := 8) (z := 4) rfl (by kernel_rfl))
 obtain ⟨a12, e12⟩ := rep_bool (rep_field h Tryz.underlying63 (j := 9) (z := 1) rfl (by kernel_rfl)) Tryz.underlying4
 obtain ⟨a13, e13⟩ := rep_int (rep_field h Tryz.underlying63 (j := 10) (z := 1) rfl (by kernel_rfl)) Tryz.underlying3
 obtain ⟨a14, e14⟩ := rep_int (rep_field h Tryz.underlying63 (j := 11) (z := 1) rfl (by kernel_rfl)) Tryz.underlying3
 obtain ⟨a15, a16, e15⟩ := rep_clef (rep_field h Tryz.underlying63 (j := 12) (z := 2) rfl (by kernel_rfl))
 cases e0; cases e1; cases e2; cases e3; cases e4; cases e5; cases e6; cases e7; cases e8; cases e12; cases e13; cases e14; cases e15
 exact ⟨⟨a0, a1, a2, a3, a4, a5, a6, a7, a8, a9, a10, a11, a12, a13, a14, a15, a16⟩, rfl⟩
theorem all_signs : ∀ {C : List (List Value)}, (∀ x, x ∈ C → ∃ s : Sg, x = s.cells) → ∃ L : List Sg, C = L.map Sg.cells
 | [], _ => ⟨[], rfl⟩
 | x :: C, h => by
  obtain ⟨s, e⟩ := h x (List.mem_cons_self ..)
  obtain ⟨L, e2⟩ := all_signs (C := C) fun y hy => h y (List.mem_cons_of_mem _ hy)
  exact ⟨s :: L, by rw [e, e2]; rfl⟩
end Go.Proofs.YtkmhecihkckcmaaGreatDoor
namespace Go.Proofs.YtkmhecihkckcmaaGreatDoor
open Go.Cm Go
set_option maxRecDepth 100000
variable {S : St}
noncomputable def c19 : Code := Tryz.f19.body.getD .skip
theorem spec19 (a : Option Addr) (cap : Nat) (C : List Sg) (hn : C.length ≤ 1000) (hv : Signs S (.slice a C.length cap) C) : CC Tryz.prog KK 19 [.slice a C.length cap] S (fun v S' => Keep S S' ∧ GrowS S S' v C) := by
 refine cc_enter (c := c19) (n := 6) Tryz.func19 rfl rfl rfl (by kernel_rfl) rfl rfl ?_
 have hl := Hold.start S
 refine xs (by kernel_rfl) ?_; refine rm rfl ?_; refine re_end rfl ?_; refine xs (by kernel_rfl) ?_; refine re_buildSliceG hl (c := []) 17 rfl rfl rfl rfl rfl Tryz.underlying22 rfl (by kernel_rfl) rfl ?_; intro v3 S1 hl; refine rm rfl ?_
 have hv' := hv.move (hl.since 0 rfl)
 refine re_appendG hl 0 rfl rfl (by simp) rfl rfl rfl rfl rfl rfl rfl Tryz.underlying22 Tryz.underlying22 rfl rfl (by kernel_rfl) hv'.cells (flat17 C) (flatCell C) (by kernel_rfl) (by show 0 + C.length ≤ maxNeed; unfold maxNeed; omega) ?_; intro v5 S1 hl; refine rm rfl ?_; refine re_end rfl ?_; refine xp_ret rfl ?_
 refine done_ret (ress_tmp rfl rfl) ⟨hl.keep, clone_grow (hl.gr _ (List.mem_cons_self ..))⟩
noncomputable def c112 : Code := Tryz.f112.body.getD .skip
theorem spec112 (c : Int) : CC Tryz.prog KK 112 [.int .u8 c] S (fun v S' => Keep S S' ∧ v = .bool (decide (97 ≤ c) && decide (c ≤ 122))) := by
 refine cc_enter (c := c112) (n := 9) Tryz.func112 rfl rfl rfl (by kernel_rfl) rfl rfl ?_
 have hl := Hold.start S
 refine xs (by kernel_rfl) ?_; refine rm rfl ?_; refine re_end rfl ?_; refine xs (by kernel_rfl) ?_; refine rm rfl ?_; refine rr rfl (rd_bin rfl rfl rfl rfl) ?_; refine rm rfl ?_; refine re_bool (d := 5) rfl (fun h5 => ?_) (fun h5 => ?_)
 ·
  refine rm rfl ?_; refine rr rfl (rd_bin rfl rfl rfl rfl) ?_; iterate 2 refine rm rfl ?_
  refine re_end rfl ?_; refine xp_ret rfl ?_
  refine done_ret (ress_tmp rfl rfl) ⟨hl.keep, congrArg Value.bool (by first | (simp [h5]; done) | (simp at *; simp [*]; done) | (simp at *; omega))⟩
 ·
  iterate 2 refine rz rfl ?_
  iterate 2 refine rm rfl ?_
  refine re_end rfl ?_; refine xp_ret rfl ?_
  refine done_ret (ress_tmp rfl rfl) ⟨hl.keep, congrArg Value.bool (by first | (simp [h5]; done) | (simp at *; simp [*]; done) | (simp at *; omega))⟩
noncomputable def c113 : Code := Tryz.f113.body.getD .skip
theorem spec113 (c : Int) : CC Tryz.prog KK 113 [.int .u8 c] S (fun v S' => Keep S S' ∧ v = .bool (decide (48 ≤ c) && decide (c ≤ 57))) := by
 refine cc_enter (c := c113) (n := 9) Tryz.func113 rfl rfl rfl (by kernel_rfl) rfl rfl ?_
 have hl := Hold.start S
 refine xs (by kernel_rfl) ?_; refine rm rfl ?_; refine re_end rfl ?_; refine xs (by kernel_rfl) ?_; refine rm rfl ?_; refine rr rfl (rd_bin rfl rfl rfl rfl) ?_; refine rm rfl ?_; refine re_bool (d := 5) rfl (fun h5 => ?_) (fun h5 => ?_)
 ·
  refine rm rfl ?_; refine rr rfl (rd_bin rfl rfl rfl rfl) ?_; iterate 2 refine rm rfl ?_
  refine re_end rfl ?_; refine xp_ret rfl ?_
  refine done_ret (ress_tmp rfl rfl) ⟨hl.keep, congrArg Value.bool (by first | (simp [h5]; done) | (simp at *; simp [*]; done) | (simp at *; omega))⟩
 ·
  iterate 2 refine rz rfl ?_
  iterate 2 refine rm rfl ?_
  refine re_end rfl ?_; refine xp_ret rfl ?_
  refine done_ret (ress_tmp rfl rfl) ⟨hl.keep, congrArg Value.bool (by first | (simp [h5]; done) | (simp at *; simp [*]; done) | (simp at *; omega))⟩
noncomputable def c141 : Code := Tryz.f141.body.getD .skip
theorem spec141 (a b c : Int) : CC Tryz.prog KK 141 [.int .i64 a, .int .i64 b, .int .i64 c] S (fun v S' => Keep S S' ∧ v = .bool (decide (b ≤ a) && decide (a ≤ c))) := by
 refine cc_enter (c := c141) (n := 15) Tryz.func141 rfl rfl rfl (by kernel_rfl) rfl rfl ?_
 have hl := Hold.start S
 refine xs (by kernel_rfl) ?_; refine rm rfl ?_; refine re_end rfl ?_; refine xs (by kernel_rfl) ?_; iterate 2 refine rm rfl ?_
 refine rr rfl (rd_bin rfl rfl rfl rfl) ?_; refine rm rfl ?_; refine re_bool (d := 10) rfl (fun h10 => ?_) (fun h10 => ?_)
 ·
  iterate 2 refine rm rfl ?_
  refine rr rfl (rd_bin rfl rfl rfl rfl) ?_; iterate 2 refine rm rfl ?_
  refine re_end rfl ?_; refine xp_ret rfl ?_
  refine done_ret (ress_tmp rfl rfl) ⟨hl.keep, congrArg Value.bool (by first | (simp [h10]; done) | (simp at *; simp [*]; done) | (simp at *; omega))⟩
 ·
  iterate 3 refine rz rfl ?_
  iterate 2 refine rm rfl ?_
  refine re_end rfl ?_; refine xp_ret rfl ?_
  refine done_ret (ress_tmp rfl rfl) ⟨hl.keep, congrArg Value.bool (by first | (simp [h10]; done) | (simp at *; simp [*]; done) | (simp at *; omega))⟩
end Go.Proofs.YtkmhecihkckcmaaGreatDoor
