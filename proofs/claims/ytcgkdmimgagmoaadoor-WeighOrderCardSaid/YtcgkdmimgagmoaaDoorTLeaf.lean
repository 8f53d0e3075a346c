/-
  Compare's small functions: what each returns.
-/
import Derived.Test.YtcgkdmimgagmoaaDoorRows
import Derived.KernelRfl
import Derived.WalkKit
import Derived.ProofKit
import Derived.Conc.DeferLaws
import Derived.Laws.Externs
import Derived.LoopN
namespace Go.Proofs.YtcgkdmimgagmoaaDoor
open Go.ChangeShapes Go.WideShapes Go.ChangeAt Go.RowKit

def cmpI (a b : Int) : Int := if a < b then -1 else if a > b then 1 else 0

theorem isNaN28 (a : Int) (w : World) : Calls Tryd.prog 28 #[.int .u64 a] w fun e w' => e = .returned (.bool false) ∧ w' = w := by
  go_enter Tryd.func28, Tryd.ntmps28
  go_wp2
  all_goals go_ret
  all_goals simp
theorem isNaN29 (a : Int) (w : World) : Calls Tryd.prog 29 #[.int .i64 a] w fun e w' => e = .returned (.bool false) ∧ w' = w := by
  go_enter Tryd.func29, Tryd.ntmps29
  go_wp2
  all_goals go_ret
  all_goals simp
theorem cmp15 (a b : Int) (w : World) : Calls Tryd.prog 15 #[.int .u64 a, .int .u64 b] w fun e w' => e = .returned (.int .i64 (cmpI a b)) ∧ w' = w := by
  go_enter Tryd.func15, Tryd.ntmps15
  go_wp2_with (go_at_call 28; refine (isNaN28 _ _).mono ?_; rintro e w' ⟨rfl, rfl⟩)
  all_goals go_ret
  all_goals (unfold cmpI; simp only [true_and, and_true, Ending.returned.injEq, Value.int.injEq]; split <;> first | rfl | (split <;> first | rfl | omega) | omega)
theorem cmp16 (a b : Int) (w : World) : Calls Tryd.prog 16 #[.int .i64 a, .int .i64 b] w fun e w' => e = .returned (.int .i64 (cmpI a b)) ∧ w' = w := by
  go_enter Tryd.func16, Tryd.ntmps16
  go_wp2_with (go_at_call 29; refine (isNaN29 _ _).mono ?_; rintro e w' ⟨rfl, rfl⟩)
  all_goals go_ret
  all_goals (unfold cmpI; simp only [true_and, and_true, Ending.returned.injEq, Value.int.injEq]; split <;> first | rfl | (split <;> first | rfl | omega) | omega)

def firstOf (a b c d : Int) : Int := if a != 0 then a else if b != 0 then b else if c != 0 then c else d
theorem or14 (r o c : Nat) (x0 x1 x2 x3 : Int) (w : World) (h0 : w.cell? ⟨r, o, none⟩ = some (.int .i64 x0)) (h1 : w.cell? ⟨r, o + 1, none⟩ = some (.int .i64 x1)) (h2 : w.cell? ⟨r, o + 2, none⟩ = some (.int .i64 x2))
    (h3 : w.cell? ⟨r, o + 3, none⟩ = some (.int .i64 x3)) : Calls Tryd.prog 14 #[.slice (some ⟨r, o, none⟩) 4 c] w fun e w' => e = .returned (.int .i64 (firstOf x0 x1 x2 x3)) ∧ w' = w := by
  go_enter Tryd.func14, Tryd.ntmps14
  go_wp2
  refine wp_loop_rounds 5 ?_
  rw [rounds_succ]
  go_wp2
  · go_ret
    simp_all [firstOf]
  rw [rounds_succ]
  go_wp2
  · go_ret
    simp_all [firstOf]
  rw [rounds_succ]
  go_wp2
  · go_ret
    simp_all [firstOf]
  rw [rounds_succ]
  go_wp2
  · go_ret
    simp_all [firstOf]
  rw [rounds_succ]
  go_wp2
  go_ret
  simp_all [firstOf]

theorem xor_top {x : Nat} (h : x < 2 ^ 63) : x ^^^ 2 ^ 63 = 2 ^ 63 + x := by
  refine Nat.eq_of_testBit_eq fun i => ?_
  rw [Nat.testBit_xor, Nat.testBit_two_pow]
  rcases Nat.lt_trichotomy i 63 with hi | hi | hi
  · rw [Nat.testBit_two_pow_add_gt hi, decide_eq_false (by omega), Bool.xor_false]
  · subst hi
    rw [Nat.testBit_two_pow_add_eq, decide_eq_true rfl, Bool.xor_true]
  · have e : 2 ^ 64 ≤ 2 ^ i := Nat.pow_le_pow_right (by omega) (by omega)
    rw [Nat.testBit_lt_two_pow (x := x) (by omega), Nat.testBit_lt_two_pow (x := 2 ^ 63 + x) (by omega), decide_eq_false (by omega)]
    rfl
theorem xor_top2 {x : Nat} (h : 2 ^ 63 ≤ x) (h2 : x < 2 ^ 64) : x ^^^ 2 ^ 63 = x - 2 ^ 63 := by
  obtain ⟨y, rfl⟩ := Nat.exists_eq_add_of_le h
  rw [← xor_top (x := y) (by omega), Nat.xor_assoc, Nat.xor_self, Nat.xor_zero, xor_top (x := y) (by omega)]
  omega

/-- the number with its highest bit turned -/
def turned (a : Int) : Int := bits BinOp.xor IntKind.u64 (IntKind.u64.wrap a) 9223372036854775808
theorem turned_eq {a : Int} (h1 : -9223372036854775808 ≤ a) (h2 : a < 9223372036854775808) : turned a = a + 9223372036854775808 := by
  unfold turned
  rw [IntKind.wrap_u64]
  simp only [bits]
  show IntKind.u64.wrap (((BitVec.ofInt 64 (a % 18446744073709551616) ^^^ BitVec.ofInt 64 9223372036854775808).toNat : Nat) : Int) = _
  rw [BitVec.toNat_xor, BitVec.toNat_ofInt, BitVec.toNat_ofInt, IntKind.wrap_u64]
  have e2 : ((9223372036854775808 : Int) % ((2 : Nat) ^ 64 : Nat)).toNat = 2 ^ 63 := by decide
  rw [e2]
  generalize hx : (a % 18446744073709551616 % ((2 : Nat) ^ 64 : Nat)).toNat = x
  have hx2 : (x : Int) = a % 18446744073709551616 := by rw [← hx]; omega
  rcases Int.lt_or_le a 0 with h | h
  · rw [xor_top2 (by omega) (by omega)]; omega
  · rw [xor_top (by omega)]; omega

/-- what Compare goes by -/
def highOf (m u : Int) : Int := (turned m + turned u + 0) / 18446744073709551616
def lowOf (m u : Int) : Int := (turned m + turned u + 0) % 18446744073709551616
theorem turned_range (a : Int) : 0 ≤ turned a := by
  unfold turned bits
  simp only [IntKind.wrap_u64]
  omega

theorem sum13 (a b : Int) (w : World) : Calls Tryd.prog 13 #[.int .i64 a, .int .i64 b] w fun e w' => e = .returned (.tuple #[.int .u64 (highOf a b), .int .u64 (lowOf a b)]) ∧ w' = w := by
  have hadd : ∀ w, (callFunc 27 #[.int .u64 (bits BinOp.xor IntKind.u64 (IntKind.u64.wrap a) 9223372036854775808), .int .u64 (bits BinOp.xor IntKind.u64 (IntKind.u64.wrap b) 9223372036854775808), .int .u64 0]).run Tryd.prog w =
      .ok (.value (.tuple #[.int .u64 (lowOf a b), .int .u64 (highOf a b)])) w := by
    intro w
    rw [run_callFunc_extern Tryd.func27 (by kernel_rfl) (by kernel_rfl) (by kernel_rfl) (e := add64Entry) (by kernel_rfl)]
    exact (congrArg (fun r => r.andThen fun v w' => Result.ok (Next.value v) w') (run_add64 (turned a) (turned b) 0 (turned_range a) (turned_range b) (by omega) (by omega) w)).trans rfl
  go_enter Tryd.func13, Tryd.ntmps13
  go_wp2
  go_ret2
  simp

end Go.Proofs.YtcgkdmimgagmoaaDoor
