/-
  The chapter's examples hold: what is known of functions; the start.
-/
import Derived.Test.YtgiibikieblicaaGreatDoorRows
import Derived.KernelRfl
import Derived.Laws.Externs
import Derived.Test.YtgiibikieblicaaGreatDoorCm5
namespace Go.Proofs.YtgiibikieblicaaGreatDoor
open Go.Cm
def vt : Value := .bool true
def listed : List (Nat × List Value) := [(0, [.int .i64 1, .int .i64 0, .int .i64 0, .int .i64 0, .int .i64 0, .int .i64 0, .int .i64 0, .int .i64 0, .int .i64 0, .int .i64 0, .int .i64 0, .int .i64 0, .int .i64 0, .int .i64 0, .int .i64 0, .int .i64 0, .int .i64 0, .int .i64 0, .int .i64 0, .int .i64 0, .int .i64 0, .int .i64 0, .int .i64 0, .int .i64 0, .int .i64 0, .int .i64 0, .int .i64 0, .int .i64 0, .int .i64 0, .int .i64 2, .int .i64 2, .int .i64 0, .int .i64 0, .int .i64 0, .int .i64 0, .int .i64 0, .int .i64 0, .int .i64 0, .int .i64 0, .int .i64 0, .int .i64 0, .int .i64 0, .int .i64 0, .int .i64 0, .int .i64 3, .int .i64 4, .int .i64 0, .int .i64 0, .int .i64 0, .int .i64 0, .int .i64 0, .int .i64 0, .int .i64 0, .int .i64 0, .int .i64 0, .int .i64 0, .int .i64 0, .int .i64 0, .int .i64 4, .int .i64 1, .int .i64 0, .int .i64 0, .int .i64 0, .int .i64 0, .int .i64 0, .int .i64 0, .int .i64 0, .int .i64 0, .int .i64 0, .int .i64 0, .int .i64 0, .int .i64 0, .int .i64 0, .int .i64 2, .int .i64 2, .int .i64 0, .int .i64 0, .int .i64 0, .int .i64 0, .int .i64 0, .int .i64 0, .int .i64 0, .int .i64 0, .int .i64 0, .int .i64 0, .int .i64 0, .int .i64 0, .int .i64 0, .int .i64 0, .int .i64 0, .int .i64 0]), (1, [.int .i64 0, .int .i64 2, .int .i64 4, .int .i64 5, .int .i64 7, .int .i64 9, .int .i64 11])]
def gb0 : Blk := .cells [.int .i64 1, .int .i64 0, .int .i64 0, .int .i64 0, .int .i64 0, .int .i64 0, .int .i64 0, .int .i64 0, .int .i64 0, .int .i64 0, .int .i64 0, .int .i64 0, .int .i64 0, .int .i64 0, .int .i64 0, .int .i64 0, .int .i64 0, .int .i64 0, .int .i64 0, .int .i64 0, .int .i64 0, .int .i64 0, .int .i64 0, .int .i64 0, .int .i64 0, .int .i64 0, .int .i64 0, .int .i64 0, .int .i64 0, .int .i64 2, .int .i64 2, .int .i64 0, .int .i64 0, .int .i64 0, .int .i64 0, .int .i64 0, .int .i64 0, .int .i64 0, .int .i64 0, .int .i64 0, .int .i64 0, .int .i64 0, .int .i64 0, .int .i64 0, .int .i64 3, .int .i64 4, .int .i64 0, .int .i64 0, .int .i64 0, .int .i64 0, .int .i64 0, .int .i64 0, .int .i64 0, .int .i64 0, .int .i64 0, .int .i64 0, .int .i64 0, .int .i64 0, .int .i64 4, .int .i64 1, .int .i64 0, .int .i64 0, .int .i64 0, .int .i64 0, .int .i64 0, .int .i64 0, .int .i64 0, .int .i64 0, .int .i64 0, .int .i64 0, .int .i64 0, .int .i64 0, .int .i64 0, .int .i64 2, .int .i64 2, .int .i64 0, .int .i64 0, .int .i64 0, .int .i64 0, .int .i64 0, .int .i64 0, .int .i64 0, .int .i64 0, .int .i64 0, .int .i64 0, .int .i64 0, .int .i64 0, .int .i64 0, .int .i64 0, .int .i64 0, .int .i64 0] 0 false false []
def gb1 : Blk := .cells [.int .i64 0, .int .i64 2, .int .i64 4, .int .i64 5, .int .i64 7, .int .i64 9, .int .i64 11] 0 false false []
noncomputable def start0 : St := startS listed Tryz.prog.globals.size
def kk (call : FuncId → List Value → St → Option Value) : Known := ⟨fun f a S => match a with
 | [.int .u64 x, .int .u64 y, .int .u64 c] => bif (Nat.beq f 28 && (decide (0 ≤ x) && (decide (0 ≤ y) && (decide (0 ≤ c) && decide (c ≤ 1))))) then some ((.tuple #[.int .u64 ((x + y + c) % 18446744073709551616), .int .u64 ((x + y + c) / 18446744073709551616)]), S) else none
 | _ => none, call, fun f => Nat.beq f 0 && false⟩
def noCall : FuncId → List Value → St → Option Value := fun _ _ _ => none
theorem ext_sound (call : FuncId → List Value → St → Option Value) : ExtSound Tryz.prog (kk call) := by
 intro w0 f args v fn S S' hk hf hb ρ w args' hs hv
 simp only [kk] at hk
 split at hk
 ·rename_i x y c
  cases hc : (Nat.beq f 28 && (decide (0 ≤ x) && (decide (0 ≤ y) && (decide (0 ≤ c) && decide (c ≤ 1))))) with
  | false => rw [hc] at hk; cases hk
  | true =>
   rw [hc] at hk
   simp only [cond_true, Option.some.injEq, Prod.mk.injEq] at hk
   obtain ⟨rfl, rfl⟩ := hk
   simp only [Bool.and_eq_true, decide_eq_true_eq] at hc
   obtain ⟨h1, h2, h3, h4, h5⟩ := hc
   have hf28 := of_nbeq h1
   subst hf28
   obtain rfl := Option.some.inj (Tryz.func28.symm.trans hf)
   obtain ⟨x', l1, e1, hx, hv⟩ := hv.cons_inv
   obtain ⟨y', l2, rfl, hy, hv⟩ := hv.cons_inv
   obtain ⟨c', l3, rfl, hz, hv⟩ := hv.cons_inv
   have := hv.nil_inv
   subst this
   cases hx; cases hy; cases hz
   have e2 : args' = #[.int .u64 x, .int .u64 y, .int .u64 c] := by apply Array.ext'; simpa using e1
   subst e2
   refine ⟨ρ, _, w, ?_, Ext.refl _, (Flat.refl (v := (.tuple #[.int .u64 ((x + y + c) % 18446744073709551616), .int .u64 ((x + y + c) / 18446744073709551616)])) (flatV_spec 9 _ rfl) ρ), hs⟩
   rw [run_callFunc_extern Tryz.func28 (by kernel_rfl) (by kernel_rfl) (by kernel_rfl) (e := add64Entry) (by kernel_rfl), run_add64 x y c h2 h3 h4 h5]
   rfl
 ·cases hk
theorem follows : Tryz.prog.follows .mixedOrders = true := by kernel_rfl
end Go.Proofs.YtgiibikieblicaaGreatDoor
