/-
  The law's own examples hold: awake returns true, in every world that holds the listed variables.
-/
import Derived.Test.YtcgkdmimgagmoaaDoorRows
import Derived.KernelRfl
import Derived.Conc.DeferLaws
import Derived.Laws.Externs
import Derived.Test.YtcgkdmimgagmoaaDoorCmWorld
namespace Go.Proofs.YtcgkdmimgagmoaaDoor
open Go.Cm

def ints (l : List Int) : List Value := l.map fun z => Value.int .i64 z
def listed : List (Nat × List Value) := [(1, ints [0, 2, 4, 5, 7, 9, 11]),
  (0, ints [1,0,0,0,0,0,0,0,0,0,0,0,0, 0,0,0,0,0,0,0,0,0,0,0,0,0, 0,0,0,2,2,0,0,0,0,0,0,0,0, 0,0,0,0,0,3,4,0,0,0,0,0,0, 0,0,0,0,0,0,4,1,0,0,0,0,0, 0,0,0,0,0,0,0,0,2,2,0,0,0, 0,0,0,0,0,0,0,0,0,0,0,0,0])]
theorem laid1 : dc Tryd.prog 9 174 Rows.laid_tactus_pitch_halves = some (ints [0, 2, 4, 5, 7, 9, 11]) := by kernel_rfl
theorem laid0 : dc Tryd.prog 9 164 Rows.laid_tactus_interval_kinds = some (ints [1,0,0,0,0,0,0,0,0,0,0,0,0, 0,0,0,0,0,0,0,0,0,0,0,0,0, 0,0,0,2,2,0,0,0,0,0,0,0,0, 0,0,0,0,0,3,4,0,0,0,0,0,0, 0,0,0,0,0,0,4,1,0,0,0,0,0, 0,0,0,0,0,0,0,0,2,2,0,0,0, 0,0,0,0,0,0,0,0,0,0,0,0,0]) := by kernel_rfl

/-- math/bits.Add64 has no body in the program: the model's own entry -/
def addK : Known := ⟨fun f a => match a with
  | [.int .u64 x, .int .u64 y, .int .u64 c] => bif Nat.beq f 27 && (decide (0 ≤ x) && (decide (0 ≤ y) && (decide (0 ≤ c) && decide (c ≤ 1)))) then some (.tuple #[.int .u64 ((x + y + c) % 18446744073709551616), .int .u64 ((x + y + c) / 18446744073709551616)]) else none
  | _ => none⟩
theorem add_sound : KnownSound Tryd.prog addK := by
  intro f args v fn hk hf hb ρ w args' hv
  simp only [addK] at hk
  split at hk
  · rename_i x y c
    obtain ⟨x', l1, e1, hx, hv⟩ := hv.cons_inv
    obtain ⟨y', l2, rfl, hy, hv⟩ := hv.cons_inv
    obtain ⟨c', l3, rfl, hc, hv⟩ := hv.cons_inv
    have := hv.nil_inv
    subst this
    cases hx; cases hy; cases hc
    have e2 : args' = #[.int .u64 x, .int .u64 y, .int .u64 c] := by apply Array.ext'; simpa using e1
    subst e2
    cases hb : (Nat.beq f 27 && (decide (0 ≤ x) && (decide (0 ≤ y) && (decide (0 ≤ c) && decide (c ≤ 1))))) with
    | false => rw [hb] at hk; cases hk
    | true =>
      rw [hb] at hk
      simp only [cond_true, Option.some.injEq] at hk
      subst hk
      simp only [Bool.and_eq_true, decide_eq_true_eq] at hb
      obtain ⟨h1, h2, h3, h4, h5⟩ := hb
      have hf27 := of_nbeq h1
      subst hf27
      obtain rfl := Option.some.inj (Tryd.func27.symm.trans hf)
      refine ⟨_, ?_, (Flat.refl (v := .tuple #[.int .u64 ((x + y + c) % 18446744073709551616), .int .u64 ((x + y + c) / 18446744073709551616)]) (flatV_spec 9 _ rfl) ρ)⟩
      rw [run_callFunc_extern Tryd.func27 (by kernel_rfl) (by kernel_rfl) (by kernel_rfl) (e := add64Entry) (by kernel_rfl), run_add64 x y c h2 h3 h4 h5]
      rfl
  · cases hk

theorem follows : Tryd.prog.follows .mixedOrders = true := by kernel_rfl
theorem body6 : ∃ c, Tryd.f6.body = some c := Option.isSome_iff_exists.1 (by kernel_rfl)
theorem name6 : (Tryd.f6.name == "runtime.NumGoroutine") = false := by kernel_rfl

theorem listed_met {laid : List (String × DataW Unit)} (hm1 : ("tactus/pitch.halves", Rows.laid_tactus_pitch_halves) ∈ laid) (hm0 : ("tactus/interval.kinds", Rows.laid_tactus_interval_kinds) ∈ laid) {W : World} (h : laidMet Tryd.prog laid W) :
    ∀ g l, (g, l) ∈ listed → ∃ (arr : Array Value) (e : TypeId) (fz : Nat × Nat), W.heap[g]? = some (.cells arr e fz) ∧ arr.toList = l := by
  obtain ⟨ps, hv, _⟩ := h
  intro g l hgl
  simp only [listed, List.mem_cons, Prod.mk.injEq, List.not_mem_nil, or_false] at hgl
  rcases hgl with ⟨rfl, rfl⟩ | ⟨rfl, rfl⟩
  · exact laid_cells laid ps hv _ _ hm1 1 174 9 _ (by kernel_rfl) (by kernel_rfl) laid1
  · exact laid_cells laid ps hv _ _ hm0 0 164 9 _ (by kernel_rfl) (by kernel_rfl) laid0

theorem listed_flat : ∀ g l, (g, l) ∈ listed → ∀ v ∈ l, flatV flatN v = true := by
  intro g l hgl v hv
  have : ∃ z, v = .int .i64 z := by
    simp only [listed, List.mem_cons, Prod.mk.injEq, List.not_mem_nil, or_false] at hgl
    rcases hgl with ⟨rfl, rfl⟩ | ⟨rfl, rfl⟩ <;>
      (unfold ints at hv; obtain ⟨z, _, rfl⟩ := List.mem_map.1 hv; exact ⟨z, rfl⟩)
  obtain ⟨z, rfl⟩ := this
  rfl

set_option maxRecDepth 100000 in
theorem awake_runs : isTrue ((fnsG Tryd.prog addK 100000).call (.fn (.func 6) #[]) [] (startS listed Tryd.prog.globals.size)) = true := by kernel_rfl

theorem awake_true {laid : List (String × DataW Unit)} (hm1 : ("tactus/pitch.halves", Rows.laid_tactus_pitch_halves) ∈ laid) (hm0 : ("tactus/interval.kinds", Rows.laid_tactus_interval_kinds) ∈ laid) {W W1 : World} (h : laidMet Tryd.prog laid W) (hk : Kept W W1) :
    Calls Tryd.prog 6 #[] W1 fun e w => e = .returned (.bool true) ∧ Kept W1 w := by
  have hl := listed_met hm1 hm0 h
  obtain ⟨c, hc⟩ := body6
  have hsz : Tryd.prog.globals.size ≤ W.heap.size := by
    obtain ⟨arr, e, fz, h1, _⟩ := hl 1 _ (by unfold listed; exact List.mem_cons_self ..)
    have h2 := (Array.getElem?_eq_some_iff.1 h1).1
    have h3 : Tryd.prog.globals.size = 2 := by kernel_rfl
    omega
  refine true_calls follows add_sound Tryd.func6 hc name6 awake_runs (Nat.le_trans hsz hk.size) (fun g l hgl => ?_) listed_flat
  obtain ⟨arr, e, fz, h1, h2⟩ := hl g l hgl
  exact ⟨arr, e, fz, by rw [hk.old g (Array.getElem?_eq_some_iff.1 h1).1]; exact h1, h2⟩

end Go.Proofs.YtcgkdmimgagmoaaDoor
