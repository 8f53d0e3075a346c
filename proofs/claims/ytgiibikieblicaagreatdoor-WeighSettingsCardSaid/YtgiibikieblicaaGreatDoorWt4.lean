/-
  The law's own examples hold: WeighSettings returns true in every world that holds the listed variables.
-/
import Derived.Test.YtgiibikieblicaaGreatDoorWtR0
namespace Go.Proofs.YtgiibikieblicaaGreatDoor
open Go.Cm
set_option maxRecDepth 100000
theorem tA3 {W : World} (hK : KA W) : TF W Tryz.f5 cdA5 ({ n := 37, t := PT.ofList 0 (PT.nil 8) vsA0, defers := [] }) start0 (vt) stA1.st := triFin_code (hihA hK) runA2
theorem tA4 {W : World} (hK : KA W) : TC W 5 vsA0 start0 (vt) stA1.st := callT_fin Tryz.func5 bdA5 (by kernel_rfl) (n := 37) (by kernel_rfl) (by kernel_rfl) (tA3 hK)
noncomputable def of0 : List Value := (dc Tryz.prog 9 166 Rows.laid_tactus_interval_kinds).getD []
noncomputable def of1 : List Value := (dc Tryz.prog 9 187 Rows.laid_tactus_pitch_halves).getD []
theorem listed_is : listed = [(0, of0), (1, of1)] := by kernel_rfl
theorem listed_eq : ∀ g l, (g, l) ∈ listed → (g = 0 ∧ l = of0) ∨ (g = 1 ∧ l = of1) := by
 rw [listed_is]
 intro g l h
 simpa only [List.mem_cons, Prod.mk.injEq, List.not_mem_nil, or_false] using h
def Laids (laid : List (String × DataW Unit)) : Prop := ("tactus/interval.kinds", Rows.laid_tactus_interval_kinds) ∈ laid ∧ ("tactus/pitch.halves", Rows.laid_tactus_pitch_halves) ∈ laid
def Met (W : World) : Prop := ∀ g l, (g, l) ∈ listed → ∃ (arr : Array Value) (e : TypeId) (fz : Nat × Nat), W.heap[g]? = some (.cells arr e fz) ∧ arr.toList = l
theorem listed_met {laid : List (String × DataW Unit)} (hm : Laids laid) {W : World} (h : laidMet Tryz.prog laid W) : Met W := by
 obtain ⟨ps, hv, _⟩ := h
 obtain ⟨m0, m1⟩ := hm
 intro g l hgl
 rcases listed_eq g l hgl with ⟨rfl, rfl⟩ | ⟨rfl, rfl⟩
 ·exact laid_cells laid ps hv _ _ m0 0 166 9 _ (by kernel_rfl) (by kernel_rfl) (by kernel_rfl)
 ·exact laid_cells laid ps hv _ _ m1 1 187 9 _ (by kernel_rfl) (by kernel_rfl) (by kernel_rfl)
theorem listed_flat : ∀ g l, (g, l) ∈ listed → ∀ v ∈ l, flatV flatN v = true := by
 have : listed.all (fun x => x.2.all (flatV flatN)) = true := by kernel_rfl
 intro g l hgl v hv
 exact List.all_eq_true.1 (List.all_eq_true.1 this (g, l) hgl) v hv
theorem size_le {W : World} (h : Met W) : Tryz.prog.globals.size ≤ W.heap.size := by
 have h5 : (1, of1) ∈ listed := by
  rw [listed_is]; simp
 obtain ⟨arr, e, fz, h1, _⟩ := h 1 _ h5
 have h2 := (Array.getElem?_eq_some_iff.1 h1).1
 have h3 : Tryz.prog.globals.size = 2 := by kernel_rfl
 omega
theorem met_later {W W1 : World} (hk : Kept W W1) (h : Met W) : Met W1 := by
 intro g l hgl
 obtain ⟨arr, e, fz, h1, h2⟩ := h g l hgl
 exact ⟨arr, e, fz, by rw [hk.old g (Array.getElem?_eq_some_iff.1 h1).1]; exact h1, h2⟩
theorem known_A {W : World} (_ : Met W) : KnownSound Tryz.prog (kk noCall) W := ⟨ext_sound _, fun _ _ _ _ h => by cases h⟩
theorem true_A {W : World} (h : Met W) : Calls Tryz.prog 5 #[] W fun e w => e = .returned (.bool true) ∧ Kept W w :=
 call_true Tryz.func5 bdA5 (by kernel_rfl) (tA4 (known_A h)) (size_le h) h listed_flat
end Go.Proofs.YtgiibikieblicaaGreatDoor
