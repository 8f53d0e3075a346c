/-
  The law's own examples hold: BracketValid returns true in every world that holds the listed variables.
-/
import Derived.Test.YtnhalpkekpehpaaGreatDoorBp0
namespace Go.Proofs.YtnhalpkekpehpaaGreatDoor
open Go.Cm
set_option maxRecDepth 100000
noncomputable def aR : List Value := (dc Tryz.prog 9 148 Rows.laid_tactus_sign_uses).getD []
noncomputable def aU : List Value := (dc Tryz.prog 9 155 Rows.laid_tactus_sign_classes).getD []
noncomputable def Vz : List Value := (dc Tryz.prog 9 88 Rows.laid_tactus_item_half).getD []
theorem lA : listed = [(0, aR), (1, aU), (2, Vz)] := by kernel_rfl
theorem k8 : ∀ g l, (g, l) ∈ listed → (g = 0 ∧ l = aR) ∨ (g = 1 ∧ l = aU) ∨ (g = 2 ∧ l = Vz) := by
 rw [lA]
 intro g l h
 simpa only [List.mem_cons, Prod.mk.injEq, List.not_mem_nil, or_false] using h
def dx (laid : List (String × DataW Unit)) : Prop := ("tactus/sign.uses", Rows.laid_tactus_sign_uses) ∈ laid ∧ ("tactus/sign.classes", Rows.laid_tactus_sign_classes) ∈ laid ∧ ("tactus/item.half", Rows.laid_tactus_item_half) ∈ laid
def N7 (W : World) : Prop := ∀ g l, (g, l) ∈ listed → ∃ (arr : Array Value) (e : TypeId) (fz : Nat × Nat), W.heap[g]? = some (.cells arr e fz) ∧ arr.toList = l
theorem zZ {laid : List (String × DataW Unit)} (hm : dx laid) {W : World} (h : laidMet Tryz.prog laid W) : N7 W := by
 obtain ⟨ps, hv, _⟩ := h
 obtain ⟨m0, m1, m2⟩ := hm
 intro g l SS
 rcases k8 g l SS with ⟨rfl, rfl⟩ | ⟨rfl, rfl⟩ | ⟨rfl, rfl⟩
 ·exact Vq laid ps hv _ _ m0 0 148 9 _ (by kernel_rfl) (by kernel_rfl) (by kernel_rfl)
 ·exact Vq laid ps hv _ _ m1 1 155 9 _ (by kernel_rfl) (by kernel_rfl) (by kernel_rfl)
 exact Vq laid ps hv _ _ m2 2 88 9 _ (by kernel_rfl) (by kernel_rfl) (by kernel_rfl)
theorem k9 : ∀ g l, (g, l) ∈ listed → ∀ v ∈ l, DM Lu v = true := by
 have : listed.all (fun x => x.2.all (DM Lu)) = true := by kernel_rfl
 intro g l SS v hv
 exact List.all_eq_true.1 (List.all_eq_true.1 this (g, l) SS) v hv
theorem size_le {W : World} (h : N7 W) : Tryz.prog.globals.size ≤ W.heap.size := by
 have h5 : (2, Vz) ∈ listed := by
  rw [lA]; simp
 obtain ⟨arr, e, fz, h1, _⟩ := h 2 _ h5
 have h2 := (Array.getElem?_eq_some_iff.1 h1).1
 have h3 : Tryz.prog.globals.size = 3 := by kernel_rfl
 omega
theorem Z9 {W W1 : World} (hk : Kept W W1) (h : N7 W) : N7 W1 := by
 intro g l SS
 obtain ⟨arr, e, fz, h1, h2⟩ := h g l SS
 exact ⟨arr, e, fz, by rw [hk.old g (Array.getElem?_eq_some_iff.1 h1).1]; exact h1, h2⟩
theorem zG {W : World} (_ : N7 W) : N6 Tryz.prog (kk He) W := ⟨gh _, fun _ _ _ _ h => by cases h⟩
end Go.Proofs.YtnhalpkekpehpaaGreatDoor
