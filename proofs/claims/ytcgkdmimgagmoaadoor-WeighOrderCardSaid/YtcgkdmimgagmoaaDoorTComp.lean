/-
  Compare: what it returns.
-/
import Derived.Test.YtcgkdmimgagmoaaDoorTLeaf
import Derived.Test.YtcgkdmimgagmoaaDoorCmWorld
import Derived.Deep.RegionHeld3
namespace Go.Proofs.YtcgkdmimgagmoaaDoor
open Go.ChangeShapes Go.WideShapes Go.ChangeAt Go.RowKit Go.Cm

theorem _root_.Go.Cm.Kept.alloc {W w : World} (h : Kept W w) (o : Obj) : Kept W (w.alloc o) :=
  ⟨by rw [World.size_alloc]; have := h.size; omega, fun i hi => (Cm.heap_alloc_old (Nat.lt_of_lt_of_le hi h.size)).trans (h.old i hi), h.os, h.out⟩
theorem _root_.Go.Cm.Kept.drew {W w : World} (h : Kept W w) : Kept W w.drew := ⟨h.size, h.old, h.os, h.out⟩

theorem cell_new (w : World) (arr : Array Value) (e : TypeId) (i : Nat) : (w.alloc (.cells arr e)).cell? ⟨w.heap.size, i, none⟩ = arr[i]? := by
  unfold World.cell?
  simp only [Cm.heap_alloc_new]
  rfl
theorem cell_old {w : World} {o : Obj} {b i : Nat} {v : Value} (h : w.cell? ⟨b, i, none⟩ = some v) : (w.alloc o).cell? ⟨b, i, none⟩ = some v := by
  have hb : b < w.heap.size := by
    rcases Nat.lt_or_ge b w.heap.size with h1 | h1
    · exact h1
    · unfold World.cell? at h
      simp only [Array.getElem?_eq_none h1] at h
      cases h
  unfold World.cell? at h ⊢
  simp only [Cm.heap_alloc_old hb]
  exact h

def wv (m u t : Int) : Value := .agg #[.int .i64 m, .int .i64 u, .int .i64 t]
def compareOf (m u t m' u' t' : Int) : Int := firstOf (cmpI (highOf m u) (highOf m' u')) (cmpI (lowOf m u) (lowOf m' u')) (cmpI m m') (cmpI t t')

theorem compare5 (m u t m' u' t' : Int) (w : World) : Calls Tryd.prog 5 #[.agg #[.int .i64 m, .int .i64 u, .int .i64 t], .agg #[.int .i64 m', .int .i64 u', .int .i64 t']] w fun e w' => e = .returned (.int .i64 (compareOf m u t m' u' t')) ∧ Kept w w' := by
  go_enter Tryd.func5, Tryd.ntmps5
  go_wp2_with (go_at_call 13; refine (sum13 _ _ _).mono ?_; rintro e w' ⟨rfl, rfl⟩)
  generalize hw2 : (w.alloc (.cells #[.int .i64 m, .int .i64 u, .int .i64 t] 23)).alloc (.cells #[.int .i64 m', .int .i64 u', .int .i64 t'] 23) = w2
  have hk : Kept w w2 := by rw [← hw2]; exact ((Kept.refl w).alloc _).alloc _
  have c0 : w2.cell? ⟨w.heap.size, 0, none⟩ = some (.int .i64 m) := by rw [← hw2]; exact cell_old (by rw [cell_new]; rfl)
  have c2 : w2.cell? ⟨w.heap.size, 2, none⟩ = some (.int .i64 t) := by rw [← hw2]; exact cell_old (by rw [cell_new]; rfl)
  have d0 : w2.cell? ⟨w.heap.size + 1, 0, none⟩ = some (.int .i64 m') := by
    rw [← hw2, ← World.size_alloc w (.cells #[.int .i64 m, .int .i64 u, .int .i64 t] 23), cell_new]; rfl
  have d2 : w2.cell? ⟨w.heap.size + 1, 2, none⟩ = some (.int .i64 t') := by
    rw [← hw2, ← World.size_alloc w (.cells #[.int .i64 m, .int .i64 u, .int .i64 t] 23), cell_new]; rfl
  go_region_held3 (fun w' => w'.cell? ⟨w.heap.size, 0, none⟩ = some (.int .i64 m) ∧ w'.cell? ⟨w.heap.size, 2, none⟩ = some (.int .i64 t) ∧ w'.cell? ⟨w.heap.size + 1, 0, none⟩ = some (.int .i64 m') ∧ w'.cell? ⟨w.heap.size + 1, 2, none⟩ = some (.int .i64 t')) (go_keep)
    (first | (go_at_call 15; refine (cmp15 _ _ _).mono ?_; rintro e w' ⟨rfl, rfl⟩) | (go_at_call 16; refine (cmp16 _ _ _).mono ?_; rintro e w' ⟨rfl, rfl⟩) | (go_at_call 14; refine (or14 _ _ _ _ _ _ _ _ (cell_new _ _ _ 0) (cell_new _ _ _ 1) (cell_new _ _ _ 2) (cell_new _ _ _ 3)).mono ?_; rintro e w' ⟨rfl, rfl⟩))
  all_goals go_wp2
  all_goals go_ret
  all_goals exact ⟨rfl, by repeat (first | exact hk | apply Go.Cm.Kept.drew | apply Go.Cm.Kept.alloc)⟩
end Go.Proofs.YtcgkdmimgagmoaaDoor
