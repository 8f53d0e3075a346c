/-
  WeighOrder: the walk, given awake's and Compare's contracts.
-/
import Derived.Test.YtcgkdmimgagmoaaDoorTLaw
namespace Go.Proofs.YtcgkdmimgagmoaaDoor
open Go.ChangeShapes Go.WideShapes Go.ChangeAt Go.RowKit Go.Cm

theorem cell_kept {w w' : World} (hk : Kept w w') {b i : Nat} {v : Value} (h : w.cell? ⟨b, i, none⟩ = some v) : w'.cell? ⟨b, i, none⟩ = some v := by
  have hb : b < w.heap.size := by
    rcases Nat.lt_or_ge b w.heap.size with h1 | h1
    · exact h1
    · unfold World.cell? at h
      simp only [Array.getElem?_eq_none h1] at h
      cases h
  unfold World.cell? at h ⊢
  simp only [hk.old b hb]
  exact h
theorem cell_drew {w : World} {b i : Nat} {v : Value} (h : w.cell? ⟨b, i, none⟩ = some v) : w.drew.cell? ⟨b, i, none⟩ = some v := h

theorem keep9 {w w' : World} (hk : Kept w w') {r0 r1 r2 : Nat} {m u t m' u' t' m2 u2 t2 : Int} (h : w.cell? ⟨r0, 0, none⟩ = some (.int .i64 m) ∧ w.cell? ⟨r0, 1, none⟩ = some (.int .i64 u) ∧ w.cell? ⟨r0, 2, none⟩ = some (.int .i64 t) ∧ w.cell? ⟨r1, 0, none⟩ = some (.int .i64 m') ∧ w.cell? ⟨r1, 1, none⟩ = some (.int .i64 u') ∧ w.cell? ⟨r1, 2, none⟩ = some (.int .i64 t') ∧ w.cell? ⟨r2, 0, none⟩ = some (.int .i64 m2) ∧ w.cell? ⟨r2, 1, none⟩ = some (.int .i64 u2) ∧ w.cell? ⟨r2, 2, none⟩ = some (.int .i64 t2)) :
    w'.cell? ⟨r0, 0, none⟩ = some (.int .i64 m) ∧ w'.cell? ⟨r0, 1, none⟩ = some (.int .i64 u) ∧ w'.cell? ⟨r0, 2, none⟩ = some (.int .i64 t) ∧ w'.cell? ⟨r1, 0, none⟩ = some (.int .i64 m') ∧ w'.cell? ⟨r1, 1, none⟩ = some (.int .i64 u') ∧ w'.cell? ⟨r1, 2, none⟩ = some (.int .i64 t') ∧ w'.cell? ⟨r2, 0, none⟩ = some (.int .i64 m2) ∧ w'.cell? ⟨r2, 1, none⟩ = some (.int .i64 u2) ∧ w'.cell? ⟨r2, 2, none⟩ = some (.int .i64 t2) := by
  obtain ⟨h0, h1, h2, h3, h4, h5, h6, h7, h8⟩ := h
  exact ⟨cell_kept hk h0, cell_kept hk h1, cell_kept hk h2, cell_kept hk h3, cell_kept hk h4, cell_kept hk h5, cell_kept hk h6, cell_kept hk h7, cell_kept hk h8⟩

set_option maxHeartbeats 4000000 in
theorem order3 (m u t m' u' t' m2 u2 t2 : Int) (w : World) (F : Facts m u t m' u' t' m2 u2 t2) (hA : ∀ w', Kept w w' → Calls Tryd.prog 6 #[] w' fun e w2 => e = .returned (.bool true) ∧ Kept w' w2) :
    Calls Tryd.prog 3 #[.agg #[.int .i64 m, .int .i64 u, .int .i64 t], .agg #[.int .i64 m', .int .i64 u', .int .i64 t'], .agg #[.int .i64 m2, .int .i64 u2, .int .i64 t2]] w
      fun e w' => e = .returned (.bool true) ∧ Kept w w' := by
  go_enter Tryd.func3, Tryd.ntmps3
  go_wp2_with fail
  generalize hw2 : ((w.alloc (.cells #[.int .i64 m, .int .i64 u, .int .i64 t] 23)).alloc (.cells #[.int .i64 m', .int .i64 u', .int .i64 t'] 23)).alloc (.cells #[.int .i64 m2, .int .i64 u2, .int .i64 t2] 23) = wq
  have hk : Kept w wq := by rw [← hw2]; exact (((Kept.refl w).alloc _).alloc _).alloc _
  have a0 : wq.cell? ⟨w.heap.size, 0, none⟩ = some (.int .i64 m) := by rw [← hw2]; exact cell_old (cell_old (by rw [cell_new]; rfl))
  have a1 : wq.cell? ⟨w.heap.size, 1, none⟩ = some (.int .i64 u) := by rw [← hw2]; exact cell_old (cell_old (by rw [cell_new]; rfl))
  have a2 : wq.cell? ⟨w.heap.size, 2, none⟩ = some (.int .i64 t) := by rw [← hw2]; exact cell_old (cell_old (by rw [cell_new]; rfl))
  have b0 : wq.cell? ⟨w.heap.size + 1, 0, none⟩ = some (.int .i64 m') := by
    rw [← hw2]; refine cell_old ?_; rw [← World.size_alloc w (.cells #[.int .i64 m, .int .i64 u, .int .i64 t] 23), cell_new]; rfl
  have b1 : wq.cell? ⟨w.heap.size + 1, 1, none⟩ = some (.int .i64 u') := by
    rw [← hw2]; refine cell_old ?_; rw [← World.size_alloc w (.cells #[.int .i64 m, .int .i64 u, .int .i64 t] 23), cell_new]; rfl
  have b2 : wq.cell? ⟨w.heap.size + 1, 2, none⟩ = some (.int .i64 t') := by
    rw [← hw2]; refine cell_old ?_; rw [← World.size_alloc w (.cells #[.int .i64 m, .int .i64 u, .int .i64 t] 23), cell_new]; rfl
  have hsz : w.heap.size + 1 + 1 = ((w.alloc (.cells #[.int .i64 m, .int .i64 u, .int .i64 t] 23)).alloc (.cells #[.int .i64 m', .int .i64 u', .int .i64 t'] 23)).heap.size := by rw [World.size_alloc, World.size_alloc]
  have c0 : wq.cell? ⟨w.heap.size + 1 + 1, 0, none⟩ = some (.int .i64 m2) := by rw [← hw2, hsz, cell_new]; rfl
  have c1 : wq.cell? ⟨w.heap.size + 1 + 1, 1, none⟩ = some (.int .i64 u2) := by rw [← hw2, hsz, cell_new]; rfl
  have c2 : wq.cell? ⟨w.heap.size + 1 + 1, 2, none⟩ = some (.int .i64 t2) := by rw [← hw2, hsz, cell_new]; rfl
  clear hw2 hsz
  generalize w.heap.size + 1 + 1 = r2 at *
  generalize w.heap.size + 1 = r1 at *
  generalize w.heap.size = r0 at *
  go_region_held3 (fun w' => w'.cell? ⟨r0, 0, none⟩ = some (.int .i64 m) ∧ w'.cell? ⟨r0, 1, none⟩ = some (.int .i64 u) ∧ w'.cell? ⟨r0, 2, none⟩ = some (.int .i64 t) ∧
      w'.cell? ⟨r1, 0, none⟩ = some (.int .i64 m') ∧ w'.cell? ⟨r1, 1, none⟩ = some (.int .i64 u') ∧ w'.cell? ⟨r1, 2, none⟩ = some (.int .i64 t') ∧
      w'.cell? ⟨r2, 0, none⟩ = some (.int .i64 m2) ∧ w'.cell? ⟨r2, 1, none⟩ = some (.int .i64 u2) ∧ w'.cell? ⟨r2, 2, none⟩ = some (.int .i64 t2))
    (first | go_keep | exact keep9 (by assumption) (by assumption))
    (first | (go_at_call 5; refine (compare5 _ _ _ _ _ _ _).mono ?_; rintro e w' ⟨rfl, hkk⟩) | fail)
  rename_i w3 hk1 w4 hk2 hS
  obtain ⟨e0, e1, e2, f0, f1, f2, g0, g1, g2⟩ := hS
  have hkq : Kept w w' := ((hk.drew.trans hk1).trans hk2).trans hkk
  clear a0 a1 a2 b0 b1 b2 c0 c1 c2 hk1 hk2 hkk hk
  have hx1 : ¬ compareOf m u t m' u' t' < -1 := by have := F.lo; omega
  have hx2 : ¬ compareOf m u t m' u' t' > 1 := by have := F.hi; omega
  go_wp2_with (first | (go_at_call 5; refine (compare5 _ _ _ _ _ _ _).mono ?_; rintro e w' ⟨rfl, hkk⟩) | (go_at_call 6; refine (hA _ (by first | assumption | exact hkq.trans (by assumption))).mono ?_; rintro e w' ⟨rfl, hkk⟩))
  all_goals go_ret
  all_goals first
    | exact ⟨rfl, hkq⟩
    | exact ⟨rfl, hkq.trans (by assumption)⟩
    | exact ⟨rfl, (hkq.trans (by assumption)).trans (by assumption)⟩
    | (exfalso; obtain ⟨l1, l2, l3, l4, l5⟩ := F; clear hA; subst_vars; omega)
    | (exfalso; obtain ⟨l1, l2, l3, l4, l5⟩ := F; clear hA; subst_vars; simp only [wrap64, bne_iff_ne, ne_eq, bne_eq_false_iff_eq, beq_iff_eq, beq_eq_false_iff_ne, Bool.not_eq_true, not_and, Bool.or_eq_true, decide_eq_true_eq] at *; omega)
    | (refine ⟨?_, (hkq.trans (by assumption)).trans (by assumption)⟩; refine congrArg (fun b => Ending.returned (Value.bool b)) (?_ : _ = true); show (decide _ || decide _ || decide _) = true; simp only [Bool.or_eq_true, decide_eq_true_eq]; omega)
end Go.Proofs.YtcgkdmimgagmoaaDoor
