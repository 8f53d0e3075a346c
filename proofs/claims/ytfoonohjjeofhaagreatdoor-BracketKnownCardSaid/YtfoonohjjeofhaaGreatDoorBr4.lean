/-
  The law's own examples hold: BracketKnown returns true in every world that holds the listed variables.
-/
import Derived.Test.YtfoonohjjeofhaaGreatDoorBrRA1
import Derived.Test.YtfoonohjjeofhaaGreatDoorBrRA4
import Derived.Test.YtfoonohjjeofhaaGreatDoorBrRA6
import Derived.Test.YtfoonohjjeofhaaGreatDoorBrRA8
import Derived.Test.YtfoonohjjeofhaaGreatDoorBrRA11
import Derived.Test.YtfoonohjjeofhaaGreatDoorBrRA13
import Derived.Test.YtfoonohjjeofhaaGreatDoorBrRA14
import Derived.Test.YtfoonohjjeofhaaGreatDoorBrRB1
import Derived.Test.YtfoonohjjeofhaaGreatDoorBrRB5
import Derived.Test.YtfoonohjjeofhaaGreatDoorBrRB7
import Derived.Test.YtfoonohjjeofhaaGreatDoorBrRB9
import Derived.Test.YtfoonohjjeofhaaGreatDoorBrRB11
import Derived.Test.YtfoonohjjeofhaaGreatDoorBrRB12
namespace Go.Proofs.YtfoonohjjeofhaaGreatDoor
open Go.Cm

set_option maxRecDepth 100000
theorem triA2 {W : World} (hK : KnownSound Tryz.prog (kk noCall) W) : Tri Tryz.prog ⟨W, fun _ => false⟩ (hd (tlN 1 cA)) stA0.act stA0.st stA5 := by
  have hih := fnsG_sound follows hK 100000
  refine tri_rops (by kernel_rfl) ?_
  refine triOps_cut (i := 0) (j := 1) (L1 := stA3) hih (by kernel_rfl) runA4 (by kernel_rfl) ?_
  exact triOps_end (i := 1) (L1 := stA5) hih runA6 (by kernel_rfl)

theorem triA9 {W : World} (hK : KnownSound Tryz.prog (kk noCall) W) : Tri Tryz.prog ⟨W, fun _ => false⟩ (hd (tlN 1 (tl (tlN 1 cA)))) stA7.act stA7.st stA12 := by
  have hih := fnsG_sound follows hK 100000
  refine tri_rops (by kernel_rfl) ?_
  refine triOps_cut (i := 0) (j := 22) (L1 := stA10) hih (by kernel_rfl) runA11 (by kernel_rfl) ?_
  exact triOps_end (i := 22) (L1 := stA12) hih runA13 (by kernel_rfl)

theorem endA {W : World} (hK : KnownSound Tryz.prog (kk noCall) W) : TriEnd Tryz.prog ⟨W, fun _ => false⟩ Tryz.f10 cA { n := maxN Tryz.f10.ntmps 0, t := PT.nil 8, defers := [] } (startS listed Tryz.prog.globals.size) := by
  have hih := fnsG_sound follows hK 100000
  refine triEnd_hds (k := 1) (L1 := stA0) hih (by kernel_rfl) runA1 ?_
  refine triEnd_hdtl (L1 := stA5) (by kernel_rfl) (triA2 hK) ?_
  refine triEnd_hds (k := 1) (L1 := stA7) hih (by kernel_rfl) runA8 ?_
  refine triEnd_hdtl (L1 := stA12) (by kernel_rfl) (triA9 hK) ?_
  exact triEnd_code hih runA14
theorem triB3 {W : World} (hK : KnownSound Tryz.prog (kk callK10) W) : Tri Tryz.prog ⟨W, fun _ => false⟩ (hd (hd (tlN 3 cB))) stB0.act stB0.st stB8 := by
  have hih := fnsG_sound follows hK 100000
  refine tri_rops (by kernel_rfl) ?_
  refine triOps_cut (i := 0) (j := 17) (L1 := stB4) hih (by kernel_rfl) runB5 (by kernel_rfl) ?_
  refine triOps_cut (i := 17) (j := 18) (L1 := stB6) hih (by kernel_rfl) runB7 (by kernel_rfl) ?_
  exact triOps_end (i := 18) (L1 := stB8) hih runB9 (by kernel_rfl)

theorem triB2 {W : World} (hK : KnownSound Tryz.prog (kk callK10) W) : Tri Tryz.prog ⟨W, fun _ => false⟩ (hd (tlN 3 cB)) stB0.act stB0.st stB10 := by
  have hih := fnsG_sound follows hK 100000
  refine tri_hdtl (L1 := stB8) (by kernel_rfl) (triB3 hK) ?_
  exact tri_code (L := stB10) hih runB11

theorem endB {W : World} (hK : KnownSound Tryz.prog (kk callK10) W) : TriEnd Tryz.prog ⟨W, fun _ => false⟩ Tryz.f5 cB { n := maxN Tryz.f5.ntmps 0, t := PT.nil 8, defers := [] } (startS listed Tryz.prog.globals.size) := by
  have hih := fnsG_sound follows hK 100000
  refine triEnd_hds (k := 3) (L1 := stB0) hih (by kernel_rfl) runB1 ?_
  refine triEnd_hdtl (L1 := stB10) (by kernel_rfl) (triB2 hK) ?_
  exact triEnd_code hih runB12

noncomputable def of2 : List Value := (dc Tryz.prog 9 93 Rows.laid_tactus_item_half).getD []
noncomputable def of0 : List Value := (dc Tryz.prog 9 153 Rows.laid_tactus_sign_uses).getD []
noncomputable def of1 : List Value := (dc Tryz.prog 9 163 Rows.laid_tactus_sign_classes).getD []
theorem listed_is : listed = [(0, of0), (1, of1), (2, of2)] := by kernel_rfl
theorem listed_eq : ∀ g l, (g, l) ∈ listed → (g = 0 ∧ l = of0) ∨ (g = 1 ∧ l = of1) ∨ (g = 2 ∧ l = of2) := by
  rw [listed_is]
  intro g l h
  simpa only [List.mem_cons, Prod.mk.injEq, List.not_mem_nil, or_false] using h
def Laids (laid : List (String × DataW Unit)) : Prop := ("tactus/sign.uses", Rows.laid_tactus_sign_uses) ∈ laid ∧ ("tactus/sign.classes", Rows.laid_tactus_sign_classes) ∈ laid ∧ ("tactus/item.half", Rows.laid_tactus_item_half) ∈ laid

def Met (W : World) : Prop := ∀ g l, (g, l) ∈ listed → ∃ (arr : Array Value) (e : TypeId) (fz : Nat × Nat), W.heap[g]? = some (.cells arr e fz) ∧ arr.toList = l
set_option maxRecDepth 100000 in
theorem listed_met {laid : List (String × DataW Unit)} (hm : Laids laid) {W : World} (h : laidMet Tryz.prog laid W) : Met W := by
  obtain ⟨ps, hv, _⟩ := h
  obtain ⟨m0, m1, m2⟩ := hm
  intro g l hgl
  rcases listed_eq g l hgl with ⟨rfl, rfl⟩ | ⟨rfl, rfl⟩ | ⟨rfl, rfl⟩
  · exact laid_cells laid ps hv _ _ m0 0 153 9 _ (by kernel_rfl) (by kernel_rfl) (by kernel_rfl)
  · exact laid_cells laid ps hv _ _ m1 1 163 9 _ (by kernel_rfl) (by kernel_rfl) (by kernel_rfl)
  · exact laid_cells laid ps hv _ _ m2 2 93 9 _ (by kernel_rfl) (by kernel_rfl) (by kernel_rfl)

set_option maxRecDepth 100000 in
theorem listed_flat : ∀ g l, (g, l) ∈ listed → ∀ v ∈ l, flatV flatN v = true := by
  have : listed.all (fun x => x.2.all (flatV flatN)) = true := by kernel_rfl
  intro g l hgl v hv
  exact List.all_eq_true.1 (List.all_eq_true.1 this (g, l) hgl) v hv

theorem size_le {W : World} (h : Met W) : Tryz.prog.globals.size ≤ W.heap.size := by
  have h5 : (2, of2) ∈ listed := by
    rw [listed_is]; simp
  obtain ⟨arr, e, fz, h1, _⟩ := h 2 _ h5
  have h2 := (Array.getElem?_eq_some_iff.1 h1).1
  have h3 : Tryz.prog.globals.size = 3 := by kernel_rfl
  omega

theorem met_later {W W1 : World} (hk : Kept W W1) (h : Met W) : Met W1 := by
  intro g l hgl
  obtain ⟨arr, e, fz, h1, h2⟩ := h g l hgl
  exact ⟨arr, e, fz, by rw [hk.old g (Array.getElem?_eq_some_iff.1 h1).1]; exact h1, h2⟩

theorem known_A {W : World} (h : Met W) : KnownSound Tryz.prog (kk noCall) W := ⟨ext_sound _, fun _ _ _ h => by cases h⟩
theorem tmps_A : Nat.ble (maxN Tryz.f10.ntmps 0) 256 = true := by kernel_rfl
theorem true_A {W : World} (h : Met W) : Calls Tryz.prog 10 #[] W fun e w => e = .returned (.bool true) ∧ Kept W w :=
  tri_true Tryz.func10 bodyA (Nat.le_of_ble_eq_true tmps_A) (endA (known_A h)) (size_le h) h listed_flat

theorem known_B {W : World} (h : Met W) : KnownSound Tryz.prog (kk callK10) W := by
  refine ⟨ext_sound _, fun f args v hv => ?_⟩
  simp only [kk, callK10] at hv
  split at hv
  · cases hb10 : Nat.beq f 10 with
    | true =>
      rw [hb10] at hv
      cases hv
      obtain rfl := of_nbeq hb10
      exact ⟨rfl, fun ρ => .bool _, Tryz.f10, _, Tryz.func10, bodyA, by kernel_rfl, fun w hk => true_A (met_later hk h)⟩
    | false =>
      rw [hb10] at hv
      simp only [cond_false] at hv
      cases hv
  · cases hv
theorem tmps_B : Nat.ble (maxN Tryz.f5.ntmps 0) 256 = true := by kernel_rfl
theorem true_B {W : World} (h : Met W) : Calls Tryz.prog 5 #[] W fun e w => e = .returned (.bool true) ∧ Kept W w :=
  tri_true Tryz.func5 bodyB (Nat.le_of_ble_eq_true tmps_B) (endB (known_B h)) (size_le h) h listed_flat


end Go.Proofs.YtfoonohjjeofhaaGreatDoor
