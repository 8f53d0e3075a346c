/-
  The law's own examples hold: awake returns true, and so does ScoreKnown, in every world that holds the listed variables.
-/
import Derived.Test.YticgkdlipbmfgaaGreatDoorTS3
namespace Go.Proofs.YticgkdlipbmfgaaGreatDoor
open Go.Cm

set_option maxRecDepth 100000 in
theorem stage3_runs : endTrue Tryz.prog Tryz.f7.results.toList ((fnsG Tryz.prog (scoreK noCall) 100000).exec none (tl (tl (tl c7))) stage2.act stage2.st) = true := by kernel_rfl

def call7 : FuncId → List Value → Option Value := fun f a => match a with
  | [] => bif Nat.beq f 7 then some (.bool true) else none
  | _ => none
set_option maxRecDepth 100000 in
theorem score_runs : isTrue ((fnsG Tryz.prog (scoreK call7) 100000).call (.fn (.func 3) #[]) [] (startS listed Tryz.prog.globals.size)) = true := by kernel_rfl

noncomputable def of1 : List Value := (dc Tryz.prog 9 228 Rows.laid_internal_strconv_uint64pow10).getD []
noncomputable def of2 : List Value := (dc Tryz.prog 9 262 Rows.laid_tactus_pitch_halves).getD []
noncomputable def of3 : List Value := (dc Tryz.prog 9 264 Rows.laid_tactus_interval_kinds).getD []
noncomputable def of4 : List Value := (dc Tryz.prog 9 271 Rows.laid_math_bits_deBruijn32tab).getD []
noncomputable def of5 : List Value := (dc Tryz.prog 9 272 Rows.laid_math_bits_deBruijn64tab).getD []
theorem listed_eq : ∀ g l, (g, l) ∈ listed → (g = 1 ∧ l = of1) ∨ (g = 2 ∧ l = of2) ∨ (g = 3 ∧ l = of3) ∨ (g = 4 ∧ l = of4) ∨ (g = 5 ∧ l = of5) := by
  have : listed = [(1, of1), (2, of2), (3, of3), (4, of4), (5, of5)] := by kernel_rfl
  rw [this]
  intro g l h
  simpa only [List.mem_cons, Prod.mk.injEq, List.not_mem_nil, or_false] using h

def Laids (laid : List (String × DataW Unit)) : Prop :=
  ("internal/strconv.uint64pow10", Rows.laid_internal_strconv_uint64pow10) ∈ laid ∧ ("tactus/pitch.halves", Rows.laid_tactus_pitch_halves) ∈ laid ∧ ("tactus/interval.kinds", Rows.laid_tactus_interval_kinds) ∈ laid ∧
    ("math/bits.deBruijn32tab", Rows.laid_math_bits_deBruijn32tab) ∈ laid ∧ ("math/bits.deBruijn64tab", Rows.laid_math_bits_deBruijn64tab) ∈ laid

set_option maxRecDepth 100000 in
theorem listed_met {laid : List (String × DataW Unit)} (hm : Laids laid) {W : World} (h : laidMet Tryz.prog laid W) :
    ∀ g l, (g, l) ∈ listed → ∃ (arr : Array Value) (e : TypeId) (fz : Nat × Nat), W.heap[g]? = some (.cells arr e fz) ∧ arr.toList = l := by
  obtain ⟨ps, hv, _⟩ := h
  obtain ⟨m1, m2, m3, m4, m5⟩ := hm
  intro g l hgl
  rcases listed_eq g l hgl with ⟨rfl, rfl⟩ | ⟨rfl, rfl⟩ | ⟨rfl, rfl⟩ | ⟨rfl, rfl⟩ | ⟨rfl, rfl⟩
  · exact laid_cells laid ps hv _ _ m1 1 228 9 _ (by kernel_rfl) (by kernel_rfl) (by kernel_rfl)
  · exact laid_cells laid ps hv _ _ m2 2 262 9 _ (by kernel_rfl) (by kernel_rfl) (by kernel_rfl)
  · exact laid_cells laid ps hv _ _ m3 3 264 9 _ (by kernel_rfl) (by kernel_rfl) (by kernel_rfl)
  · exact laid_cells laid ps hv _ _ m4 4 271 9 _ (by kernel_rfl) (by kernel_rfl) (by kernel_rfl)
  · exact laid_cells laid ps hv _ _ m5 5 272 9 _ (by kernel_rfl) (by kernel_rfl) (by kernel_rfl)

set_option maxRecDepth 100000 in
theorem listed_flat : ∀ g l, (g, l) ∈ listed → ∀ v ∈ l, flatV flatN v = true := by
  have : listed.all (fun x => x.2.all (flatV flatN)) = true := by kernel_rfl
  intro g l hgl v hv
  exact List.all_eq_true.1 (List.all_eq_true.1 this (g, l) hgl) v hv

theorem size_le {W : World} (h : ∀ g l, (g, l) ∈ listed → ∃ (arr : Array Value) (e : TypeId) (fz : Nat × Nat), W.heap[g]? = some (.cells arr e fz) ∧ arr.toList = l) : Tryz.prog.globals.size ≤ W.heap.size := by
  have h5 : (5, of5) ∈ listed := by
    have : listed = [(1, of1), (2, of2), (3, of3), (4, of4), (5, of5)] := by kernel_rfl
    rw [this]; simp
  obtain ⟨arr, e, fz, h1, _⟩ := h 5 _ h5
  have h2 := (Array.getElem?_eq_some_iff.1 h1).1
  have h3 : Tryz.prog.globals.size = 6 := by kernel_rfl
  omega

theorem met_later {W W1 : World} (hk : Kept W W1) (h : ∀ g l, (g, l) ∈ listed → ∃ (arr : Array Value) (e : TypeId) (fz : Nat × Nat), W.heap[g]? = some (.cells arr e fz) ∧ arr.toList = l) :
    ∀ g l, (g, l) ∈ listed → ∃ (arr : Array Value) (e : TypeId) (fz : Nat × Nat), W1.heap[g]? = some (.cells arr e fz) ∧ arr.toList = l := by
  intro g l hgl
  obtain ⟨arr, e, fz, h1, h2⟩ := h g l hgl
  exact ⟨arr, e, fz, by rw [hk.old g (Array.getElem?_eq_some_iff.1 h1).1]; exact h1, h2⟩

theorem known_no (W : World) : KnownSound Tryz.prog (scoreK noCall) W := known_none W
theorem tmps7 : Nat.ble (maxN Tryz.f7.ntmps 0) 256 = true := by kernel_rfl
set_option maxRecDepth 100000 in
theorem awake_true {W : World} (h : ∀ g l, (g, l) ∈ listed → ∃ (arr : Array Value) (e : TypeId) (fz : Nat × Nat), W.heap[g]? = some (.cells arr e fz) ∧ arr.toList = l) :
    Calls Tryz.prog 7 #[] W fun e w => e = .returned (.bool true) ∧ Kept W w :=
  staged_true (n := 100000) (K := scoreK noCall) (L1 := stage1) (L2 := stage2) follows (known_no W) Tryz.func7 body7 (Nat.le_of_ble_eq_true tmps7) stage1_runs stage2_runs stage3_runs (size_le h) h listed_flat

theorem known_awake {W : World} (h : ∀ g l, (g, l) ∈ listed → ∃ (arr : Array Value) (e : TypeId) (fz : Nat × Nat), W.heap[g]? = some (.cells arr e fz) ∧ arr.toList = l) : KnownSound Tryz.prog (scoreK call7) W := by
  refine ⟨ext_sound _, fun f args v hv => ?_⟩
  simp only [scoreK, call7] at hv
  split at hv
  · cases hb : Nat.beq f 7 with
    | false => rw [hb] at hv; cases hv
    | true =>
      rw [hb] at hv
      cases hv
      obtain rfl := of_nbeq hb
      exact ⟨rfl, fun ρ => .bool _, Tryz.f7, _, Tryz.func7, body7, by kernel_rfl, fun w hk => awake_true (met_later hk h)⟩
  · cases hv

theorem score_true {W : World} (h : ∀ g l, (g, l) ∈ listed → ∃ (arr : Array Value) (e : TypeId) (fz : Nat × Nat), W.heap[g]? = some (.cells arr e fz) ∧ arr.toList = l) :
    Calls Tryz.prog 3 #[] W fun e w => e = .returned (.bool true) ∧ Kept W w := by
  obtain ⟨c, hc⟩ : ∃ c, Tryz.f3.body = some c := Option.isSome_iff_exists.1 (by kernel_rfl)
  exact true_calls (n := 100000) follows (known_awake h) Tryz.func3 hc (by kernel_rfl) score_runs (size_le h) h listed_flat

end Go.Proofs.YticgkdlipbmfgaaGreatDoor
