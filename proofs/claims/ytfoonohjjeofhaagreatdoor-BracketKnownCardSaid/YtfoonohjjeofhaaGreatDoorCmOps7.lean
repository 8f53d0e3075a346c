/-
  CM, part 8d: the other operations that make memory or turn it.
-/
import Derived.Test.YtfoonohjjeofhaaGreatDoorCmOps6
namespace Go.Cm
open Go
variable {P : Program} {w0 : Base}

theorem OpGood.same {ρ : Rmap} {S : St} {w : World} (hs : Sim P w0 ρ S w) {v v' : Value} {r : Result Value} (h : r = .ok v' w) (hv : VR ρ v v') : OpGood P w0 ρ v S r := ⟨ρ, v', w, h, Ext.refl _, hv, hs⟩

theorem wrap_small {n : Int} (h0 : 0 ≤ n) (h1 : n < 9223372036854775808) : IntKind.i64.wrap n = n := by
  have e : n % (2 ^ IntKind.i64.bits : Int) = n := Int.emod_eq_of_lt h0 (by show n < 18446744073709551616; omega)
  simp only [IntKind.wrap, e]
  rw [if_neg]
  simp only [Bool.and_eq_true, decide_eq_true_eq, not_and]
  intro _
  show ¬ (9223372036854775808 ≤ n)
  omega

theorem makeSlice_sound {ρ : Rmap} {S S' : St} {w : World} (hs : Sim P w0 ρ S w) {t : TypeId} {l c l' c' v : Value} (h : makeSliceV P t l c S = some (v, S')) (hl : VR ρ l l') (hc : VR ρ c c') : OpGood P w0 ρ v S' ((Instr.makeSlice t l' c').run P w) := by
  unfold makeSliceV at h
  split at h
  case h_2 => cases h
  rename_i elem k1 ln k2 cp hu
  cases hl; cases hc
  split at h
  case h_2 => cases h
  rename_i ei hei
  split at h
  case h_2 => cases h
  rename_i z hz
  split at h
  case isFalse => cases h
  rename_i hle
  obtain ⟨a1, a2, a3, a4, a5⟩ := hle
  have hzc : z.cells.size = ei.size := by rw [cellsL_eq] at a5; simpa using a5
  have hsz : szOf P elem = some ei.size := by unfold szOf; rw [hei]
  have w1 : IntKind.i64.wrap ln = ln := wrap_small (by omega) (by have h9 := a3; simp only [maxNeed, Nat.reducePow] at h9; omega)
  have w2 : IntKind.i64.wrap cp = cp := wrap_small (by omega) (by have h9 := a3; simp only [maxNeed, Nat.reducePow] at h9; omega)
  have b1 : (ei.bytes : Int) * cp ≤ 1024 * 1073741824 := by
    have h1 : (ei.bytes : Int) ≤ 1024 := by omega
    have h2 : cp ≤ 1073741824 := by have h9 := a3; simp only [maxNeed, Nat.reducePow] at h9; omega
    exact Int.mul_le_mul h1 h2 (by omega) (by omega)
  have hnl : (decide (cp < 0) || decide ((ei.bytes : Int) * cp > 2 ^ 48)) = false :=
    Bool.or_eq_false_iff.2 ⟨decide_eq_false (by omega), decide_eq_false (by omega)⟩
  have hzv := zeros_vr (ρ := ρ) hz cp.toNat (cp.toNat * ei.size) (by rw [hzc])
  obtain ⟨ρ', d1, d2, d3⟩ := new_row hs (c := replL cp.toNat (cellsL z)) (arr := (Array.range (cp.toNat * ei.size)).map (fun i => z.cells[i % z.cells.size]!)) (e := elem) (e' := elem) (z := ei.size)
    (fun i y hy => by obtain ⟨y', p1, p2⟩ := hzv.get hy; exact ⟨y', by rw [← Array.getElem?_toList]; exact p1, p2⟩) (fun _ => rfl) hsz (n := ln.toNat) (k := cp.toNat) (k' := cp.toNat) (by omega) (Nat.le_refl _) (fun _ => by simp)
  cases h
  refine ⟨ρ', _, _, ?_, d1, d3, d2⟩
  have hcond : (decide (cp < 0) || decide ((ei.bytes : Int) * cp > 2 ^ 48) || decide (ln < 0) || decide (ln > cp)) = false := by
    rw [hnl]
    exact Bool.or_eq_false_iff.2 ⟨Bool.or_eq_false_iff.2 ⟨rfl, decide_eq_false (by omega)⟩, decide_eq_false (by omega)⟩
  unfold Instr.makeSlice
  simp only [Sem.run_bind, run_und w hu, Result.andThen_ok, asInt, asIntOf, Sem.run_pure, run_info w hei, w1, w2]
  rw [if_neg (by rw [hcond]; simp)]
  simp only [Sem.run_bind, Result.andThen_ok, run_askRoom, run_size w hsz]
  by_cases h0 : cp.toNat * ei.size = 0
  · rw [if_pos h0]
    have e1 : Array.map (fun x => (#[] : Array Value)[x % (#[] : Array Value).size]!) (Array.range (cp.toNat * ei.size)) = Array.map (fun i => z.cells[i % z.cells.size]!) (Array.range (cp.toNat * ei.size)) := by rw [h0]; simp
    simp only [Sem.run_bind, Sem.run_pure, Result.andThen_ok]
    rw [e1]
    simp [newRow]
  · rw [if_neg h0]
    simp only [Sem.run_bind, run_zero w hz, Sem.run_pure, Result.andThen_ok]
    simp [newRow]


/-! maps -/
mutual
theorem sameV_eq : ∀ (n : Nat) (a b : Value), sameV n a b = true → a = b
  | 0, a, b, h => by simp [sameV] at h
  | n + 1, a, b, h => by
    cases a <;> cases b <;> first
      | rfl
      | (simp [sameV] at h; done)
      | (simp [sameV] at h; simp [h]; done)
      | (simp only [sameV, Bool.and_eq_true, decide_eq_true_eq] at h; obtain ⟨rfl, rfl⟩ := h; rfl)
      | (rename_i x y; simp only [sameV, sameBytes_eq, beq_iff_eq] at h; congr 1; apply ByteArray.ext; apply Array.ext'; exact h)
      | (rename_i x n1 c1 y n2 c2; simp only [sameV, Bool.and_eq_true, decide_eq_true_eq] at h; obtain ⟨⟨rfl, h2⟩, h3⟩ := h; rw [of_nbeq h2, of_nbeq h3])
      | (rename_i x y; simp only [sameV] at h; congr 1; apply Array.ext'; exact sameL_eq n _ _ h)
      | (rename_i t x u y; simp only [sameV, Bool.and_eq_true] at h; rw [of_nbeq h.1, sameV_eq n _ _ h.2])
      | (rename_i f x1 x2 g y1 y2; simp only [sameV, Bool.and_eq_true, decide_eq_true_eq] at h; obtain ⟨⟨rfl, h2⟩, h3⟩ := h; congr 1; exact Array.ext' (sameL_eq n _ _ h2); exact Array.ext' (sameL_eq n _ _ h3))
theorem sameL_eq : ∀ (n : Nat) (a b : List Value), sameL n a b = true → a = b
  | 0, a, b, h => by simp [sameL] at h
  | n + 1, [], [], _ => rfl
  | n + 1, [], _ :: _, h => by simp [sameL] at h
  | n + 1, _ :: _, [], h => by simp [sameL] at h
  | n + 1, x :: a, y :: b, h => by
    simp only [sameL, Bool.and_eq_true] at h
    rw [sameV_eq n _ _ h.1, sameL_eq n _ _ h.2]
end

end Go.Cm
