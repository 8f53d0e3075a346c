/-
  Compare's order is total: the plain law.
-/
import Derived.Test.YtcgkdmimgagmoaaDoorTComp
namespace Go.Proofs.YtcgkdmimgagmoaaDoor
open Go.Cm

abbrev In64 (a : Int) : Prop := -9223372036854775808 ≤ a ∧ a < 9223372036854775808

/-- the order: the sums, then the motions, then the treated ones -/
def lexOf (m u t m' u' t' : Int) : Int :=
  if m + u < m' + u' then -1 else if m' + u' < m + u then 1 else if m < m' then -1 else if m' < m then 1 else if t < t' then -1 else if t' < t then 1 else 0

theorem cmpI_cases (a b : Int) : (a < b ∧ cmpI a b = -1) ∨ (a = b ∧ cmpI a b = 0) ∨ (b < a ∧ cmpI a b = 1) := by
  unfold cmpI
  rcases Int.lt_trichotomy a b with h | h | h
  · exact .inl ⟨h, by rw [if_pos h]⟩
  · exact .inr (.inl ⟨h, by rw [if_neg (by omega), if_neg (by omega)]⟩)
  · exact .inr (.inr ⟨h, by rw [if_neg (by omega), if_pos (by omega)]⟩)

theorem firstOf_cases (a b c d : Int) : (a ≠ 0 ∧ firstOf a b c d = a) ∨ (a = 0 ∧ b ≠ 0 ∧ firstOf a b c d = b) ∨ (a = 0 ∧ b = 0 ∧ c ≠ 0 ∧ firstOf a b c d = c) ∨ (a = 0 ∧ b = 0 ∧ c = 0 ∧ firstOf a b c d = d) := by
  unfold firstOf
  by_cases ha : a = 0
  · by_cases hb : b = 0
    · by_cases hc : c = 0
      · exact .inr (.inr (.inr ⟨ha, hb, hc, by simp [ha, hb, hc]⟩))
      · exact .inr (.inr (.inl ⟨ha, hb, hc, by simp [ha, hb, hc]⟩))
    · exact .inr (.inl ⟨ha, hb, by simp [ha, hb]⟩)
  · exact .inl ⟨ha, by simp [ha]⟩

theorem compare_lex {m u t m' u' t' : Int} (hm : In64 m) (hu : In64 u) (hm' : In64 m') (hu' : In64 u') : compareOf m u t m' u' t' = lexOf m u t m' u' t' := by
  unfold compareOf highOf lowOf
  rw [turned_eq hm.1 hm.2, turned_eq hu.1 hu.2, turned_eq hm'.1 hm'.2, turned_eq hu'.1 hu'.2]
  obtain ⟨_, _⟩ := hm
  obtain ⟨_, _⟩ := hu
  obtain ⟨_, _⟩ := hm'
  obtain ⟨_, _⟩ := hu'
  generalize hx : m + 9223372036854775808 + (u + 9223372036854775808) + 0 = x
  generalize hy : m' + 9223372036854775808 + (u' + 9223372036854775808) + 0 = y
  have hxy : (m + u < m' + u' ↔ x < y) ∧ (m' + u' < m + u ↔ y < x) := by omega
  unfold lexOf
  have h1 := cmpI_cases (x / 18446744073709551616) (y / 18446744073709551616)
  have h2 := cmpI_cases (x % 18446744073709551616) (y % 18446744073709551616)
  have h3 := cmpI_cases m m'
  have h4 := cmpI_cases t t'
  have h5 := firstOf_cases (cmpI (x / 18446744073709551616) (y / 18446744073709551616)) (cmpI (x % 18446744073709551616) (y % 18446744073709551616)) (cmpI m m') (cmpI t t')
  generalize cmpI (x / 18446744073709551616) (y / 18446744073709551616) = c1 at *
  generalize cmpI (x % 18446744073709551616) (y % 18446744073709551616) = c2 at *
  generalize cmpI m m' = c3 at *
  generalize cmpI t t' = c4 at *
  generalize firstOf c1 c2 c3 c4 = f at *
  by_cases a1 : m + u < m' + u'
  · rw [if_pos a1]; omega
  · rw [if_neg a1]
    by_cases a2 : m' + u' < m + u
    · rw [if_pos a2]; omega
    · rw [if_neg a2]
      by_cases a3 : m < m'
      · rw [if_pos a3]; omega
      · rw [if_neg a3]
        by_cases a4 : m' < m
        · rw [if_pos a4]; omega
        · rw [if_neg a4]
          by_cases a5 : t < t'
          · rw [if_pos a5]; omega
          · rw [if_neg a5]
            by_cases a6 : t' < t
            · rw [if_pos a6]; omega
            · rw [if_neg a6]; omega

theorem lex_cases (m u t m' u' t' : Int) : (lexOf m u t m' u' t' = -1 ∧ (m + u < m' + u' ∨ (m + u = m' + u' ∧ (m < m' ∨ (m = m' ∧ t < t'))))) ∨ (lexOf m u t m' u' t' = 1 ∧ (m' + u' < m + u ∨ (m' + u' = m + u ∧ (m' < m ∨ (m' = m ∧ t' < t))))) ∨
    (lexOf m u t m' u' t' = 0 ∧ m + u = m' + u' ∧ m = m' ∧ t = t') := by
  unfold lexOf
  by_cases a1 : m + u < m' + u'
  · rw [if_pos a1]; omega
  · rw [if_neg a1]
    by_cases a2 : m' + u' < m + u
    · rw [if_pos a2]; omega
    · rw [if_neg a2]
      by_cases a3 : m < m'
      · rw [if_pos a3]; omega
      · rw [if_neg a3]
        by_cases a4 : m' < m
        · rw [if_pos a4]; omega
        · rw [if_neg a4]
          by_cases a5 : t < t'
          · rw [if_pos a5]; omega
          · rw [if_neg a5]
            by_cases a6 : t' < t
            · rw [if_pos a6]; omega
            · rw [if_neg a6]; omega

/-- what the law needs of Compare -/
structure Facts (m u t m' u' t' m2 u2 t2 : Int) : Prop where
  lo : -1 ≤ compareOf m u t m' u' t'
  hi : compareOf m u t m' u' t' ≤ 1
  eq : compareOf m u t m' u' t' = 0 ↔ m = m' ∧ u = u' ∧ t = t'
  neg : compareOf m' u' t' m u t = - compareOf m u t m' u' t'
  tr : 0 ≤ compareOf m u t m' u' t' ∨ 0 ≤ compareOf m' u' t' m2 u2 t2 ∨ compareOf m u t m2 u2 t2 < 0
theorem facts {m u t m' u' t' m2 u2 t2 : Int} (hm : In64 m) (hu : In64 u) (hm' : In64 m') (hu' : In64 u') (hm2 : In64 m2) (hu2 : In64 u2) : Facts m u t m' u' t' m2 u2 t2 := by
  have e1 := compare_lex (t := t) (t' := t') hm hu hm' hu'
  have e2 := compare_lex (t := t') (t' := t) hm' hu' hm hu
  have e3 := compare_lex (t := t') (t' := t2) hm' hu' hm2 hu2
  have e4 := compare_lex (t := t) (t' := t2) hm hu hm2 hu2
  have l1 := lex_cases m u t m' u' t'
  have l2 := lex_cases m' u' t' m u t
  have l3 := lex_cases m' u' t' m2 u2 t2
  have l4 := lex_cases m u t m2 u2 t2
  refine ⟨?_, ?_, ?_, ?_, ?_⟩
  · omega
  · omega
  · omega
  · omega
  · omega
end Go.Proofs.YtcgkdmimgagmoaaDoor
