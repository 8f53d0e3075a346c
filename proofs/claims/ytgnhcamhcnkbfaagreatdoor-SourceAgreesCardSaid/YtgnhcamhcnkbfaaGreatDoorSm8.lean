/-
  Sources as arguments.
-/
import Derived.Test.YtgnhcamhcnkbfaaGreatDoorSm7
import Derived.Test.YtgnhcamhcnkbfaaGreatDoorSy2
namespace Go.Proofs.YtgnhcamhcnkbfaaGreatDoor
open Go.Cm Go
set_option maxRecDepth 100000
variable {S : St}
theorem rep_int {P : Program} {n : Nat} {t : TypeId} {k : IntKind} {c : List Value} (h : Rep P (n + 1) t S c) (hu : P.underlying t = some (.int k)) : ∃ m, c = [.int k m] := by
  unfold Rep at h
  rw [hu] at h
  obtain ⟨m, h, _⟩ := h
  exact ⟨m, h⟩
theorem rep_bool {P : Program} {n : Nat} {t : TypeId} {c : List Value} (h : Rep P (n + 1) t S c) (hu : P.underlying t = some .bool) : ∃ b, c = [.bool b] := by
  unfold Rep at h
  rw [hu] at h
  exact h
theorem rep_string {P : Program} {n : Nat} {t : TypeId} {c : List Value} (h : Rep P (n + 1) t S c) (hu : P.underlying t = some .string) : ∃ s, c = [.string s] := by
  unfold Rep at h
  rw [hu] at h
  obtain ⟨s, h, _⟩ := h
  exact ⟨s, h⟩
theorem rep_len {P : Program} {n : Nat} {t : TypeId} {fs : Array Field} {c : List Value} {z : Nat} (h : Rep P (n + 1) t S c) (hu : P.underlying t = some (.struct fs)) (hz : P.cellsOf t = z) : c.length = z := by
  unfold Rep at h
  rw [hu] at h
  exact h.1.trans hz
theorem rep_field {P : Program} {n j z : Nat} {t : TypeId} {fs : Array Field} {f : Field} {c : List Value} (h : Rep P (n + 1) t S c) (hu : P.underlying t = some (.struct fs)) (hf : nth fs.toList j = some f) (hz : P.cellsOf f.type = z) : Rep P n f.type S ((c.drop f.offset).take z) := by
  unfold Rep at h
  rw [hu] at h
  rw [← hz]
  exact h.2 f (nth_mem hf)
theorem nth_range {α : Type} (f : Nat → α) : ∀ (n k i : Nat), i < n → nth ((List.range' k n).map f) i = some (f (k + i))
  | n + 1, k, 0, _ => rfl
  | n + 1, k, i + 1, h => by
    show nth ((List.range' (k + 1) n).map f) i = _
    rw [nth_range f n (k + 1) i (by omega)]
    congr 2; omega
theorem rep_slice {P : Program} {n z : Nat} {t e : TypeId} {c : List Value} (h : Rep P (n + 1) t S c) (hu : P.underlying t = some (.slice e)) (hz : P.cellsOf e = z) : ∃ v C, c = [v] ∧ SliceAt S e z v C ∧ ∀ x, x ∈ C → Rep P n e S x := by
  unfold Rep at h
  rw [hu] at h
  rcases h with h | ⟨b, o, k, h⟩ | ⟨b, len, cs, h1, h2, h3, h4, h5, h6⟩
  · exact ⟨_, [], h, .inl ⟨rfl, .inl rfl⟩, fun x hx => (List.not_mem_nil hx).elim⟩
  · exact ⟨_, [], h, .inl ⟨rfl, .inr ⟨b, o, k, rfl⟩⟩, fun x hx => (List.not_mem_nil hx).elim⟩
  · refine ⟨_, (List.range' 0 len).map (fun i => (cs.drop (i * z)).take z), h1, .inr ⟨b, 0, len, cs, by simp, by simp, ⟨h2, _, _, h3⟩, fun k x hk => ?_⟩, fun x hx => ?_⟩
    · have hlt : k < len := by have := nth_lt hk; simpa using this
      rw [nth_range _ _ _ _ hlt] at hk
      cases hk
      rw [dropN_eq, Nat.zero_add, Nat.zero_add, takeN_some]
      rw [List.length_drop, h4, hz]
      have : (k + 1) * z ≤ len * z := Nat.mul_le_mul_right z hlt
      rw [Nat.add_mul] at this
      omega
    · obtain ⟨i, hi, rfl⟩ := List.mem_map.1 hx
      rw [List.mem_range'_1] at hi
      have := h6 i (by omega)
      rw [hz] at this
      exact this
theorem uncons {c : List Value} {n : Nat} (h : c.length = n + 1) : ∃ x r, c = x :: r ∧ r.length = n := by
  cases c with
  | nil => cases h
  | cons x r => exact ⟨x, r, rfl, by simpa using h⟩
theorem rep_mens {c : List Value} {n : Nat} (h : Rep Tryz.prog (n + 2) 50 S c) : ∃ a b d e, c = [.int .i64 a, .int .i64 b, .int .i64 d, .int .i64 e] := by
  have hl0 := rep_len h Tryz.underlying50 (z := 4) (by kernel_rfl)
  obtain ⟨x0, r0, rfl, hl1⟩ := uncons hl0
  obtain ⟨x1, r1, rfl, hl2⟩ := uncons hl1
  obtain ⟨x2, r2, rfl, hl3⟩ := uncons hl2
  obtain ⟨x3, r3, rfl, hl4⟩ := uncons hl3
  obtain rfl := List.length_eq_zero_iff.1 hl4
  obtain ⟨a0, e0⟩ := rep_int (rep_field h Tryz.underlying50 (j := 0) (z := 1) rfl (by kernel_rfl)) Tryz.underlying3
  obtain ⟨a1, e1⟩ := rep_int (rep_field h Tryz.underlying50 (j := 1) (z := 1) rfl (by kernel_rfl)) Tryz.underlying3
  obtain ⟨a2, e2⟩ := rep_int (rep_field h Tryz.underlying50 (j := 2) (z := 1) rfl (by kernel_rfl)) Tryz.underlying3
  obtain ⟨a3, e3⟩ := rep_int (rep_field h Tryz.underlying50 (j := 3) (z := 1) rfl (by kernel_rfl)) Tryz.underlying3
  cases e0; cases e1; cases e2; cases e3
  exact ⟨a0, a1, a2, a3, rfl⟩
theorem rep_clef {c : List Value} {n : Nat} (h : Rep Tryz.prog (n + 2) 52 S c) : ∃ a b, c = [.int .i64 a, .int .i64 b] := by
  have hl0 := rep_len h Tryz.underlying52 (z := 2) (by kernel_rfl)
  obtain ⟨x0, r0, rfl, hl1⟩ := uncons hl0
  obtain ⟨x1, r1, rfl, hl2⟩ := uncons hl1
  obtain rfl := List.length_eq_zero_iff.1 hl2
  obtain ⟨a0, e0⟩ := rep_int (rep_field h Tryz.underlying52 (j := 0) (z := 1) rfl (by kernel_rfl)) Tryz.underlying3
  obtain ⟨a1, e1⟩ := rep_int (rep_field h Tryz.underlying52 (j := 1) (z := 1) rfl (by kernel_rfl)) Tryz.underlying3
  cases e0; cases e1
  exact ⟨a0, a1, rfl⟩
theorem rep_sign {c : List Value} {n : Nat} (h : Rep Tryz.prog (n + 3) 54 S c) : ∃ s : Sg, c = s.cells := by
  have hl0 := rep_len h Tryz.underlying54 (z := 17) (by kernel_rfl)
  obtain ⟨x0, r0, rfl, hl1⟩ := uncons hl0
  obtain ⟨x1, r1, rfl, hl2⟩ := uncons hl1
  obtain ⟨x2, r2, rfl, hl3⟩ := uncons hl2
  obtain ⟨x3, r3, rfl, hl4⟩ := uncons hl3
  obtain ⟨x4, r4, rfl, hl5⟩ := uncons hl4
  obtain ⟨x5, r5, rfl, hl6⟩ := uncons hl5
  obtain ⟨x6, r6, rfl, hl7⟩ := uncons hl6
  obtain ⟨x7, r7, rfl, hl8⟩ := uncons hl7
  obtain ⟨x8, r8, rfl, hl9⟩ := uncons hl8
  obtain ⟨x9, r9, rfl, hl10⟩ := uncons hl9
  obtain ⟨x10, r10, rfl, hl11⟩ := uncons hl10
  obtain ⟨x11, r11, rfl, hl12⟩ := uncons hl11
  obtain ⟨x12, r12, rfl, hl13⟩ := uncons hl12
  obtain ⟨x13, r13, rfl, hl14⟩ := uncons hl13
  obtain ⟨x14, r14, rfl, hl15⟩ := uncons hl14
  obtain ⟨x15, r15, rfl, hl16⟩ := uncons hl15
  obtain ⟨x16, r16, rfl, hl17⟩ := uncons hl16
  obtain rfl := List.length_eq_zero_iff.1 hl17
  obtain ⟨a0, e0⟩ := rep_int (rep_field h Tryz.underlying54 (j := 0) (z := 1) rfl (by kernel_rfl)) Tryz.underlying3
  obtain ⟨a1, e1⟩ := rep_int (rep_field h Tryz.underlying54 (j := 1) (z := 1) rfl (by kernel_rfl)) Tryz.underlying3
  obtain ⟨a2, e2⟩ := rep_int (rep_field h Tryz.underlying54 (j := 2) (z := 1) rfl (by kernel_rfl)) Tryz.underlying3
  obtain ⟨a3, e3⟩ := rep_int (rep_field h Tryz.underlying54 (j := 3) (z := 1) rfl (by kernel_rfl)) Tryz.underlying3
  obtain ⟨a4, e4⟩ := rep_bool (rep_field h Tryz.underlying54 (j := 4) (z := 1) rfl (by kernel_rfl)) Tryz.underlying4
  obtain ⟨a5, e5⟩ := rep_int (rep_field h Tryz.underlying54 (j := 5) (z := 1) rfl (by kernel_rfl)) Tryz.underlying3
  obtain ⟨a6, e6⟩ := rep_bool (rep_field h Tryz.underlying54 (j := 6) (z := 1) rfl (by kernel_rfl)) Tryz.underlying4
  obtain ⟨a7, e7⟩ := rep_bool (rep_field h Tryz.underlying54 (j := 7) (z := 1) rfl (by kernel_rfl)) Tryz.underlying4
  obtain ⟨a8, a9, a10, a11, e8⟩ := rep_mens (rep_field h Tryz.underlying54 (j := 8) (z := 4) rfl (by kernel_rfl))
  obtain ⟨a12, e12⟩ := rep_bool (rep_field h Tryz.underlying54 (j := 9) (z := 1) rfl (by kernel_rfl)) Tryz.underlying4
  obtain ⟨a13, e13⟩ := rep_int (rep_field h Tryz.underlying54 (j := 10) (z := 1) rfl (by kernel_rfl)) Tryz.underlying3
  obtain ⟨a14, e14⟩ := rep_int (rep_field h Tryz.underlying54 (j := 11) (z := 1) rfl (by kernel_rfl)) Tryz.underlying3
  obtain ⟨a15, a16, e15⟩ := rep_clef (rep_field h Tryz.underlying54 (j := 12) (z := 2) rfl (by kernel_rfl))
  cases e0; cases e1; cases e2; cases e3; cases e4; cases e5; cases e6; cases e7; cases e8; cases e12; cases e13; cases e14; cases e15
  exact ⟨⟨a0, a1, a2, a3, a4, a5, a6, a7, a8, a9, a10, a11, a12, a13, a14, a15, a16⟩, rfl⟩
theorem all_signs : ∀ {C : List (List Value)}, (∀ x, x ∈ C → ∃ s : Sg, x = s.cells) → ∃ L : List Sg, C = L.map Sg.cells
  | [], _ => ⟨[], rfl⟩
  | x :: C, h => by
    obtain ⟨s, e⟩ := h x (List.mem_cons_self ..)
    obtain ⟨L, e2⟩ := all_signs (C := C) fun y hy => h y (List.mem_cons_of_mem _ hy)
    exact ⟨s :: L, by rw [e, e2]; rfl⟩
theorem rep_spot {c : List Value} {n : Nat} (h : Rep Tryz.prog (n + 5) 43 S c) : ∃ x : Spt, SpotC S x c := by
  have hl0 := rep_len h Tryz.underlying43 (z := 2) (by kernel_rfl)
  obtain ⟨x0, r0, rfl, hl1⟩ := uncons hl0
  obtain ⟨x1, r1, rfl, hl2⟩ := uncons hl1
  obtain rfl := List.length_eq_zero_iff.1 hl2
  obtain ⟨v, C, e0, h0, hC⟩ := rep_slice (rep_field h Tryz.underlying43 (j := 0) (z := 1) rfl (by kernel_rfl)) Tryz.underlying25 (z := 17) (by kernel_rfl)
  obtain ⟨b, e1⟩ := rep_bool (rep_field h Tryz.underlying43 (j := 1) (z := 1) rfl (by kernel_rfl)) Tryz.underlying4
  obtain ⟨L, rfl⟩ := all_signs fun x hx => rep_sign (hC x hx)
  cases e0; cases e1
  exact ⟨⟨L, b⟩, _, rfl, h0⟩
theorem all_spots : ∀ {C : List (List Value)}, (∀ x, x ∈ C → ∃ p : Spt, SpotC S p x) → ∃ L : List Spt, C.length = L.length ∧ ∀ k p, nth L k = some p → ∃ c, nth C k = some c ∧ SpotC S p c
  | [], _ => ⟨[], rfl, fun k p h => by cases k <;> cases h⟩
  | x :: C, h => by
    obtain ⟨p, hp⟩ := h x (List.mem_cons_self ..)
    obtain ⟨L, e, hL⟩ := all_spots (C := C) fun y hy => h y (List.mem_cons_of_mem _ hy)
    refine ⟨p :: L, by simp [e], fun k q hq => ?_⟩
    cases k with
    | zero => obtain rfl : p = q := Option.some.inj hq; exact ⟨x, rfl, hp⟩
    | succ k => exact hL k q hq
theorem rep_src {c : List Value} {n : Nat} (h : Rep Tryz.prog (n + 7) 24 S c) : ∃ (nm : ByteArray) (a : Option Addr) (cap : Nat) (L : List Spt), c = [.string nm, .slice a L.length cap] ∧ Spots S (.slice a L.length cap) L := by
  have hl0 := rep_len h Tryz.underlying24 (z := 2) (by kernel_rfl)
  obtain ⟨x0, r0, rfl, hl1⟩ := uncons hl0
  obtain ⟨x1, r1, rfl, hl2⟩ := uncons hl1
  obtain rfl := List.length_eq_zero_iff.1 hl2
  obtain ⟨nm, e0⟩ := rep_string (rep_field h Tryz.underlying24 (j := 0) (z := 1) rfl (by kernel_rfl)) Tryz.underlying9
  obtain ⟨v, C, e1, h1, hC⟩ := rep_slice (rep_field h Tryz.underlying24 (j := 1) (z := 1) rfl (by kernel_rfl)) Tryz.underlying22 (z := 2) (by kernel_rfl)
  obtain ⟨L, hlen, hL⟩ := all_spots fun x hx => rep_spot (hC x hx)
  have hs : Spots S v L := ⟨C, hlen, h1, hL⟩
  obtain ⟨a, cap, rfl⟩ := hs.is
  cases e0; cases e1
  exact ⟨nm, a, cap, L, rfl, hs⟩
end Go.Proofs.YtgnhcamhcnkbfaaGreatDoor
