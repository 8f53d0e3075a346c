/-
  CM, part 5: operations that touch no memory.
-/
import Derived.Test.YtfoonohjjeofhaaGreatDoorCmOps
import Derived.Laws.Tables
namespace Go.Cm
open Go
variable {P : Program}

/-! ### Binary and unary operations -/
theorem eqGuard_quiet {op : BinOp} {t : TypeId} {x y : Operand} {a b : Value} (h1 : ¬ (a = .nilIface ∧ b = .nilIface)) (h2 : ∀ xs ys, ¬ (a = .agg xs ∧ b = .agg ys)) : eqGuard op t x y a b = pure () := by
  unfold eqGuard
  cases op <;> first
    | rfl
    | (cases a <;> first
        | rfl
        | (cases b <;> first
            | rfl
            | exact absurd ⟨rfl, rfl⟩ h1
            | exact absurd ⟨rfl, rfl⟩ (h2 _ _)))

theorem guard_sound {ρ : Rmap} {op : BinOp} {t : TypeId} {x y : Operand} {a b a' b' : Value} (h : guardFree P op t x y a b = true) (ha : VR ρ a a') (hb : VR ρ b b') (w : World) :
    (eqGuard op t x y a' b').run P w = .ok () w := by
  by_cases c1 : a' = .nilIface ∧ b' = .nilIface
  · obtain ⟨rfl, rfl⟩ := c1
    cases ha; cases hb
    unfold guardFree at h
    cases op <;> first
      | rfl
      | (cases x <;> cases y <;> first | rfl | (simp at h))
  · by_cases c2 : ∃ xs ys, a' = .agg xs ∧ b' = .agg ys
    · obtain ⟨xs, ys, rfl, rfl⟩ := c2
      cases ha; cases hb
      have hm : P.eqGuardType P.depth t = false := by simpa [guardFree] using h
      exact run_eqGuard_agg w op t x y _ _ hm
    · rw [eqGuard_quiet c1 (fun xs ys e => c2 ⟨xs, ys, e.1, e.2⟩)]; rfl

theorem binOp_eql_other {t : TypeId} {x y : Value} (h : ∀ k a k' b, ¬ (x = .int k a ∧ y = .int k' b)) (hs : ∀ a b, ¬ (x = .string a ∧ y = .string b)) (hf : ∀ k a, x ≠ .float k a)
    (hc : ∀ k a b, x ≠ .complex k a b) : binOp .eql t x y = (do pure (.bool (← Op.equal t x y))) := by
  cases x <;> first
    | rfl
    | (exact absurd rfl (hf _ _))
    | (exact absurd rfl (hc _ _ _))
    | (cases y <;> first | rfl | (exact absurd ⟨rfl, rfl⟩ (h _ _ _ _)) | (exact absurd ⟨rfl, rfl⟩ (hs _ _)))
theorem binOp_neq_other {t : TypeId} {x y : Value} (h : ∀ k a k' b, ¬ (x = .int k a ∧ y = .int k' b)) (hs : ∀ a b, ¬ (x = .string a ∧ y = .string b)) (hf : ∀ k a, x ≠ .float k a)
    (hc : ∀ k a b, x ≠ .complex k a b) : binOp .neq t x y = (do pure (.bool (!(← Op.equal t x y)))) := by
  cases x <;> first
    | rfl
    | (exact absurd rfl (hf _ _))
    | (exact absurd rfl (hc _ _ _))
    | (cases y <;> first | rfl | (exact absurd ⟨rfl, rfl⟩ (h _ _ _ _)) | (exact absurd ⟨rfl, rfl⟩ (hs _ _)))

theorem VR.int_inv {ρ : Rmap} {v : Value} {k : IntKind} {n : Int} (h : VR ρ v (.int k n)) : v = .int k n := by cases h; rfl
theorem VR.string_inv {ρ : Rmap} {v : Value} {s : ByteArray} (h : VR ρ v (.string s)) : v = .string s := by cases h; rfl
theorem VR.float_inv {ρ : Rmap} {v : Value} {k : FloatKind} {n : Nat} (h : VR ρ v (.float k n)) : v = .float k n := by cases h; rfl
theorem VR.complex_inv {ρ : Rmap} {v : Value} {k : FloatKind} {m n : Nat} (h : VR ρ v (.complex k m n)) : v = .complex k m n := by cases h; rfl

theorem binV_sound {ρ : Rmap} {op : BinOp} {t : TypeId} {xo yo : Operand} {x y v x' y' : Value} (h : binV P op t xo yo x y = some v) (hx : VR ρ x x') (hy : VR ρ y y') (w : World) :
    (do eqGuard op t xo yo x' y'; binOp op t x' y' : Sem Value).run P w = .ok v w ∧ Flat v := by
  unfold binV at h
  split at h
  · rename_i k a k' b
    cases hx; cases hy
    rw [eqGuard_quiet (by simp) (by simp)]
    simp only [Sem.run_bind, Sem.run_pure, Result.andThen_ok]
    split at h
    · exact shiftBin_sound h (.inl rfl) w
    · exact shiftBin_sound h (.inr rfl) w
    · split at h
      · rename_i hk; subst hk; exact intBin_sound h w
      · cases h
  · rename_i a b
    cases hx; cases hy
    rw [eqGuard_quiet (by simp) (by simp)]
    simp only [Sem.run_bind, Sem.run_pure, Result.andThen_ok]
    exact strBin_sound h w
  · cases h
  · cases h
  · rename_i h1 h2 h3 h4
    have n1 : ∀ k a k' b, ¬ (x' = .int k a ∧ y' = .int k' b) := by
      rintro k a k' b ⟨rfl, rfl⟩
      have e1 := hx.int_inv; have e2 := hy.int_inv; subst e1; subst e2; clear h hx hy
      simp_all
      exact h3 _ _ _ _ rfl rfl rfl rfl
    have n2 : ∀ a b, ¬ (x' = .string a ∧ y' = .string b) := by
      rintro a b ⟨rfl, rfl⟩
      have e1 := hx.string_inv; have e2 := hy.string_inv; subst e1; subst e2; clear h hx hy; simp_all
    have n3 : ∀ k a, x' ≠ .float k a := by
      rintro k a rfl
      have e1 := hx.float_inv; subst e1; clear h hx hy; simp_all
    have n4 : ∀ k a b, x' ≠ .complex k a b := by
      rintro k a b rfl
      have e1 := hx.complex_inv; subst e1; clear h hx hy; simp_all
    split at h
    · split at h
      · rename_i hg
        split at h
        · rename_i r he
          cases h
          have := eqV_sound eqDepth 10000 t x y r x' y' w (by decide) he hx hy
          refine ⟨?_, .bool _⟩
          simp only [Sem.run_bind, guard_sound hg hx hy w, Result.andThen_ok, binOp_eql_other n1 n2 n3 n4, Op.equal, Op.maxDepth, this, Sem.run_pure]
        · cases h
      · cases h
    · split at h
      · rename_i hg
        split at h
        · rename_i r he
          cases h
          have := eqV_sound eqDepth 10000 t x y r x' y' w (by decide) he hx hy
          refine ⟨?_, .bool _⟩
          simp only [Sem.run_bind, guard_sound hg hx hy w, Result.andThen_ok, binOp_neq_other n1 n2 n3 n4, Op.equal, Op.maxDepth, this, Sem.run_pure]
        · cases h
      · cases h
    · cases h

theorem unV_sound {ρ : Rmap} {op : UnOp} {x v x' : Value} (h : unV op x = some v) (hx : VR ρ x x') (w : World) : (Op.unary op x').run P w = .ok v w ∧ Flat v := by
  unfold unV at h
  split at h
  · cases h; cases hx; exact ⟨by simp [Op.unary, Op.intArith], .int _ _⟩
  · rename_i k n
    cases hx
    simp only [intBin] at h
    cases h
    exact ⟨by simp [Op.unary, Op.intBits], .int _ _⟩
  · cases h; cases hx; exact ⟨by simp [Op.unary], .bool _⟩
  · cases h

/-! ### Building -/
def PartsR (ρ : Rmap) (l l' : List (Nat × Value)) : Prop := l.map (·.1) = l'.map (·.1) ∧ VRs ρ (l.map (·.2)) (l'.map (·.2))
theorem PartsR.cons_inv {ρ : Rmap} {i : Nat} {v : Value} {l k : List (Nat × Value)} (h : PartsR ρ ((i, v) :: l) k) : ∃ v' l', k = (i, v') :: l' ∧ VR ρ v v' ∧ PartsR ρ l l' := by
  cases k with
  | nil => simp [PartsR] at h
  | cons x l' =>
    obtain ⟨j, v'⟩ := x
    obtain ⟨h1, h2⟩ := h
    simp only [List.map_cons, List.cons.injEq] at h1 h2
    obtain ⟨rfl, h1⟩ := h1
    exact ⟨v', l', rfl, h2.head, h1, h2.tail⟩
theorem PartsR.nil_inv {ρ : Rmap} {k : List (Nat × Value)} (h : PartsR ρ [] k) : k = [] := by
  cases k with
  | nil => rfl
  | cons x l' => simp [PartsR] at h

theorem foldSet : ∀ (l : List Value) (off k : Nat) (cs : Array Value), off + k + l.length ≤ cs.size →
    ((l.zipIdx k).foldl (fun cs (x : Value × Nat) => cs.setIfInBounds (off + x.2) x.1) cs).size = cs.size ∧
    ∀ j : Nat, ((l.zipIdx k).foldl (fun cs (x : Value × Nat) => cs.setIfInBounds (off + x.2) x.1) cs)[j]? = if off + k ≤ j ∧ j < off + k + l.length then l[j - (off + k)]? else cs[j]?
  | [], off, k, cs, _ => ⟨rfl, fun j => by simp; omega⟩
  | v :: l, off, k, cs, h => by
    simp only [List.length_cons] at h
    obtain ⟨h1, h2⟩ := foldSet l off (k + 1) (cs.setIfInBounds (off + k) v) (by simp; omega)
    simp only [List.zipIdx_cons, List.foldl_cons]
    refine ⟨by rw [h1]; simp, fun j => ?_⟩
    rw [h2 j]
    by_cases hj : j = off + k
    · subst hj
      rw [if_neg (by omega), if_pos (by simp only [List.length_cons]; omega)]
      simp [Array.getElem?_setIfInBounds]
      omega
    · by_cases hc : off + k ≤ j ∧ j < off + k + (l.length + 1)
      · rw [if_pos (by omega), if_pos (by simp only [List.length_cons]; omega), show j - (off + k) = (j - (off + (k + 1))) + 1 by omega]
        simp
      · rw [if_neg (by omega), if_neg (by simp only [List.length_cons]; omega), Array.getElem?_setIfInBounds, if_neg (by omega)]

theorem fill_sound {ρ : Rmap} {place place' : Nat → Option (Nat × Nat)} (hp : ∀ i, place i = place' i) : ∀ (parts parts' : List (Nat × Value)) (c c1 : List Value) (c' : Array Value), fillL place c parts = some c1 →
    VRs ρ c c'.toList → PartsR ρ parts parts' → ∃ c1', Instr.fill place' c' parts' = some c1' ∧ VRs ρ c1 c1'.toList
  | [], parts', c, c1, c', h, hc, hr => by
    cases hr.nil_inv
    simp [fillL] at h; subst h
    exact ⟨c', rfl, hc⟩
  | (i, v) :: rest, parts', c, c1, c', h, hc, hr => by
    obtain ⟨v', rest', rfl, hv, hrest⟩ := hr.cons_inv
    unfold fillL at h
    split at h
    · cases h
    · rename_i off size hpl
      cases hg : (Nat.beq (cellsL v).length size && Nat.ble (off + size) c.length) with
      | false => rw [hg] at h; cases h
      | true =>
        rw [hg] at h
        simp only [cond_true] at h
        rw [Bool.and_eq_true] at hg
        have hlen := of_nbeq hg.1
        have hle : off + size ≤ c.length := Nat.le_of_ble_eq_true hg.2
        split at h
        · rename_i c2 hc2
          obtain ⟨s1, s2, s3⟩ := setN_spec _ _ _ _ hc2
          have hvc := hv.cells
          have hsz : v'.cells.size = size := by rw [← hlen, hvc.1, cellsL_eq]; simp
          have hcs : c'.size = c.length := by rw [hc.1]; simp
          obtain ⟨f1, f2⟩ := foldSet v'.cells.toList off 0 c' (by simp; omega)
          have hstep : v'.cells.zipIdx.foldl (fun cs (x : Value × Nat) => cs.setIfInBounds (off + x.2) x.1) c' = (v'.cells.toList.zipIdx 0).foldl (fun cs (x : Value × Nat) => cs.setIfInBounds (off + x.2) x.1) c' := by
            rw [← Array.foldl_toList]
            simp
          have hc2' : VRs ρ c2 ((v'.cells.toList.zipIdx 0).foldl (fun cs (x : Value × Nat) => cs.setIfInBounds (off + x.2) x.1) c').toList := by
            refine ⟨by rw [s1, Array.length_toList]; exact (f1.trans hcs).symm, fun j x x' hx hx' => ?_⟩
            rw [s3] at hx
            rw [Array.getElem?_toList, f2] at hx'
            rw [cellsL_eq v'] at hvc
            by_cases hin : off ≤ j ∧ j < off + (cellsL v).length
            · rw [if_pos hin] at hx
              rw [if_pos (by simp; omega)] at hx'
              exact hvc.2 _ _ _ hx (by simpa using hx')
            · rw [if_neg hin] at hx
              rw [if_neg (by simp; omega)] at hx'
              exact hc.2 _ _ _ hx (by rw [Array.getElem?_toList]; exact hx')
          obtain ⟨c1', a1, a2⟩ := fill_sound hp rest rest' c2 c1 _ h hc2' hrest
          refine ⟨c1', ?_, a2⟩
          have hb1 : (v'.cells.size != size || decide (off + v'.cells.size > c'.size)) = false := by
            simp only [Bool.or_eq_false_iff, decide_eq_false_iff_not, hsz, hcs]
            exact ⟨by simp, by omega⟩
          simp only [Instr.fill, ← hp i, hpl]
          rw [if_neg (by simp; omega), hstep]
          exact a1
        · cases h

theorem zero_vr {ρ : Rmap} {t : TypeId} {c : List Value} (h : zeroOf P t = some c) : ∃ i z, P.info? t = some i ∧ i.zero = some z ∧ VRs ρ c z.cells.toList ∧ zeroV P t = some z := by
  obtain ⟨z, hz, rfl, hf⟩ := zeroOf_spec h
  obtain ⟨i, hi, hzz, _⟩ := zeroV_spec hz
  have := (hf.refl ρ).cells
  exact ⟨i, z, hi, hzz, by rw [← cellsL_eq]; exact this, hz⟩

theorem build_sound {ρ : Rmap} {t : TypeId} {parts : List (Nat × Value)} {parts' : Array (Nat × Value)} {v : Value} (h : buildV P t parts = some v) (hp : PartsR ρ parts parts'.toList) (w : World) :
    ∃ v', (Instr.build t parts').run P w = .ok v' w ∧ VR ρ v v' := by
  unfold buildV at h
  split at h
  · rename_i z fields hz hu
    split at h
    · rename_i places hpl
      split at h
      · rename_i c hc
        cases h
        obtain ⟨i, zz, hi, hzz, hvr, _⟩ := zero_vr (ρ := ρ) hz
        obtain ⟨c1', a1, a2⟩ := fill_sound (place' := (places.toArray[·]?)) (fun i => by rw [nth_eq]; simp) _ _ _ _ _ hc hvr hp
        exact ⟨.agg c1', run_build w t parts' c1' (by simp only [Program.built, hi, hu, hzz, hpl]; exact a1), VR.agg' (l := c) (l' := c1'.toList) a2⟩
      · cases h
    · cases h
  · rename_i z n elem hz hu
    split at h
    · rename_i size hsz
      split at h
      · rename_i c hc
        cases h
        obtain ⟨i, zz, hi, hzz, hvr, _⟩ := zero_vr (ρ := ρ) hz
        obtain ⟨ie, hie, rfl⟩ := szOf_info hsz
        obtain ⟨c1', a1, a2⟩ := fill_sound (place' := fun i => some (i * ie.size, ie.size)) (fun i => rfl) _ _ _ _ _ hc hvr hp
        exact ⟨.agg c1', run_build w t parts' c1' (by simp only [Program.built, hi, hu, hzz, hie]; exact a1), VR.agg' (l := c) (l' := c1'.toList) a2⟩
      · cases h
    · cases h
  · cases h

end Go.Cm
