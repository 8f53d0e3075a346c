/-
  CM, part 4: operations on values.
-/
import Derived.Test.YtfoonohjjeofhaaGreatDoorCmMem
import Derived.LaidEql
namespace Go.Cm
open Go
variable {P : Program}

/-! ### Bytes -/
theorem sameBytes_eq : ∀ a b : List UInt8, sameBytes a b = (a == b)
  | [], [] => rfl
  | [], _ :: _ => rfl
  | _ :: _, [] => rfl
  | x :: a, y :: b => by
    simp only [sameBytes, List.cons_beq_cons]
    by_cases h : x = y
    · subst h; simp [sameBytes_eq a b]
    · have : Nat.beq x.toNat y.toNat = false := nbeq_ff (fun e => h (UInt8.toNat_inj.1 e))
      simp [this, h]
theorem lessBytes_eq : ∀ a b : List UInt8, lessBytes a b = Op.bytesLess a b
  | [], [] => rfl
  | [], _ :: _ => rfl
  | _ :: _, [] => rfl
  | x :: a, y :: b => by
    simp only [lessBytes, Op.bytesLess]
    by_cases h : x < y
    · have : Nat.blt x.toNat y.toNat = true := by rw [Nat.blt_eq]; exact UInt8.lt_iff_toNat_lt.1 h
      simp [this, h]
    · have h1 : Nat.blt x.toNat y.toNat = false := by
        cases hb : Nat.blt x.toNat y.toNat with
        | false => rfl
        | true => rw [Nat.blt_eq] at hb; exact absurd (UInt8.lt_iff_toNat_lt.2 hb) h
      by_cases e : x = y
      · subst e; simp [h1, h, lessBytes_eq a b]
      · have h2 : Nat.beq x.toNat y.toNat = false := nbeq_ff (fun k => e (UInt8.toNat_inj.1 k))
        simp [h1, h2, h, e]

/-! ### Integers, strings -/
theorem intBin_sound {op : BinOp} {t : TypeId} {k : IntKind} {a b : Int} {v : Value} (h : intBin op k a b = some v) (w : World) : (binOp op t (.int k a) (.int k b)).run P w = .ok v w ∧ Flat v := by
  cases op <;> simp only [intBin] at h
  case quo => split at h; · cases h
              · rename_i hb; cases h; exact ⟨by simp [binOp, Op.intDiv, hb], .int _ _⟩
  case rem => split at h; · cases h
              · rename_i hb; cases h; exact ⟨by simp [binOp, Op.intDiv, hb], .int _ _⟩
  all_goals first
    | (cases h; done)
    | (cases h; exact ⟨by simp [binOp, Op.intArith, Op.intBits, Op.intCmp], by first | exact .int _ _ | exact .bool _⟩)

theorem shiftBin_sound {op : BinOp} {t : TypeId} {k k' : IntKind} {a b : Int} {v : Value} (h : shiftBin op k a b = some v) (ho : op = .shl ∨ op = .shr) (w : World) :
    (binOp op t (.int k a) (.int k' b)).run P w = .ok v w ∧ Flat v := by
  unfold shiftBin at h
  split at h
  · cases h
  · rename_i hb
    rcases ho with rfl | rfl <;> (simp only at h; cases h; exact ⟨by simp [binOp, Op.shift, hb], .int _ _⟩)

theorem bytes_append (a b : ByteArray) : (a ++ b) = ⟨(a.data.toList ++ b.data.toList).toArray⟩ := by
  apply ByteArray.ext
  apply Array.ext'
  simp

theorem strBin_sound {op : BinOp} {t : TypeId} {a b : ByteArray} {v : Value} (h : strBin op a b = some v) (w : World) : (binOp op t (.string a) (.string b)).run P w = .ok v w ∧ Flat v := by
  cases op <;> simp only [strBin] at h
  case add =>
    split at h
    · cases h
    · rename_i hb
      cases h
      refine ⟨?_, .string _⟩
      have : ¬ (((a.size + b.size : Nat) : Int) > IntKind.i64.max) := by rw [IntKind.max_i64]; omega
      simp only [binOp, Op.stringOp, this, if_false]
      simp [bytes_append]
  all_goals first
    | (cases h; done)
    | (cases h; exact ⟨by simp [binOp, Op.stringOp, sameBytes_eq, lessBytes_eq, ByteArray.toList_eq], .bool _⟩)

/-! ### '==' -/
theorem eqFields_sound {ρ : Rmap} {eq : TypeId → Value → Value → Option Bool} {D : Nat}
    (heq : ∀ t x y r x' y' (w : World), eq t x y = some r → VR ρ x x' → VR ρ y y' → (Op.equalIn D t x' y').run P w = .ok r w) {xs ys : List Value} {xs' ys' : Array Value}
    (hx : VRs ρ xs xs'.toList) (hy : VRs ρ ys ys'.toList) (w : World) : ∀ (fs : List Field) (r : Bool), eqFields P eq xs ys fs = some r → (Op.eqFields D xs' ys' fs).run P w = .ok r w
  | [], r, h => by simp [eqFields] at h; subst h; simp [Op.eqFields]
  | f :: fs, r, h => by
    unfold eqFields at h
    split at h
    · rename_i hn
      have := eqFields_sound heq hx hy w fs r h
      simp [Op.eqFields, hn, this]
    · rename_i hn
      split at h
      · rename_i x y hpx hpy
        obtain ⟨x', a1, a2⟩ := part_sound hpx hx w
        obtain ⟨y', b1, b2⟩ := part_sound hpy hy w
        split at h
        · rename_i he
          have e1 := heq _ _ _ _ _ _ w he a2 b2
          have := eqFields_sound heq hx hy w fs r h
          simp [Op.eqFields, hn, a1, b1, e1, this]
        · rename_i hne
          cases r with
          | true => exact absurd h hne
          | false =>
            have e1 := heq _ _ _ _ _ _ w h a2 b2
            simp [Op.eqFields, hn, a1, b1, e1]
      · cases h

theorem eqElems_sound {ρ : Rmap} {eq : TypeId → Value → Value → Option Bool} {D : Nat} {elem : TypeId} {size : Nat}
    (heq : ∀ t x y r x' y' (w : World), eq t x y = some r → VR ρ x x' → VR ρ y y' → (Op.equalIn D t x' y').run P w = .ok r w) {xs ys : List Value} {xs' ys' : Array Value}
    (hx : VRs ρ xs xs'.toList) (hy : VRs ρ ys ys'.toList) (w : World) : ∀ (n i : Nat) (r : Bool), eqElems P eq elem size xs ys n i = some r → (Op.eqItems D elem size xs' ys' (List.range' i n)).run P w = .ok r w
  | 0, i, r, h => by simp [eqElems] at h; subst h; simp [Op.eqItems]
  | n + 1, i, r, h => by
    unfold eqElems at h
    split at h
    · rename_i x y hpx hpy
      obtain ⟨x', a1, a2⟩ := part_sound hpx hx w
      obtain ⟨y', b1, b2⟩ := part_sound hpy hy w
      split at h
      · rename_i he
        have e1 := heq _ _ _ _ _ _ w he a2 b2
        have := eqElems_sound heq hx hy w n (i + 1) r h
        simp [List.range'_succ, Op.eqItems, a1, b1, e1, this]
      · rename_i hne
        cases r with
        | true => exact absurd h hne
        | false =>
          have e1 := heq _ _ _ _ _ _ w h a2 b2
          simp [List.range'_succ, Op.eqItems, a1, b1, e1]
    · cases h

theorem fieldsOf_und {t : TypeId} {fs : Array Field} (h : P.underlying t = some (.struct fs)) : P.fieldsOf t = fs := by simp [Program.fieldsOf, h]

set_option maxHeartbeats 4000000 in
theorem eqV_sound {ρ : Rmap} : ∀ (d D : Nat) (t : TypeId) (x y : Value) (r : Bool) (x' y' : Value) (w : World), d ≤ D → eqV P d t x y = some r → VR ρ x x' → VR ρ y y' →
    (Op.equalIn D t x' y').run P w = .ok r w
  | 0, _, _, _, _, _, _, _, _, _, h, _, _ => by simp [eqV] at h
  | d + 1, D, t, x, y, r, x', y', w, hD, h, hx, hy => by
    obtain ⟨D, rfl⟩ : ∃ k, D = k + 1 := ⟨D - 1, by omega⟩
    have ih : ∀ t x y r x' y' (w : World), eqV P d t x y = some r → VR ρ x x' → VR ρ y y' → (Op.equalIn D t x' y').run P w = .ok r w :=
      fun t x y r x' y' w h hx hy => eqV_sound d D t x y r x' y' w (by omega) h hx hy
    unfold eqV at h
    split at h
    · rename_i hu
      split at h
      · cases h; cases hx; cases hy; simp [Op.equalIn, run_und w hu]
      · cases h
    · rename_i k0 hu
      split at h
      · split at h
        · rename_i hk; cases h; subst hk; cases hx; cases hy; simp [Op.equalIn, run_und w hu]
        · cases h
      · cases h
    · rename_i hu
      split at h
      · cases h; cases hx; cases hy; simp [Op.equalIn, run_und w hu, sameBytes_eq, beq_toListBytes, ByteArray.toList_eq]
      · cases h
    · rename_i e hu
      split at h
      · cases h; cases hx; cases hy <;> simp [Op.equalIn, run_und w hu]
      · rename_i hnn
        cases h
        cases hy
        cases hx with
        | pnil => first | exact (hnn _ rfl).elim | exact (hnn rfl).elim | exact hnn.elim | exact (hnn _ rfl rfl).elim | simp at hnn
        | ptr hb => simp [Op.equalIn, run_und w hu]
      · rename_i b o b' o'
        cases hc : (Nat.beq b b' && Nat.beq o o' && (P.info? e).isSome) with
        | false => rw [hc] at h; cases h
        | true =>
          rw [hc] at h
          simp only [cond_true, Option.some.injEq] at h
          subst h
          simp only [Bool.and_eq_true] at hc
          obtain ⟨⟨h1, h2⟩, h3⟩ := hc
          have h1 := of_nbeq h1
          have h2 := of_nbeq h2
          subst h1 h2
          obtain ⟨j, hj⟩ := Option.isSome_iff_exists.1 h3
          cases hx with
          | ptr hb => cases hy with
            | ptr hb' =>
              rw [hb] at hb'
              cases hb'
              simp [Op.equalIn, run_und w hu, sizeOf, run_info w hj, run_sameAddr_same]
      · cases h
    · rename_i ms hu
      split at h
      · cases h; cases hx; cases hy; simp [Op.equalIn, run_und w hu]
      · cases h; cases hx; cases hy; simp [Op.equalIn, run_und w hu]
      · cases h; cases hx; cases hy; simp [Op.equalIn, run_und w hu]
      · rename_i tx vx ty vy
        cases hx with
        | iface _ hvx => cases hy with
          | iface _ hvy =>
            split at h
            · rename_i hne; cases h; simp [Op.equalIn, run_und w hu, hne]
            · rename_i hne
              have hne' : tx = ty := by simpa using hne
              subst hne'
              split at h
              · rename_i i hi
                split at h
                · rename_i hcmp
                  have := ih _ _ _ _ _ _ w h hvx hvy
                  simp [Op.equalIn, run_und w hu, run_info w hi, hcmp, this]
                · cases h
              · cases h
      · cases h
    · rename_i fields hu
      split at h
      · split at h
        · cases h
        · rename_i hst
          obtain ⟨xa, rfl, hxa⟩ := hx.agg_inv
          obtain ⟨ya, rfl, hya⟩ := hy.agg_inv
          rw [run_equalIn_struct w D t xa ya (by rw [fieldsOf_und hu]; exact hu) (by simpa using hst), fieldsOf_und hu]
          exact eqFields_sound ih hxa hya w _ _ h
      · cases h
    · rename_i len elem hu
      split at h
      · split at h
        · rename_i n hn
          obtain ⟨xa, rfl, hxa⟩ := hx.agg_inv
          obtain ⟨ya, rfl, hya⟩ := hy.agg_inv
          obtain ⟨i, hi, hsz⟩ := szOf_info hn
          rw [run_equalIn_array w D xa ya hu hi, List.range_eq_range']
          have hc : P.cellsOf elem = n := by simp [Program.cellsOf, hi, hsz]
          rw [hc]
          exact eqElems_sound ih hxa hya w _ _ _ h
        · cases h
      · cases h
    · rename_i e hu
      split at h
      · cases h; cases hx; cases hy <;> simp [Op.equalIn, run_und w hu]
      · rename_i hnn
        cases h
        cases hy
        cases hx with
        | snil => first | exact (hnn _ _ rfl).elim | exact (hnn rfl).elim | exact hnn.elim | exact (hnn _ _ _ rfl rfl).elim | simp at hnn
        | slice => simp [Op.equalIn, run_und w hu]
      · cases h
    · rename_i k e hu
      split at h
      · cases h; cases hx; cases hy <;> simp [Op.equalIn, run_und w hu]
      · rename_i hnn
        cases h
        cases hy
        cases hx with
        | mnil => first | exact (hnn _ rfl).elim | exact (hnn rfl).elim | exact hnn.elim | exact (hnn _ rfl rfl).elim | simp at hnn
        | map => simp [Op.equalIn, run_und w hu]
      · cases h
    · rename_i ps rs vr hu
      split at h
      · cases h; cases hx; cases hy; simp [Op.equalIn, run_und w hu]
      · cases h; cases hx; cases hy <;> simp [Op.equalIn, run_und w hu]
      · cases h; cases hy; cases hx <;> simp [Op.equalIn, run_und w hu]
      · cases h
    · cases h

end Go.Cm
