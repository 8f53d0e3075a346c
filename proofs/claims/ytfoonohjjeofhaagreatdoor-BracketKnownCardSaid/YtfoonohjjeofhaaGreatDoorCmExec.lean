/-
  CM, part 14: code.
-/
import Derived.Test.YtfoonohjjeofhaaGreatDoorCmCode
import Derived.Scope
import Derived.RangeFuncNested
namespace Go.Cm
open Go
variable {P : Program} {w0 : Base} {K : Known}

section
variable {F : Fence} {n : Nat} {b : Frame} {a : Act} {k : List Item} {cs : List Frame} {w : World} {Q : Exit → Act → World → Prop}
theorem stepR_scope {c : Code} : step P (lone (b.atR a (.code (.scope c) :: k)) cs w) = .next (lone (b.atR a (.code c :: .inScope c :: k)) cs w) :=
  step_lone_go (by simp [stepG, stepG.exec, Frame.atR])
theorem stepR_inScope {c : Code} : step P (lone (b.atR a (.inScope c :: k)) cs w) = .next (lone (b.atR a k) cs w) :=
  step_lone_go (by simp [stepG, stepG.exec, Frame.atR])
theorem wpIn_scope_straight {c : Code} (h : c.wpIn F n P (Exit.noGoto Q) a w) : (Code.scope c).wpIn F n P Q a w := by
  intro b k cs hro hb hr
  have h0 : (lone (b.atR a (.code (.scope c) :: k)) cs w).fenced P F := fenced_calm hb hr rfl
  obtain ⟨e, a₁, w₁, hq, harr⟩ := h b (.inScope c :: k) cs hro hb hr
  cases e with
  | normal => exact ⟨.normal, a₁, w₁, hq, .head h0 stepR_scope (StepsIn.trans harr (.one (fenced_calm hb hr rfl) stepR_inScope))⟩
  | exit id =>
    have hx : exitTo id (.inScope c :: k) = exitTo id k := by simp [exitTo]
    exact ⟨_, a₁, w₁, hq, fun k' hk => .head h0 stepR_scope (harr.1 k' (by rw [hx]; exact hk)),
      fun hr' hk => let ⟨k₁, h1, h2⟩ := harr.2 hr' (by rw [hx]; exact hk); ⟨k₁, h1, .head h0 stepR_scope h2⟩⟩
  | goto l => exact hq.elim
  | ret => exact ⟨_, a₁, w₁, hq, .of_steps (.one h0 stepR_scope) harr⟩
  | panic ch => exact ⟨_, a₁, w₁, hq, .of_steps (.one h0 stepR_scope) harr⟩
  | outgrown => exact ⟨_, a₁, w₁, hq, .of_steps (.one h0 stepR_scope) harr⟩
end

/-- the soundness of regions that draw their order -/
def DrawSound (P : Program) (w0 : Base) (ih : Fns) : Prop :=
  ∀ (id : Nat) (ops : Array Oper) (a : Ca) (S : St) (e : Exit) (a1 : Ca) (S1 : St), runDraw P ih ops.toList a S = some (e, a1, S1) → constsOk P ops.toList = true →
    ∀ (ro : Option Nat) (ρ : Rmap) (w : World) (ar : Act), Sim P w0 ρ S w → ActR ρ a ar → (Code.region id ops true).wpIn (FW ro) 0 P (ExitGood P w0 ρ e a1 S1) ar w

/-- the soundness of ranges over functions -/
def RangeSound (P : Program) (w0 : Base) (ih : Fns) : Prop :=
  ∀ (ro : Option Nat) (g : Operand) (ps : Array Tmp) (x y : Code) (a : Ca) (S : St) (e : Exit) (a1 : Ca) (S1 : St), execF P ih ro (.rangeFunc g ps x y) a S = some (e, a1, S1) →
    ∀ (ρ : Rmap) (w : World) (ar : Act) (ro' : Option Nat), Sim P w0 ρ S w → ActR ρ a ar → RoR ρ ro ro' → (Code.rangeFunc g ps x y).wpIn (FW ro') 0 P (ExitGood P w0 ρ e a1 S1) ar w

theorem bool_ev {ρ : Rmap} {a : Ca} {ar : Act} (h : ActR ρ a ar) {c : Operand} {t : Bool} (hc : a.ev c = .bool t) : ar.eval c = .bool t := by
  cases c with
  | tmp i =>
    have hv := h.get i
    have hc' : a.get i = .bool t := hc
    rw [hc'] at hv
    show ar.tmps.getD i undef = .bool t
    generalize ar.tmps.getD i undef = u at hv
    cases hv; rfl
  | const v => exact hc
  | global g => cases hc
  | func f => cases hc

theorem exec_sound {n : Nat} (hall : ∀ m, m ≤ n → FnsSound P w0 (fns P K m)) (hd : DrawSound P w0 (fns P K n)) (hr : RangeSound P w0 (fns P K n)) :
    ∀ ro c a S e a' S', execF P (fns P K n) ro c a S = some (e, a', S') → ∀ ρ w ar ro', Sim P w0 ρ S w → ActR ρ a ar → RoR ρ ro ro' → c.wpIn (FW ro') 0 P (ExitGood P w0 ρ e a' S') ar w := by
  intro ro c a S e a1 S1 h ρ w ar ro' hs ha hro
  have hih := hall n (Nat.le_refl _)
  cases c with
  | skip =>
    simp only [execF, Option.some.injEq, Prod.mk.injEq] at h
    obtain ⟨rfl, rfl, rfl⟩ := h
    exact wpIn_skip ⟨ρ, Ext.refl _, .normal, ha, hs⟩
  | label l =>
    simp only [execF, Option.some.injEq, Prod.mk.injEq] at h
    obtain ⟨rfl, rfl, rfl⟩ := h
    exact wpIn_label ⟨ρ, Ext.refl _, .normal, ha, hs⟩
  | exit id =>
    simp only [execF, Option.some.injEq, Prod.mk.injEq] at h
    obtain ⟨rfl, rfl, rfl⟩ := h
    exact wpIn_exit ⟨ρ, Ext.refl _, .exit id, ha, hs⟩
  | ret =>
    simp only [execF, Option.some.injEq, Prod.mk.injEq] at h
    obtain ⟨rfl, rfl, rfl⟩ := h
    exact wpIn_ret ⟨ρ, Ext.refl _, .ret, ha, hs⟩
  | region id ops draw =>
    simp only [execF] at h
    cases hc : constsOk P ops.toList with
    | false => rw [hc] at h; cases h
    | true =>
      rw [hc] at h
      cases draw with
      | false => exact region_sound hih h hc hs ha
      | true => exact hd id ops a S e a1 S1 h hc ro' ρ w ar hs ha
  | seq x y =>
    simp only [execF] at h
    refine wpIn_seq ?_
    split at h
    · rename_i a2 S2 hx
      refine wpIn_mono (hih.exec _ _ _ _ _ _ _ hx ρ w ar ro' hs ha hro) ?_
      rintro e2 ar2 w2 ⟨ρ2, h1, h2, h3, h4⟩
      cases h2
      exact wpIn_mono (hih.exec _ _ _ _ _ _ _ h ρ2 w2 ar2 ro' h4 h3 (hro.mono h1)) fun _ _ _ hg => hg.mono h1
    · rename_i hne
      refine wpIn_mono (hih.exec _ _ _ _ _ _ _ h ρ w ar ro' hs ha hro) ?_
      rintro e2 ar2 w2 ⟨ρ2, h1, h2, h3, h4⟩
      cases h2 with
      | normal => exact absurd h (hne _ _)
      | exit id => exact ⟨ρ2, h1, .exit id, h3, h4⟩
      | ret => exact ⟨ρ2, h1, .ret, h3, h4⟩
      | pan hp => exact ⟨ρ2, h1, .pan hp, h3, h4⟩
  | cond c x y =>
    simp only [execF] at h
    split at h
    · rename_i t hc
      refine wpIn_cond (bool_ev ha hc) ?_
      cases t <;> exact hih.exec _ _ _ _ _ _ _ h ρ w ar ro' hs ha hro
    · cases h
  | block id c =>
    simp only [execF] at h
    refine wpIn_block ?_
    split at h
    · rename_i j a2 S2 hx
      refine wpIn_mono (hih.exec _ _ _ _ _ _ _ hx ρ w ar ro' hs ha hro) ?_
      rintro e2 ar2 w2 ⟨ρ2, h1, h2, h3, h4⟩
      cases h2
      unfold Exit.inBlock
      cases hj : Nat.beq j id with
      | true =>
        rw [hj] at h
        simp only [cond_true, Option.some.injEq, Prod.mk.injEq] at h
        obtain ⟨rfl, rfl, rfl⟩ := h
        have : j = id := Nat.eq_of_beq_eq_true hj
        simp only [this, if_true]
        exact ⟨ρ2, h1, .normal, h3, h4⟩
      | false =>
        rw [hj] at h
        simp only [cond_false, Option.some.injEq, Prod.mk.injEq] at h
        obtain ⟨rfl, rfl, rfl⟩ := h
        have : j ≠ id := Nat.ne_of_beq_eq_false hj
        simp only [this, if_false]
        exact ⟨ρ2, h1, .exit j, h3, h4⟩
    · rename_i hne
      refine wpIn_mono (hih.exec _ _ _ _ _ _ _ h ρ w ar ro' hs ha hro) ?_
      rintro e2 ar2 w2 ⟨ρ2, h1, h2, h3, h4⟩
      cases h2 with
      | normal => exact ⟨ρ2, h1, .normal, h3, h4⟩
      | exit id => exact absurd h (hne _ _ _)
      | ret => exact ⟨ρ2, h1, .ret, h3, h4⟩
      | pan hp => exact ⟨ρ2, h1, .pan hp, h3, h4⟩
  | loop c =>
    refine wpIn_loop_ghost (fun m ar w => m ≤ n ∧ ∃ a S ρ1, Ext ρ ρ1 ∧ execF P (fns P K m) ro (.loop c) a S = some (e, a1, S1) ∧ Sim P w0 ρ1 S w ∧ ActR ρ1 a ar) n ⟨Nat.le_refl _, a, S, ρ, Ext.refl _, h, hs, ha⟩ ?_
    rintro m ar w ⟨hm, a, S, ρ1, hx1, h, hs, ha⟩
    have hih := hall m hm
    have hro1 := hro.mono hx1
    simp only [execF] at h
    split at h
    · rename_i a2 S2 hx
      refine wpIn_mono (hih.exec _ _ _ _ _ _ _ hx ρ1 w ar ro' hs ha hro1) ?_
      rintro e2 ar2 w2 ⟨ρ2, h1, h2, h3, h4⟩
      cases h2
      cases m with
      | zero => cases h
      | succ m => exact ⟨m, Nat.lt_succ_self _, by omega, a2, S2, ρ2, hx1.trans h1, h, h4, h3⟩
    · rename_i hne
      refine wpIn_mono (hih.exec _ _ _ _ _ _ _ h ρ1 w ar ro' hs ha hro1) ?_
      rintro e2 ar2 w2 ⟨ρ2, h1, h2, h3, h4⟩
      cases h2 with
      | normal => exact absurd h (hne _ _)
      | exit id => exact ⟨ρ2, hx1.trans h1, .exit id, h3, h4⟩
      | ret => exact ⟨ρ2, hx1.trans h1, .ret, h3, h4⟩
      | pan hp => exact ⟨ρ2, hx1.trans h1, .pan hp, h3, h4⟩
  | scope c =>
    simp only [execF] at h
    refine wpIn_scope_straight ?_
    split at h
    · cases h
    · refine wpIn_mono (hih.exec _ _ _ _ _ _ _ h ρ w ar ro' hs ha hro) ?_
      rintro e2 ar2 w2 ⟨ρ2, h1, h2, h3, h4⟩
      cases h2 with
      | normal => exact ⟨ρ2, h1, .normal, h3, h4⟩
      | exit id => exact ⟨ρ2, h1, .exit id, h3, h4⟩
      | ret => exact ⟨ρ2, h1, .ret, h3, h4⟩
      | pan hp => exact ⟨ρ2, h1, .pan hp, h3, h4⟩
  | rangeFunc g ps x y => exact hr ro g ps x y a S e a1 S1 h ρ w ar ro' hs ha hro
  | goto l => cases h
  | refuse r => cases h

end Go.Cm
