/-
  CM, part 13: regions in the order of the text.
-/
import Derived.Test.YtfoonohjjeofhaaGreatDoorCmCall
import Derived.TacticsIn
namespace Go.Cm
open Go
variable {P : Program} {w0 : Base} {K : Known}

/-- an operation's constants hold no addresses; its package-level variables are the program's -/
def OpC (P : Program) (o : Oper) : Prop := ∀ x, x ∈ o.op.operands → (match x with
    | .const v => flatV flatN v
    | .global g => Nat.blt g P.globals.size
    | _ => true) = true
theorem constsOk_spec {l : List Oper} (h : constsOk P l = true) : ∀ o, o ∈ l → OpC P o := by
  intro o ho x hx
  unfold constsOk at h
  rw [List.all_eq_true] at h
  have h1 := h o ho
  rw [List.all_eq_true] at h1
  exact h1 x (by simpa using hx)

theorem ActR.evs {ρ : Rmap} {S : St} {w : World} (hs : Sim P w0 ρ S w) {a : Ca} {ar : Act} (h : ActR ρ a ar) {o : Oper} (hc : OpC P o) : ∀ x, x ∈ o.op.operands → VR ρ (a.ev x) (ar.eval x) :=
  fun x hx => ev_sound hs h (hc x hx)

theorem runOps_sound {ih : Fns} (hih : FnsSound P w0 ih) {ops : Array Oper} {ro : Option Nat} {e : Exit} {a1 : Ca} {S1 : St} {Q : Exit → Act → World → Prop} :
    ∀ (rest : List Oper) (a : Ca) (S : St), runOps P ih ops.toList rest a S = some (e, a1, S1) → (∀ o, o ∈ rest → OpC P o) → ∀ (ρ : Rmap) (w : World) (ar : Act), Sim P w0 ρ S w → ActR ρ a ar →
      (∀ e' ar' w', ExitGood P w0 ρ e a1 S1 e' ar' w' → Q e' ar' w') → wpListIn (FW ro) 0 P ops Q rest ar w
  | [], a, S, h, _, ρ, w, ar, hs, ha, hQ => by
    simp only [runOps, Option.some.injEq, Prod.mk.injEq] at h
    obtain ⟨rfl, rfl, rfl⟩ := h
    exact hQ _ _ _ ⟨ρ, Ext.refl _, .normal, ha, hs⟩
  | o :: rest, a, S, h, hc, ρ, w, ar, hs, ha, hQ => by
    unfold runOps at h
    have hwant := wanted_sound ha (ops := ops) (o := o)
    unfold wpListIn
    rw [← hwant]
    cases hw : wantedC ops.toList a o with
    | false =>
      rw [hw] at h
      simp only [cond_false] at h
      split at h
      · rename_i a2 hp
        simp only [Bool.false_eq_true, if_false]
        exact ⟨about_wide, runOps_sound hih rest a2 S h (fun o ho => hc o (by simp [ho])) ρ w _ hs (ha.put hp (VR.undef _)) hQ⟩
      · cases h
    | true =>
      rw [hw] at h
      simp only [cond_true] at h
      simp only [if_true]
      refine ⟨about_wide, ?_⟩
      split at h
      · rename_i v S2 hst
        split at h
        · rename_i a2 hp
          refine step_sound hih hs (ha.evs hs (hc o (by simp))) hst ⟨?_, ?_⟩
          · intro v2 e2 ρ' v' w' h1 h2 h3
            cases e2
            exact runOps_sound hih rest a2 S2 h (fun o ho => hc o (by simp [ho])) ρ' w' _ h3 ((ha.mono h1).put hp h2) (fun e' ar' w' hg => hQ _ _ _ (hg.mono h1))
          · intro c e2; cases e2
        · cases h
      · rename_i ch S2 hst
        simp only [Option.some.injEq, Prod.mk.injEq] at h
        obtain ⟨rfl, rfl, rfl⟩ := h
        refine step_sound hih hs (ha.evs hs (hc o (by simp))) hst ⟨?_, ?_⟩
        · intro v2 e2; cases e2
        · intro c e2 ρ' c' w' h1 h2 h3
          cases e2
          exact hQ _ _ _ ⟨ρ', h1, .pan h2, ha.mono h1, h3⟩
      · cases h

theorem region_sound {ih : Fns} (hih : FnsSound P w0 ih) {id : Nat} {ops : Array Oper} {ro : Option Nat} {e : Exit} {a a1 : Ca} {S S1 : St} (h : runOps P ih ops.toList ops.toList a S = some (e, a1, S1)) (hc : constsOk P ops.toList = true)
    {ρ : Rmap} {w : World} {ar : Act} (hs : Sim P w0 ρ S w) (ha : ActR ρ a ar) : (Code.region id ops false).wpIn (FW ro) 0 P (ExitGood P w0 ρ e a1 S1) ar w :=
  wpIn_region_list (runOps_sound hih ops.toList a S h (constsOk_spec hc) ρ w ar hs ha fun _ _ _ h => h)

end Go.Cm
