/-
  CM, part 16: functions: marks, results.
-/
import Derived.Test.YtfoonohjjeofhaaGreatDoorCmRange
namespace Go.Cm
open Go
variable {P : Program} {w0 : Base} {K : Known}

theorem takeMarks_sound {F : Fence} {fn : Func} {tmps : Array Value} {R : Ending → World → Prop} {u : FrameMode} (hu : u ≠ .run) {ρ : Rmap} {S2 : St} (hfin : ∀ w2, Sim P w0 ρ S2 w2 → LeavesIn F 0 P fn tmps R [] u w2) :
    ∀ (ds : List Deferred) (S : St) (ds' : List Deferred) (w : World), takeMarks ds S = some S2 → DefsR ρ ds ds' → Sim P w0 ρ S w → LeavesInM F 0 P fn tmps R ds' u w := by
  intro ds
  induction ds with
  | nil =>
    intro S ds' w h hd hs
    cases hd
    simp only [takeMarks, Option.some.injEq] at h
    subst h
    exact hfin w hs
  | cons d ds ih =>
    intro S ds' w h hd hs
    cases hd with
    | cons h1 h2 =>
      rename_i d' l'
      obtain ⟨tg, as⟩ := d
      rcases h1 with ⟨r, L, hr, hL, hr'⟩ | ⟨f, cap, cap', hr, _⟩
      case inr =>
        simp only at hr
        subst hr
        simp only [takeMarks] at h
        cases h
      simp only at hr
      subst hr
      simp only [takeMarks] at h
      split at h
      · rename_i hB
        have hh : w.heap[L.r]? = some (.deferred (some [])) := hs.blk _ _ _ hL hB
        have hp := Sim.put hs (B' := .defs true) hL hB rfl (wput_putObj hh (o' := .deferred none)) rfl
        exact ⟨hu, .inl ⟨L.r, _, hr', run_takeDeferred hh, ih _ _ _ h h2 hp⟩⟩
      · cases h

theorem resultsL_sound {ρ : Rmap} {S : St} {w : World} (hs : Sim P w0 ρ S w) {a : Ca} {ar : Act} (ha : ActR ρ a ar) : ∀ (rs : List ResultVar) (vs : List Value), resultsL P a S rs = some vs →
    ∃ vs', (rs.mapM (m := Sem) fun | .tmp t => pure (ar.tmps.getD t undef) | .cell x t => do loadVar t (← asAddr (ar.tmps.getD x undef))).run P w = .ok vs' w ∧ VRs ρ vs vs' := by
  intro rs
  induction rs with
  | nil => intro vs h; simp only [resultsL, Option.some.injEq] at h; subst h; exact ⟨[], by simp, VRs.nil⟩
  | cons r rs ih =>
    intro vs h
    cases r with
    | tmp x =>
      simp only [resultsL] at h
      split at h
      · rename_i l hl
        cases h
        obtain ⟨vs', p, q⟩ := ih l hl
        exact ⟨ar.tmps.getD x undef :: vs', by simp only [List.mapM_cons, Sem.run_bind, Sem.run_pure, Result.andThen_ok, p], VRs.cons (ha.get x) q⟩
      · cases h
    | cell x e =>
      simp only [resultsL] at h
      split at h
      · rename_i v l hv hl
        cases h
        obtain ⟨vs', p, q⟩ := ih l hl
        obtain ⟨v', p1, q1⟩ := load_sound hs hv (ha.get x)
        refine ⟨v' :: vs', ?_, VRs.cons q1 q⟩
        have hp : ∃ ad, ar.tmps.getD x undef = .pointer (some ad) := by
          have hx := ha.get x
          unfold loadV at hv
          split at hv
          · rename_i b o hb
            rw [hb] at hx
            generalize ar.tmps.getD x undef = u at hx
            cases hx with
            | ptr _ => exact ⟨_, rfl⟩
          · cases hv
        obtain ⟨ad, hp⟩ := hp
        rw [hp] at p1
        have p2 : (loadVar e ad).run P w = .ok v' w := by simpa [Instr.loadAt, Instr.sureAddr] using p1
        have p3 : (asAddr (.pointer (some ad))).run P w = .ok ad w := by simp [asAddr]
        simp only [List.mapM_cons, Sem.run_bind, Sem.run_pure, hp, p3, p2, Result.andThen_ok, p]
      · cases h

end Go.Cm
