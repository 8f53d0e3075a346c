/-
  CM, part 9: activations, regions in the order of the text, code, calls.
-/
import Derived.Test.YtfoonohjjeofhaaGreatDoorCmHeavy
import Derived.RangeFuncIn
import Derived.RangeFuncLeaves
import Derived.OrdersIn
import Derived.Sort.LoopGhostIn
namespace Go.Cm
open Go
variable {P : Program} {w0 : Base} {K : Known}

def DefR (ρ : Rmap) (d d' : Deferred) : Prop :=
  (∃ r L, d.target = .collected r ∧ ρ r = some L ∧ d'.target = .collected L.r) ∨
  (∃ f cap cap', d.target = .fn (.func f) cap ∧ d'.target = .fn (.func f) cap' ∧ VRs ρ cap.toList cap'.toList ∧ VRs ρ d.args.toList d'.args.toList)
theorem DefR.mono {ρ ρ' : Rmap} (e : Ext ρ ρ') {d d' : Deferred} (h : DefR ρ d d') : DefR ρ' d d' := by
  rcases h with ⟨r, L, a, b, c⟩ | ⟨f, c, c', a, b, p, q⟩
  · exact .inl ⟨r, L, a, e _ _ b, c⟩
  · exact .inr ⟨f, c, c', a, b, p.mono e, q.mono e⟩
inductive DefsR (ρ : Rmap) : List Deferred → List Deferred → Prop
  | nil : DefsR ρ [] []
  | cons {d d' : Deferred} {l l' : List Deferred} (h : DefR ρ d d') (k : DefsR ρ l l') : DefsR ρ (d :: l) (d' :: l')
theorem DefsR.mono {ρ ρ' : Rmap} (e : Ext ρ ρ') {l l' : List Deferred} (h : DefsR ρ l l') : DefsR ρ' l l' := by
  induction h with
  | nil => exact .nil
  | cons h _ ih => exact .cons (h.mono e) ih
theorem DefsR.append {ρ : Rmap} {a a' b b' : List Deferred} (h : DefsR ρ a a') (k : DefsR ρ b b') : DefsR ρ (a ++ b) (a' ++ b') := by
  induction h with
  | nil => exact k
  | cons h _ ih => exact .cons h ih

structure ActR (ρ : Rmap) (a : Ca) (ar : Act) : Prop where
  le : a.n ≤ 256
  tm : TmR ρ a.n a.t ar.tmps
  df : DefsR ρ a.defers ar.defers
theorem ActR.mono {ρ ρ' : Rmap} (e : Ext ρ ρ') {a : Ca} {ar : Act} (h : ActR ρ a ar) : ActR ρ' a ar := ⟨h.le, h.tm.mono e, h.df.mono e⟩

theorem get_eq (a : Ca) (i : Nat) : a.get i = getT a.t i := rfl
theorem ActR.get {ρ : Rmap} {a : Ca} {ar : Act} (h : ActR ρ a ar) (i : Nat) : VR ρ (a.get i) (ar.tmps.getD i undef) := h.tm.2 i

theorem TmR.set {ρ : Rmap} {n : Nat} {t : Tm} {tmps : Array Value} (h : TmR ρ n t tmps) {d : Nat} (hd : d < n) (hn : n ≤ 256) {v v' : Value} (hv : VR ρ v v') : TmR ρ n (PT.set t d (some v)) (tmps.setIfInBounds d v') := by
  refine ⟨by simpa using h.1, fun i => ?_⟩
  have hg : getT (PT.set t d (some v)) i = if i = d then v else getT t i := by
    unfold getT
    rw [PT.get_set_if _ _ _ (by omega)]
    by_cases e : i = d
    · simp [e]
    · simp [e]
  rw [hg, Array.getD_eq_getD_getElem?, Array.getElem?_setIfInBounds]
  by_cases e : i = d
  · subst e
    simp [h.1, hd, hv]
  · rw [if_neg e, if_neg (fun h => e h.symm), ← Array.getD_eq_getD_getElem?]
    exact h.2 i

theorem ActR.put {ρ : Rmap} {a a' : Ca} {ar : Act} (h : ActR ρ a ar) {dst : Option Tmp} {v v' : Value} (hp : a.put dst v = some a') (hv : VR ρ v v') : ActR ρ a' (ar.put dst v') := by
  unfold Ca.put at hp
  cases dst with
  | none => simp at hp; subst hp; exact h
  | some d =>
    simp only at hp
    cases hb : Nat.blt d a.n with
    | false => rw [hb] at hp; cases hp
    | true =>
      rw [hb] at hp
      simp only [cond_true, Option.some.injEq] at hp
      subst hp
      exact ⟨h.le, h.tm.set (nblt_tt hb) h.le hv, h.df⟩

theorem ev_sound {ρ : Rmap} {S : St} {w : World} (hs : Sim P w0 ρ S w) {a : Ca} {ar : Act} (h : ActR ρ a ar) {x : Operand} (hx : (match x with
    | .const v => flatV flatN v
    | .global g => Nat.blt g P.globals.size
    | _ => true) = true) : VR ρ (a.ev x) (ar.eval x) := by
  cases x with
  | tmp t => exact h.get t
  | const v => exact (flatV_spec _ _ hx).refl ρ
  | func f => exact (Flat.func f).refl ρ
  | global g =>
    obtain ⟨L, h1, h2, h3⟩ := hs.glob g (nblt_tt hx)
    have := VR.ptr (o := 0) h1
    rw [h2, h3] at this
    exact this

theorem wanted_sound {ρ : Rmap} {a : Ca} {ar : Act} (h : ActR ρ a ar) {ops : Array Oper} {o : Oper} : wantedC ops.toList a o = Region.wanted o (yielded ops ar.tmps) := by
  cases hg : o.guard with
  | none => simp [wantedC, Region.wanted, hg]
  | some q =>
    obtain ⟨j, wnt⟩ := q
    simp only [wantedC, Region.wanted, hg, nth_eq, Array.getElem?_toList, yielded]
    cases hj : ops[j]? with
    | none => simp
    | some oj =>
      simp only [Option.bind_some]
      cases hd : oj.dst with
      | none => simp
      | some d =>
        simp only [Option.bind_some]
        have hv := h.get d
        unfold Ca.get at hv
        cases hc : a.t.get d with
        | none =>
          rw [hc] at hv
          simp only at hv ⊢
          cases hr : ar.tmps[d]? with
          | none => simp
          | some x =>
            rw [Array.getD_eq_getD_getElem?, hr] at hv
            simp only [Option.getD_some] at hv
            cases x <;> first | rfl | (cases hv)
        | some v =>
          rw [hc] at hv
          simp only at hv
          cases hr : ar.tmps[d]? with
          | none =>
            rw [Array.getD_eq_getD_getElem?, hr] at hv
            simp only [Option.getD_none] at hv
            cases v <;> first | rfl | (cases hv)
          | some x =>
            rw [Array.getD_eq_getD_getElem?, hr] at hv
            simp only [Option.getD_some] at hv
            cases hv <;> first
              | rfl
              | (rename_i b; cases wnt <;> cases b <;> rfl)

end Go.Cm
