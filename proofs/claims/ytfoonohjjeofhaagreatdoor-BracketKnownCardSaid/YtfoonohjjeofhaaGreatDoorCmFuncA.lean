/-
  CM, part 17: functions are entered.
-/
import Derived.Test.YtfoonohjjeofhaaGreatDoorCmFunc
namespace Go.Cm
open Go
variable {P : Program} {w0 : Base} {K : Known}

/-- what is known of functions without a body -/
def ExtSound (P : Program) (K : Known) : Prop :=
  ∀ (w0 : Base) f args v fn S S', K.ext f args S = some (v, S') → P.funcs[f]? = some fn → fn.body = none → ∀ (ρ : Rmap) (w : World) (args' : Array Value), Sim P w0 ρ S w → VRs ρ args args'.toList →
    ∃ ρ' v' w', (callFunc f args').run P w = .ok (.value v') w' ∧ Ext ρ ρ' ∧ VR ρ' v v' ∧ Sim P w0 ρ' S' w'

/-- nothing old was turned -/
structure Kept (W w : World) : Prop where
  size : W.heap.size ≤ w.heap.size
  old : ∀ i, i < W.heap.size → w.heap[i]? = W.heap[i]?
  os : w.os = W.os
  out : w.output = W.output
theorem Kept.refl (W : World) : Kept W W := ⟨Nat.le_refl _, fun _ _ => rfl, rfl, rfl⟩
theorem Kept.trans {a b c : World} (h : Kept a b) (k : Kept b c) : Kept a c :=
  ⟨Nat.le_trans h.size k.size, fun i hi => (k.old i (Nat.lt_of_lt_of_le hi h.size)).trans (h.old i hi), k.os.trans h.os, k.out.trans h.out⟩
theorem Sim.kept {ρ : Rmap} {S : St} {w : World} (h : Sim P w0 ρ S w) : Kept w0.toWorld w := ⟨h.size, h.old, h.os, h.out⟩
theorem Sim.later {ρ : Rmap} {S : St} {w w' : World} (h : Sim P w0 ρ S w) (k : Kept w w') : Sim P w0 ρ S w' := by
  refine ⟨Nat.le_trans h.size k.size, fun i hi => (k.old i (Nat.lt_of_lt_of_le hi h.size)).trans (h.old i hi), k.os.trans h.os, k.out.trans h.out, fun b L hb => ⟨(h.dom b L hb).1, Nat.lt_of_lt_of_le (h.dom b L hb).2 k.size⟩, fun b L B hb hB => ?_, h.own, h.glob, h.no⟩
  rw [k.old _ (h.dom b L hb).2]
  exact h.blk b L B hb hB
/-- what is known of functions that are not entered -/
structure KnownSound (P : Program) (K : Known) (W : World) : Prop where
  ext : ExtSound P K
  call : ∀ f args v, K.call f args = some v → args = [] ∧ (∀ ρ : Rmap, VR ρ v v) ∧ ∃ fn c, P.funcs[f]? = some fn ∧ fn.body = some c ∧ (fn.name == "runtime.NumGoroutine") = false ∧
    ∀ w, Kept W w → Calls P f #[] w fun e w' => e = .returned v ∧ Kept w w'

theorem run_callFunc {f : FuncId} {fn : Func} {c : Code} (hf : P.funcs[f]? = some fn) (hb : fn.body = some c) (hn : (fn.name == "runtime.NumGoroutine") = false) (args : Array Value) (w : World) :
    (callFunc f args).run P w = .ok (.enter f args) w := by
  have h1 : fn.name ≠ "runtime.NumGoroutine" := by simpa using hn
  simp [callFunc, hf, h1, hb]

theorem mapM_any {w : World} {rs : List ResultVar} {vs : List Value} (g g' : ResultVar → Sem Value) (h1 : ∀ t, g (.tmp t) = g' (.tmp t)) (h2 : ∀ x t, g (.cell x t) = g' (.cell x t))
    (h : (rs.mapM g').run P w = .ok vs w) : (rs.mapM g).run P w = .ok vs w := by
  have : g = g' := by
    funext x
    cases x with
    | tmp t => exact h1 t
    | cell x t => exact h2 x t
  rw [this]; exact h

theorem results_sound {ρ : Rmap} {S : St} {w : World} (hs : Sim P w0 ρ S w) {a : Ca} {ar : Act} (ha : ActR ρ a ar) {fn : Func} {vs : List Value} (h : resultsL P a S fn.results.toList = some vs) :
    ∃ vs' : List Value, VRs ρ vs vs' ∧ (results fn ar.tmps).run P w = .ok (if h : vs'.toArray.size = 1 then vs'.toArray[0] else .tuple vs'.toArray) w := by
  obtain ⟨vs', p, q⟩ := resultsL_sound hs ha _ _ h
  refine ⟨vs', q, ?_⟩
  unfold results
  rw [Array.mapM_eq_mapM_toList, Sem.run_bind, Sem.run_map]
  have key : ∀ r : Result (List Value), r = .ok vs' w → ((r.andThen fun a w' => .ok a.toArray w').andThen fun a w' => Sem.run P (pure (if h : a.size = 1 then a[0] else Value.tuple a)) w') =
      .ok (if h : vs'.toArray.size = 1 then vs'.toArray[0] else .tuple vs'.toArray) w := by
    rintro _ rfl
    simp only [Result.andThen_ok, Sem.run_pure]
  exact key _ (mapM_any _ _ (fun _ => rfl) (fun _ _ => rfl) p)

theorem leave_ret {fn : Func} {a1 : Ca} {S1 S' : St} {e : Ending} (h : (match takeMarks a1.defers S1 with
        | some S'' => match resultsL P a1 S'' fn.results.toList with
          | some [v] => some (Ending.returned v, S'')
          | some vs => some (.returned (.tuple vs.toArray), S'')
          | none => none
        | none => none) = some (e, S')) {ρ ρ2 : Rmap} (h1 : Ext ρ ρ2) {ar : Act} {w2 : World} (h3 : ActR ρ2 a1 ar) (h4 : Sim P w0 ρ2 S1 w2) :
    LeavesInM Fence.wide 0 P fn ar.tmps (EndGood P w0 ρ e S') ar.defers .returning w2 := by
  split at h
  · rename_i S2 htm
    have key : ∀ vs, resultsL P a1 S2 fn.results.toList = some vs → S2 = S' → e = .returned (match vs with | [v] => v | vs => .tuple vs.toArray) →
        LeavesInM Fence.wide 0 P fn ar.tmps (EndGood P w0 ρ e S') ar.defers .returning w2 := by
      intro vs hvs hS he
      refine takeMarks_sound (ρ := ρ2) (S2 := S2) (by simp) (fun w3 hw3 => ?_) a1.defers S1 ar.defers w2 htm h3.df h4
      obtain ⟨vs', hv, hr⟩ := results_sound hw3 h3 hvs
      refine ⟨_, hr, ρ2, h1, ?_, by rw [← hS]; exact hw3⟩
      rw [he]
      have hl := hv.1
      match vs, vs', hv, hl with
      | [v], [v'], hv, _ => simp only [List.size_toArray, List.length_singleton, dite_true]; exact .ret hv.head
      | [], [], hv, _ => exact .ret (VR.tuple' hv)
      | v :: u :: r, v' :: u' :: r', hv, _ => simp only [List.size_toArray, List.length_cons, Nat.add_eq_right]; exact .ret (VR.tuple' hv)
      | [], _ :: _, _, hl => simp at hl
      | _ :: _, [], _, hl => simp at hl
      | [_], _ :: _ :: _, _, hl => simp at hl
      | _ :: _ :: _, [_], _, hl => simp at hl
    split at h
    · rename_i v hvs
      simp only [Option.some.injEq, Prod.mk.injEq] at h
      exact key _ hvs h.2 h.1.symm
    · rename_i vs hne hvs
      simp only [Option.some.injEq, Prod.mk.injEq] at h
      refine key _ hvs h.2 ?_
      rw [← h.1]
      match vs, hne with
      | [v], hne => exact absurd rfl (hne v)
      | [], _ => rfl
      | _ :: _ :: _, _ => rfl
    · cases h
  · cases h

theorem maxN_eq (a b : Nat) : maxN a b = max a b := by
  unfold maxN
  cases h : Nat.ble a b with
  | true => have := Nat.le_of_ble_eq_true h; simp only [cond_true]; omega
  | false =>
    have : ¬ a ≤ b := fun e => by rw [Nat.ble_eq_true_of_le e] at h; cases h
    simp only [cond_false]; omega

theorem enter_act {ρ : Rmap} {args : List Value} {args' : Array Value} (hv : VRs ρ args args'.toList) {n : Nat} (hn : maxN n args.length ≤ 256) :
    ActR ρ { n := maxN n args.length, t := PT.ofList 0 (PT.nil 8) args, defers := [] } { tmps := args' ++ Array.replicate (n - args'.size) undef, defers := [] } := by
  have hl : args.length = args'.size := by have := hv.1; simpa using this
  have hm := maxN_eq n args.length
  refine ⟨hn, ⟨by simp only [Array.size_append, Array.size_replicate]; omega, fun i => ?_⟩, .nil⟩
  have hg : getT (PT.ofList 0 (PT.nil 8) args) i = (args[i]?).getD undef := by
    unfold getT
    rw [PT.get_ofList args 0 _ i (by omega)]
    by_cases h : i < args.length
    · rw [if_pos (by omega)]
      simp [h]
    · rw [if_neg (by omega), PT.get_nil]
      simp [List.getElem?_eq_none (Nat.le_of_not_lt h)]
  rw [hg, Array.getD_eq_getD_getElem?]
  by_cases h : i < args.length
  · obtain ⟨v', h1, h2⟩ := hv.get (List.getElem?_eq_getElem h)
    rw [Array.getElem?_append_left (by omega), ← Array.getElem?_toList, h1, List.getElem?_eq_getElem h]
    exact h2
  · rw [List.getElem?_eq_none (Nat.le_of_not_lt h), Array.getElem?_append_right (by omega)]
    have : ((Array.replicate (n - args'.size) undef)[i - args'.size]?).getD undef = undef := by
      rw [Array.getElem?_replicate]; split <;> rfl
    rw [this]
    exact VR.undef ρ

theorem enterB_sound {ih : Fns} (hih : FnsSound P w0 ih) (hK : ExtSound P K) {f : FuncId} {args : List Value} {S S' : St} {e : Ending} (h : enterB P K ih f args S = some (e, S'))
    {ρ : Rmap} {w : World} {args' : Array Value} (hs : Sim P w0 ρ S w) (hv : VRs ρ args args'.toList) : NextUp P (EndGood P w0 ρ e S') ((callFunc f args').run P w) := by
  unfold enterB at h
  split at h
  · rename_i fn hf
    split at h
    · rename_i c hb
      cases hc : ((fn.name == "runtime.NumGoroutine") || Nat.blt 256 (maxN fn.ntmps args.length)) with
      | true => rw [hc] at h; cases h
      | false =>
        rw [hc] at h
        simp only [cond_false] at h
        rw [Bool.or_eq_false_iff] at hc
        rw [run_callFunc hf hb hc.1]
        have hle : maxN fn.ntmps args.length ≤ 256 := by
          have := hc.2
          rw [PT.blt_iff] at this
          simpa using this
        show CallsIn Fence.wide 0 P f args' w (EndGood P w0 ρ e S')
        split at h
        · rename_i e1 a1 S1 hx
          refine callsIn_of_wp_marks hf hb trivial ?_
          refine wpIn_mono (hih.exec none c _ _ _ _ _ hx ρ w _ none hs (enter_act hv hle) (.inl ⟨rfl, rfl⟩)) ?_
          rintro e2 ar2 w2 ⟨ρ2, h1, h2, h3, h4⟩
          cases h2 with
          | normal => exact leave_ret h h1 h3 h4
          | ret => exact leave_ret h h1 h3 h4
          | exit id => cases h
          | pan hp =>
            simp only at h
            split at h
            · rename_i S2 htm
              simp only [Option.some.injEq, Prod.mk.injEq] at h
              obtain ⟨rfl, rfl⟩ := h
              exact takeMarks_sound (ρ := ρ2) (S2 := S2) (by simp) (fun w3 hw3 => by exact ⟨ρ2, h1, .pan hp, hw3⟩) a1.defers S1 ar2.defers w2 htm h3.df h4
            · cases h
        · cases h
    · rename_i hb
      split at h
      · rename_i v S1 hk
        simp only [Option.some.injEq, Prod.mk.injEq] at h
        obtain ⟨rfl, rfl⟩ := h
        obtain ⟨ρ', v', w', a, b, c, d⟩ := hK w0 f args v fn S _ hk hf hb ρ w args' hs hv
        rw [a]
        exact ⟨ρ', b, .ret c, d⟩
      · cases h
  · cases h

end Go.Cm
