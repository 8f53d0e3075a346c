/-
  CM, part 9: one operation of the program, as the model carries it out.
-/
import Derived.Test.YtfoonohjjeofhaaGreatDoorCmOps9
namespace Go.Cm
open Go
variable {P : Program} {w0 : Base}

theorem run_builtin {o : Oper} (g : Operand → Value) {b : Builtin} {args : Array Operand} {ts : Array TypeId} (ho : o.op = .call { callee := .builtin b, args := args, argTypes := ts }) (w : World) :
    ∃ cs, (execOp g o).run P w = (builtin b ts o.type cs (args.map g)).run P w := by
  simp only [execOp, ho, resolve, invoke, Sem.run_bind, Sem.run_pure]
  exact ⟨_, rfl⟩

theorem arr_one {args : Array Operand} {x : Operand} (h : args.toList = [x]) : args = #[x] := by
  apply Array.ext'; simpa using h
theorem arr_two {args : Array Operand} {x y : Operand} (h : args.toList = [x, y]) : args = #[x, y] := by
  apply Array.ext'; simpa using h

theorem read_sound {ρ : Rmap} {S : St} {w : World} (hs : Sim P w0 ρ S w) {o : Oper} {f g : Operand → Value} (hev : ∀ x, x ∈ o.op.operands → VR ρ (f x) (g x)) {v : Value} (h : readOp P f o.op S = some v) :
    ∃ v', (execOp g o).run P w = .ok (.value v') w ∧ VR ρ v v' := by
  generalize ho : o.op = op at h hev
  unfold readOp at h
  split at h
  · rename_i t a
    obtain ⟨v', p, q⟩ := load_sound hs h (hev a (by simp [Op.operands]))
    exact ⟨v', by simp [execOp, ho, p], q⟩
  · rename_i t x lo hi mx
    obtain ⟨v', p, q⟩ := slice_sound hs h (hev x (by simp [Op.operands])) (OptR.map fun o e => hev o (by subst e; simp [Op.operands])) (OptR.map fun o e => hev o (by subst e; simp [Op.operands])) (OptR.map fun o e => hev o (by subst e; simp [Op.operands]))
    exact ⟨v', by simp [execOp, ho, p], q⟩
  · rename_i t x i ok
    obtain ⟨v', p, q⟩ := lookup_sound hs h (hev x (by simp [Op.operands])) (hev i (by simp [Op.operands]))
    exact ⟨v', by simp [execOp, ho, p], q⟩
  · rename_i args ts
    split at h
    · rename_i x t rest ha ht
      have ha' := arr_one ha
      subst ha'
      have ht0 : ts[0]? = some t := by rw [← Array.getElem?_toList, ht]; rfl
      obtain ⟨p, q⟩ := len_sound (ty := o.type) hs h (hev x (by simp [Op.operands, Call.operands])) ht0
      refine ⟨v, ?_, q.refl ρ⟩
      obtain ⟨cs, e⟩ := run_builtin (P := P) g ho w
      rw [e]
      simp [builtin, p]
    · cases h
  · subst ho
    exact pure_sound hev h w

/-- an operation that gives a value, or none, and turns memory -/
def NextGood (P : Program) (w0 : Base) (ρ : Rmap) (v : Value) (S' : St) (r : Result Next) : Prop :=
  ∃ ρ' v' w', (r = .ok (.value v') w' ∨ (r = .ok .skip w' ∧ v' = undef)) ∧ Ext ρ ρ' ∧ VR ρ' v v' ∧ Sim P w0 ρ' S' w'
theorem NextGood.of_op {ρ : Rmap} {v : Value} {S' : St} {s : Sem Value} {w : World} (h : OpGood P w0 ρ v S' (s.run P w)) {r : Result Next} (hr : r = ((do pure (Next.value (← s)) : Sem Next)).run P w) : NextGood P w0 ρ v S' r := by
  obtain ⟨ρ', v', w', a, b, c, d⟩ := h
  refine ⟨ρ', v', w', .inl ?_, b, c, d⟩
  rw [hr, Sem.run_bind, a]; rfl
theorem NextGood.of_unit {ρ : Rmap} {S' : St} {s : Sem Unit} {w w' : World} (h : s.run P w = .ok () w') (hs : Sim P w0 ρ S' w') {r : Result Next} (hr : r = ((do s; pure Next.skip : Sem Next)).run P w) : NextGood P w0 ρ undef S' r := by
  refine ⟨ρ, undef, w', .inr ⟨?_, rfl⟩, Ext.refl _, VR.undef _, hs⟩
  rw [hr, Sem.run_bind, h]; rfl

theorem parts_vr {ρ : Rmap} {f g : Operand → Value} {parts : Array (Nat × Operand)} (h : ∀ x, x ∈ (parts.toList.map (·.2)).toArray → VR ρ (f x) (g x)) : PartsR ρ (partsV f parts.toList) (parts.map fun (i, x) => (i, g x)).toList := by
  refine ⟨by simp [partsV], ?_⟩
  simp only [partsV, List.map_map, Array.toList_map]
  have := VRs.mapOps (ρ := ρ) (f := f) (g := g) (parts.toList.map (·.2)) (fun x hx => h x (by simpa using hx))
  simpa [List.map_map, Function.comp_def] using this

theorem new_sound {ρ : Rmap} {S S' : St} {w : World} (hs : Sim P w0 ρ S w) {o : Oper} {f g : Operand → Value} (hev : ∀ x, x ∈ o.op.operands → VR ρ (f x) (g x)) {v : Value} (h : newOp P f o.op S = some (v, S')) :
    NextGood P w0 ρ v S' ((execOp g o).run P w) := by
  cases ho : o.op <;> rw [ho] at h hev
  case alloc e =>
    simp only [newOp] at h
    split at h
    · rename_i z hz
      cases h
      exact .of_op (alloc_sound hs hz) (by simp only [execOp, ho])
    · cases h
  case box e x =>
    simp only [newOp] at h
    cases h
    exact .of_op (box_sound hs (hev x (by simp [Op.operands]))) (by simp only [execOp, ho])
  case buildSlice t len parts =>
    exact .of_op (buildSlice_sound hs h (parts_vr (by simpa [Op.operands] using hev))) (by simp only [execOp, ho])
  case makeMap t r =>
    cases r with
    | some x => simp [newOp] at h
    | none =>
      simp only [newOp] at h
      cases h
      obtain ⟨ρ', a, b, c⟩ := newMap_sound hs
      exact ⟨ρ', _, _, .inl (by simp [execOp, ho, Instr.makeMap]), a, b, c⟩
  all_goals simp [newOp] at h

end Go.Cm
