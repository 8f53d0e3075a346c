/-
  CM, part 10: the operations that may turn memory, calls aside.
-/
import Derived.Test.YtfoonohjjeofhaaGreatDoorCmStep
namespace Go.Cm
open Go
variable {P : Program} {w0 : Base}

theorem OpGood.of_same {ρ : Rmap} {S : St} {w : World} {v v' : Value} {s : Sem Value} (hs : Sim P w0 ρ S w) (h : s.run P w = .ok v' w) (hv : VR ρ v v') : OpGood P w0 ρ v S (s.run P w) :=
  ⟨ρ, v', w, h, Ext.refl _, hv, hs⟩

theorem args_vr {ρ : Rmap} {f g : Operand → Value} {args : Array Operand} (h : ∀ x, x ∈ args → VR ρ (f x) (g x)) : VRs ρ (args.toList.map f) (args.map g).toList := by
  rw [Array.toList_map]
  exact VRs.mapOps args.toList fun x hx => h x (by simpa using hx)

theorem one_arg {l : Array Operand} {g : Operand → Value} {x' : Value} (h : (l.map g).toList = [x']) : l.map g = #[x'] := by
  apply Array.ext'; simpa using h
theorem two_args {l : Array Operand} {g : Operand → Value} {x' y' : Value} (h : (l.map g).toList = [x', y']) : l.map g = #[x', y'] := by
  apply Array.ext'; simpa using h

theorem builtin_sound {ρ : Rmap} {S S' : St} {w : World} (hs : Sim P w0 ρ S w) {o : Oper} {f g : Operand → Value} {b : Builtin} {args : Array Operand} {ts : Array TypeId}
    (ho : o.op = .call { callee := .builtin b, args := args, argTypes := ts }) (hev : ∀ x, x ∈ args → VR ρ (f x) (g x)) {v : Value} (h : builtinV P b ts.toList (args.toList.map f) S = some (v, S')) :
    NextGood P w0 ρ v S' ((execOp g o).run P w) := by
  obtain ⟨cs, e⟩ := run_builtin (P := P) g ho w
  rw [e]
  have hv := args_vr hev
  generalize ha : args.toList.map f = l at h hv
  generalize hg : args.map g = ga at hv e ⊢
  unfold builtinV at h
  split at h
  · rename_i x
    split at h
    · rename_i t rest hts
      obtain ⟨x', r', hg', hx, hr⟩ := hv.cons_inv
      cases hr.nil_inv
      have hga : ga = #[x'] := by apply Array.ext'; simpa using hg'
      subst hga
      have ht0 : ts[0]? = some t := by rw [← Array.getElem?_toList, hts]; rfl
      cases hl : lenV P t x S with
      | none => rw [hl] at h; cases h
      | some u =>
        rw [hl] at h
        cases h
        obtain ⟨p, q⟩ := len_sound (ty := o.type) hs hl hx ht0
        exact .of_op (.of_same hs p (q.refl ρ)) (by simp [builtin])
    · cases h
  · rename_i s x
    obtain ⟨s', r', hg', hsv, hr⟩ := hv.cons_inv
    obtain ⟨x', r'', rfl, hx, hr'⟩ := hr.cons_inv
    cases hr'.nil_inv
    have hga : ga = #[s', x'] := by apply Array.ext'; simpa using hg'
    subst hga
    split at h
    · rename_i r hr1
      obtain ⟨v1, S1⟩ := r
      cases h
      exact .of_op (append_sound (ty := o.type) hs hr1 hsv hx) (by simp [builtin])
    · exact .of_op (appendZ_sound (ty := o.type) hs h hsv hx) (by simp [builtin])
  · rename_i x r
    obtain ⟨x', r', hg', hx, hr⟩ := hv.cons_inv
    cases hm : minmaxV false x r with
    | none => rw [hm] at h; cases h
    | some u =>
      rw [hm] at h
      cases h
      obtain ⟨v', p, q⟩ := minmax_sound (P := P) (ty := o.type) (ts := ts) r r' x x' _ hm hx hr w
      exact .of_op (s := Builtin.min_ ts o.type ga) (.of_same hs (by unfold Builtin.min_; rw [hg']; simpa using p) q) (by simp [builtin])
  · rename_i x r
    obtain ⟨x', r', hg', hx, hr⟩ := hv.cons_inv
    cases hm : minmaxV true x r with
    | none => rw [hm] at h; cases h
    | some u =>
      rw [hm] at h
      cases h
      obtain ⟨v', p, q⟩ := minmax_sound (P := P) (ty := o.type) (ts := ts) r r' x x' _ hm hx hr w
      exact .of_op (s := Builtin.max_ ts o.type ga) (.of_same hs (by unfold Builtin.max_; rw [hg']; simpa using p) q) (by simp [builtin])
  · rename_i s x
    obtain ⟨s', r', hg', hsv, hr⟩ := hv.cons_inv
    obtain ⟨x', r'', rfl, hx, hr'⟩ := hr.cons_inv
    cases hr'.nil_inv
    have hga : ga = #[s', x'] := by apply Array.ext'; simpa using hg'
    subst hga
    exact .of_op (copy_sound (ty := o.type) hs h hsv hx) (by simp [builtin])
  · rename_i x
    split at h
    · rename_i t rest hts
      split at h
      · rename_i e hu
        cases h
        obtain ⟨x', r', hg', hx, hr⟩ := hv.cons_inv
        cases hr.nil_inv
        have hga : ga = #[x'] := by apply Array.ext'; simpa using hg'
        subst hga
        have ht0 : ts[0]? = some t := by rw [← Array.getElem?_toList, hts]; rfl
        cases hx
        exact .of_op (s := Builtin.cap_ ts o.type #[.slice none 0 0]) (.of_same hs (by simp [Builtin.cap_, ht0, run_und w hu, goInt]) (.int _ _)) (by simp [builtin])
      · cases h
    · cases h
  · rename_i x
    split at h
    · cases h
      obtain ⟨x', r', hg', hx, hr⟩ := hv.cons_inv
      cases hr.nil_inv
      have hga : ga = #[x'] := by apply Array.ext'; simpa using hg'
      subst hga
      cases hx
      exact .of_op (s := Builtin.unsafeSliceData_ ts o.type #[.slice none 0 0]) (.of_same hs rfl .pnil) (by simp [builtin])
    · rename_i b oo n c
      cases h
      obtain ⟨x', r', hg', hx, hr⟩ := hv.cons_inv
      cases hr.nil_inv
      have hga : ga = #[x'] := by apply Array.ext'; simpa using hg'
      subst hga
      cases hx with
      | slice hb hn hc hr ho =>
        rename_i o' c' L
        have hc' : c' ≠ 0 := by omega
        rcases ho with ho | ho
        · subst ho
          refine .of_op (s := Builtin.unsafeSliceData_ ts o.type #[.slice (some ⟨L.r, oo + L.d, none⟩) n c']) (.of_same hs ?_ (.ptr hb)) (by simp [builtin])
          have : Builtin.unsafeSliceData_ ts o.type #[.slice (some ⟨L.r, oo + L.d, none⟩) n c'] = (do
            if c' ≠ 0 then pure (.pointer (some ⟨L.r, oo + L.d, none⟩))
            else if (← viewAt L.r).isSome then pure (.pointer (some ⟨L.r, oo + L.d, none⟩))
            else pure (.pointer (some ⟨← newObj (.view ⟨L.r, oo + L.d, none⟩ (← elemOf o.type)), 0, none⟩))) := rfl
          rw [this, if_pos hc']
          rfl
        · exact absurd ho hc'
    · cases h
  · rename_i p n
    split at h
    · rename_i i
      obtain ⟨p', r', hg', hp, hr⟩ := hv.cons_inv
      obtain ⟨n', r'', rfl, hn, hr'⟩ := hr.cons_inv
      cases hr'.nil_inv
      cases hn
      have hga : ga = #[p', .int .i64 i] := by apply Array.ext'; simpa using hg'
      subst hga
      exact .of_op (unsafeString_sound (ty := o.type) hs h hp) (by simp [builtin])
    · cases h
  · cases h

theorem heavy_sound {ρ : Rmap} {S S' : St} {w : World} (hs : Sim P w0 ρ S w) {o : Oper} {f g : Operand → Value} (hev : ∀ x, x ∈ o.op.operands → VR ρ (f x) (g x)) {v : Value} (h : heavyOp P f o.op S = some (v, S')) :
    NextGood P w0 ρ v S' ((execOp g o).run P w) := by
  generalize ho : o.op = op at h hev
  unfold heavyOp at h
  split at h
  · rename_i t a x
    split at h
    · rename_i S1 hst
      cases h
      obtain ⟨w', p, q⟩ := store_sound hs hst (hev a (by simp [Op.operands])) (hev x (by simp [Op.operands]))
      exact .of_unit p q (by simp only [execOp, ho])
    · cases h
  · rename_i s d x
    exact .of_op (conv_sound hs h (hev x (by simp [Op.operands]))) (by simp only [execOp, ho])
  · rename_i t r
    split at h
    · rename_i key elem k n hu hr
      cases h
      have hx := hev r (by simp [Op.operands])
      rw [hr] at hx
      generalize hgr : g r = gr at hx
      cases hx
      obtain ⟨ρ', a, b, c⟩ := newMap_sound hs
      exact ⟨ρ', _, _, .inl (by simp [execOp, ho, Instr.makeMap, hgr, run_und w hu, asInt, asIntOf]), a, b, c⟩
    · cases h
  · rename_i t l c
    exact .of_op (makeSlice_sound hs h (hev l (by simp [Op.operands])) (hev c (by simp [Op.operands]))) (by simp only [execOp, ho])
  · rename_i t x
    exact .of_op (rangeM_sound hs h (hev x (by simp [Op.operands]))) (by simp only [execOp, ho])
  · rename_i it s
    exact .of_op (nextM_sound (ty := o.type) hs h (hev it (by simp [Op.operands]))) (by simp only [execOp, ho])
  · rename_i t m k x
    split at h
    · rename_i S1 hst
      cases h
      obtain ⟨w', p, q⟩ := mapUpdate_sound hs hst (hev m (by simp [Op.operands])) (hev k (by simp [Op.operands])) (hev x (by simp [Op.operands]))
      exact .of_unit p q (by simp only [execOp, ho])
    · cases h
  · rename_i t m k x
    split at h
    · rename_i S1 hst
      cases h
      obtain ⟨w', p, q⟩ := mapUpdate_sound hs hst (hev m (by simp [Op.operands])) (hev k (by simp [Op.operands])) (hev x (by simp [Op.operands]))
      exact .of_unit p q (by simp only [execOp, ho])
    · cases h
  · rename_i b args ts
    exact builtin_sound hs ho (fun x hx => hev x (by simp [Op.operands, Call.operands]; exact hx)) h
  · cases h

end Go.Cm
