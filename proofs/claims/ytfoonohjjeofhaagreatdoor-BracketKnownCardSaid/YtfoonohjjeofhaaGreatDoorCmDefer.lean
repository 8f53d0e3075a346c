/-
  CM, part 17b: functions that defer calls; recover.
-/
import Derived.Test.YtfoonohjjeofhaaGreatDoorCmFuncA
import Derived.RecoverIn
namespace Go.Cm
open Go
variable {P : Program} {w0 : Base} {K : Known}

/-! ### how a frame is left -/
inductive ModeR (ρ : Rmap) : Mode → FrameMode → Prop
  | ret : ModeR ρ .ret .returning
  | pan {c c' : List PanicEntry} (h : PanR ρ c c') : ModeR ρ (.pan c) (.panicking c')
theorem ModeR.mono {ρ ρ' : Rmap} (e : Ext ρ ρ') {m : Mode} {u : FrameMode} (h : ModeR ρ m u) : ModeR ρ' m u := by
  cases h with
  | ret => exact .ret
  | pan h => exact .pan (h.mono e)
theorem ModeR.ne {ρ : Rmap} {m : Mode} {u : FrameMode} (h : ModeR ρ m u) : u ≠ .run := by
  cases h <;> (intro h; cases h)

theorem PanR.drop {ρ : Rmap} {c c' : List PanicEntry} (h : PanR ρ c c') : PanR ρ (c.dropWhile (!·.goexit)) (c'.dropWhile (!·.goexit)) := by
  induction h with
  | nil => exact .nil
  | cons r g h k ih =>
    cases g with
    | true => exact .cons r true h k
    | false => exact ih

theorem ModeR.settle {ρ : Rmap} {m : Mode} {u : FrameMode} (h : ModeR ρ m u) : ModeR ρ (settleM m) (settle u) := by
  cases h with
  | ret => exact .ret
  | pan h =>
    cases h with
    | nil => exact .pan .nil
    | cons r g h k =>
      cases r with
      | false => exact .pan (.cons false g h k)
      | true =>
        have hd := k.drop
        simp only [settleM, Go.settle]
        revert hd
        generalize List.dropWhile _ _ = a
        generalize List.dropWhile _ _ = b
        intro hd
        cases hd with
        | nil => exact .ret
        | cons r g h k => exact .pan (.cons r g h k)

/-- what recover gives, and what it leaves -/
theorem ModeR.recover {ρ : Rmap} {m : Mode} {u : FrameMode} (h : ModeR ρ m u) (c : Frame) (cs : List Frame) :
    (∃ v' u', recoverD ({ c with mode := u } :: cs) = some (v', { c with mode := u' } :: cs) ∧ VR ρ (recoverM m).1 v' ∧ ModeR ρ (recoverM m).2 u') ∨
    (recoverD ({ c with mode := u } :: cs) = none ∧ (recoverM m).1 = .nilIface ∧ ModeR ρ (recoverM m).2 u) := by
  cases h with
  | ret => exact .inr ⟨rfl, rfl, .ret⟩
  | pan h =>
    cases h with
    | nil => exact .inr ⟨rfl, rfl, .pan .nil⟩
    | cons r g h k =>
      cases r <;> cases g
      · exact .inl ⟨_, _, rfl, h, .pan (.cons true false h k)⟩
      · exact .inr ⟨rfl, rfl, .pan (.cons false true h k)⟩
      · exact .inr ⟨rfl, rfl, .pan (.cons true false h k)⟩
      · exact .inr ⟨rfl, rfl, .pan (.cons true true h k)⟩

/-! ### a deferred function's operations -/
theorem stepD_sound {ρ : Rmap} {S S' : St} {w : World} (hs : Sim P w0 ρ S w) {o : Oper} {f g : Operand → Value} (hev : ∀ x, x ∈ o.op.operands → VR ρ (f x) (g x)) {v : Value} (h : stepD P f o.op S = some (v, S')) :
    NextGood P w0 ρ v S' ((execOp g o).run P w) := by
  unfold stepD at h
  split at h
  · split at h
    · rename_i v hv
      cases h
      obtain ⟨v', a, b⟩ := read_sound hs hev hv
      exact ⟨ρ, v', w, .inl a, Ext.refl _, b, hs⟩
    · cases h
  · exact new_sound hs hev h
  · split at h
    · cases h
    · cases h
    · cases h
    · exact heavy_sound hs hev h

theorem isRec_spec {o : Oper} (h : isRec o = true) (g : Operand → Value) (w : World) : (execOp g o).run P w = .ok .recover w := by
  unfold isRec at h
  split at h
  · rename_i c hc
    split at h
    · rename_i hb
      obtain ⟨cal, as, ts⟩ := c
      simp only at hb
      subst hb
      obtain ⟨cs, e⟩ := run_builtin (P := P) g hc w
      rw [e]
      simp [builtin]
    · cases h
  · cases h

theorem range_ops (ops : Array Oper) : (List.range ops.size).map (fun i => ops[i]?) = ops.toList.map some := by
  apply List.ext_getElem?
  intro i
  simp only [List.getElem?_map, Array.getElem?_toList]
  by_cases h : i < ops.size
  · simp [h]
  · rw [List.getElem?_eq_none (by simpa using h), Array.getElem?_eq_none (by simpa using h)]; rfl

theorem runD_sound {ops : Array Oper} {a1 : Ca} {S1 : St} {m1 : Mode} {c0 : Frame} {cs : List Frame} {ρ0 : Rmap} {Q : Exit → Act → List Frame → World → Prop}
    (hQ : ∀ ρ' ar' u' w', Ext ρ0 ρ' → ActR ρ' a1 ar' → Sim P w0 ρ' S1 w' → ModeR ρ' m1 u' → Q .normal ar' ({ c0 with mode := u' } :: cs) w') :
    ∀ (rest : List Oper) (idx : List Nat), idx.map (fun i => ops[i]?) = rest.map some → ∀ (a : Ca) (S : St) (m : Mode), runD P ops.toList rest a S m = some (a1, S1, m1) → (∀ o, o ∈ rest → OpC P o) →
      ∀ (ρ : Rmap) (w : World) (ar : Act) (u : FrameMode), Ext ρ0 ρ → Sim P w0 ρ S w → ActR ρ a ar → ModeR ρ m u → wpOpsSIn Fence.wide 0 P ops Q idx ar ({ c0 with mode := u } :: cs) w
  | [], idx, hi, a, S, m, h, _, ρ, w, ar, u, hx, hs, ha, hm => by
    simp only [runD, Option.some.injEq, Prod.mk.injEq] at h
    obtain ⟨rfl, rfl, rfl⟩ := h
    have : idx = [] := by simpa using hi
    subst this
    exact hQ ρ ar u w hx ha hs hm
  | o :: rest, [], hi, a, S, m, h, _, ρ, w, ar, u, hx, hs, ha, hm => by simp at hi
  | o :: rest, i :: idx, hi, a, S, m, h, hc, ρ, w, ar, u, hx, hs, ha, hm => by
    simp only [List.map_cons, List.cons.injEq] at hi
    obtain ⟨hi, hi'⟩ := hi
    have hc' : ∀ o, o ∈ rest → OpC P o := fun o ho => hc o (by simp [ho])
    unfold runD at h
    unfold wpOpsSIn
    simp only [hi]
    refine ⟨fun _ _ => trivial, ?_⟩
    rw [← wanted_sound ha (ops := ops) (o := o)]
    cases hw : wantedC ops.toList a o with
    | false =>
      rw [hw] at h
      simp only [cond_false] at h
      simp only [Bool.false_eq_true, if_false]
      split at h
      · rename_i a2 hp
        exact runD_sound hQ rest idx hi' a2 S m h hc' ρ w _ u hx hs (ha.put hp (VR.undef _)) hm
      · cases h
    | true =>
      rw [hw] at h
      simp only [cond_true] at h
      simp only [if_true]
      cases hr : isRec o with
      | true =>
        rw [hr] at h
        simp only [cond_true] at h
        rw [isRec_spec hr]
        simp only
        split at h
        · rename_i a2 hp
          rcases hm.recover c0 cs with ⟨v', u', e1, e2, e3⟩ | ⟨e1, e2, e3⟩
          · rw [e1]
            simp only
            exact runD_sound hQ rest idx hi' a2 S _ h hc' ρ w _ u' hx hs (ha.put hp e2) e3
          · rw [e1]
            simp only
            refine runD_sound hQ rest idx hi' a2 S _ h hc' ρ w _ u hx hs (ha.put hp ?_) e3
            rw [e2]; exact .nilIface
        · cases h
      | false =>
        rw [hr] at h
        simp only [cond_false] at h
        split at h
        · rename_i v S2 hst
          split at h
          · rename_i a2 hp
            obtain ⟨ρ', v', w', e1, e2, e3, e4⟩ := stepD_sound hs (ha.evs hs (hc o (by simp))) hst
            rcases e1 with e1 | ⟨e1, rfl⟩
            · rw [e1]
              simp only
              exact runD_sound hQ rest idx hi' a2 S2 m h hc' ρ' w' _ u (hx.trans e2) e4 ((ha.mono e2).put hp e3) (hm.mono e2)
            · rw [e1]
              simp only
              exact runD_sound hQ rest idx hi' a2 S2 m h hc' ρ' w' _ u (hx.trans e2) e4 ((ha.mono e2).put hp e3) (hm.mono e2)
          · cases h
        · cases h

/-- a deferred function's code: an end to it -/
def GoodD (P : Program) (w0 : Base) (ρ : Rmap) (c0 : Frame) (cs : List Frame) (e : Exit) (a1 : Ca) (S1 : St) (m1 : Mode) : Exit → Act → List Frame → World → Prop := fun e' ar' cs' w' =>
  ∃ ρ' u', Ext ρ ρ' ∧ e' = e ∧ (e = .normal ∨ e = .ret) ∧ ActR ρ' a1 ar' ∧ Sim P w0 ρ' S1 w' ∧ ModeR ρ' m1 u' ∧ cs' = { c0 with mode := u' } :: cs

theorem wpSIn_mono {F : Fence} {n : Nat} {c : Code} {Q R : Exit → Act → List Frame → World → Prop} {a : Act} {cs : List Frame} {w : World} (h : c.wpSIn F n P Q a cs w) (k : ∀ e a cs w, Q e a cs w → R e a cs w) : c.wpSIn F n P R a cs w :=
  fun b i hb hr hF hroom => let ⟨e, a', cs', w', hl, hq, harr⟩ := h b i hb hr hF hroom; ⟨e, a', cs', w', hl, k _ _ _ _ hq, harr⟩

theorem execD_sound {c0 : Frame} {cs : List Frame} : ∀ (n : Nat) (code : Code) (a : Ca) (S : St) (m : Mode) (e : Exit) (a1 : Ca) (S1 : St) (m1 : Mode), execD P n code a S m = some (e, a1, S1, m1) →
    ∀ (ρ : Rmap) (w : World) (ar : Act) (u : FrameMode), Sim P w0 ρ S w → ActR ρ a ar → ModeR ρ m u → code.wpSIn Fence.wide 0 P (GoodD P w0 ρ c0 cs e a1 S1 m1) ar ({ c0 with mode := u } :: cs) w
  | 0, _, _, _, _, _, _, _, _, h, _, _, _, _, _, _, _ => by cases h
  | n + 1, code, a, S, m, e, a1, S1, m1, h, ρ, w, ar, u, hs, ha, hm => by
    unfold execD at h
    split at h
    · simp only [Option.some.injEq, Prod.mk.injEq] at h
      obtain ⟨rfl, rfl, rfl, rfl⟩ := h
      exact wpSIn_of_wpIn rfl (wpIn_skip ⟨ρ, u, Ext.refl _, rfl, .inl rfl, ha, hs, hm, rfl⟩)
    · simp only [Option.some.injEq, Prod.mk.injEq] at h
      obtain ⟨rfl, rfl, rfl, rfl⟩ := h
      exact wpSIn_of_wpIn rfl (wpIn_ret ⟨ρ, u, Ext.refl _, rfl, .inr rfl, ha, hs, hm, rfl⟩)
    · rename_i id ops draw
      cases hc : (draw || !constsOk P ops.toList) with
      | true => rw [hc] at h; cases h
      | false =>
        rw [hc] at h
        simp only [cond_false] at h
        simp only [Bool.or_eq_false_iff, Bool.not_eq_false'] at hc
        obtain ⟨rfl, hc⟩ := hc
        split at h
        · rename_i a2 S2 m2 hr
          simp only [Option.some.injEq, Prod.mk.injEq] at h
          obtain ⟨rfl, rfl, rfl, rfl⟩ := h
          exact wpSIn_region (runD_sound (ρ0 := ρ) (fun ρ' ar' u' w' h1 h2 h3 h4 => ⟨ρ', u', h1, rfl, .inl rfl, h2, h3, h4, rfl⟩) ops.toList _ (range_ops ops) a S m hr (constsOk_spec hc) ρ w ar u (Ext.refl _) hs ha hm)
        · cases h
    · rename_i x y
      refine wpSIn_seq ?_
      split at h
      · rename_i a2 S2 m2 hx
        refine wpSIn_mono (execD_sound n x a S m _ _ _ _ hx ρ w ar u hs ha hm) ?_
        rintro e2 ar2 cs2 w2 ⟨ρ2, u2, h1, rfl, _, h3, h4, h5, rfl⟩
        refine wpSIn_mono (execD_sound n y a2 S2 m2 _ _ _ _ h ρ2 w2 ar2 u2 h4 h3 h5) ?_
        rintro e3 ar3 cs3 w3 ⟨ρ3, u3, k1, k2, k3, k4, k5, k6, k7⟩
        exact ⟨ρ3, u3, h1.trans k1, k2, k3, k4, k5, k6, k7⟩
      · rename_i hne
        refine wpSIn_mono (execD_sound n x a S m _ _ _ _ h ρ w ar u hs ha hm) ?_
        rintro e2 ar2 cs2 w2 ⟨ρ2, u2, h1, rfl, h2, h3, h4, h5, rfl⟩
        rcases h2 with rfl | rfl
        · exact absurd h (hne _ _ _)
        · exact ⟨ρ2, u2, h1, rfl, .inr rfl, h3, h4, h5, rfl⟩
    · rename_i c x y
      split at h
      · rename_i t hc
        refine wpSIn_cond (bool_ev ha hc) ?_
        cases t <;> exact execD_sound n _ a S m _ _ _ _ h ρ w ar u hs ha hm
      · cases h
    · cases h

theorem frame_same (c : Frame) {u : FrameMode} (h : c.mode = u) : ({ c with mode := u } : Frame) = c := by subst h; rfl

theorem callD_sound {f : FuncId} {args : List Value} {args' : Array Value} {m m1 : Mode} {S S1 : St} (h : callD P f args m S = some (m1, S1)) {ρ : Rmap} {w : World} {u : FrameMode} (hs : Sim P w0 ρ S w) (hv : VRs ρ args args'.toList)
    (hm : ModeR ρ m u) : (callFunc f args').run P w = .ok (.enter f args') w ∧
      CallsDIn Fence.wide 0 P f args' u w fun e u' w' => ∃ v ρ', e = .returned v ∧ Ext ρ ρ' ∧ ModeR ρ' m1 u' ∧ Sim P w0 ρ' S1 w' := by
  unfold callD at h
  split at h
  · rename_i fn hf
    split at h
    · rename_i c hb
      cases hc : ((fn.name == "runtime.NumGoroutine") || Nat.blt 256 (maxN fn.ntmps args.length)) with
      | true => rw [hc] at h; cases h
      | false =>
        rw [hc] at h
        simp only [cond_false] at h
        rw [Bool.or_eq_false_iff] at hc
        have hle : maxN fn.ntmps args.length ≤ 256 := by
          have := hc.2
          rw [PT.blt_iff] at this
          simpa using this
        refine ⟨run_callFunc hf hb hc.1 args' w, callsDIn_of_wpSIn hf hb trivial fun c0 cs hc0 => ?_⟩
        split at h
        · rename_i e1 a1 S2 m2 hx
          have := execD_sound (P := P) (w0 := w0) (c0 := c0) (cs := cs) 1000 c _ _ _ _ _ _ _ hx ρ w _ u hs (enter_act hv hle) hm
          rw [frame_same c0 hc0] at this
          refine wpSIn_mono this ?_
          rintro e2 ar2 cs2 w2 ⟨ρ2, u2, h1, rfl, h2, h3, h4, h5, rfl⟩
          have fin : (match a1.defers, resultsL P a1 S2 fn.results.toList with
            | [], some _ => some (m2, S2)
            | _, _ => none) = some (m1, S1) → bodyPostS P fn c0 cs (fun e u' w' => ∃ v ρ', e = .returned v ∧ Ext ρ ρ' ∧ ModeR ρ' m1 u' ∧ Sim P w0 ρ' S1 w') .normal ar2 ({ c0 with mode := u2 } :: cs) w2 := by
            intro h
            split at h
            · rename_i vs hd hr
              simp only [Option.some.injEq, Prod.mk.injEq] at h
              obtain ⟨rfl, rfl⟩ := h
              obtain ⟨vs', _, hr2⟩ := results_sound h4 h3 hr
              have hd2 := h3.df
              rw [hd] at hd2
              refine ⟨by generalize ar2.defers = x at hd2; cases hd2; rfl, u2, rfl, _, hr2, _, ρ2, rfl, h1, h5, h4⟩
            · cases h
          rcases h2 with rfl | rfl
          · exact fin h
          · exact fin h
        · cases h
    · cases h
  · cases h

/-- the deferred calls at a function's end -/
theorem leaveD_sound {fn : Func} {tmps : Array Value} {R : Ending → World → Prop} {S2 : St} {m2 : Mode} {ρ0 : Rmap}
    (hfin : ∀ ρ2 u2 w2, Ext ρ0 ρ2 → ModeR ρ2 m2 u2 → Sim P w0 ρ2 S2 w2 → LeavesIn Fence.wide 0 P fn tmps R [] u2 w2) :
    ∀ (ds : List Deferred) (m : Mode) (S : St) (ds' : List Deferred) (u : FrameMode) (ρ : Rmap) (w : World), leaveD P ds m S = some (m2, S2) → Ext ρ0 ρ → DefsR ρ ds ds' → ModeR ρ m u → Sim P w0 ρ S w → LeavesInM Fence.wide 0 P fn tmps R ds' u w := by
  intro ds
  induction ds with
  | nil =>
    intro m S ds' u ρ w h hx hd hm hs
    cases hd
    simp only [leaveD, Option.some.injEq, Prod.mk.injEq] at h
    obtain ⟨rfl, rfl⟩ := h
    exact hfin ρ u w hx hm hs
  | cons d ds ih =>
    intro m S ds' u ρ w h hx hd hm hs
    cases hd with
    | cons h1 h2 =>
      rename_i d' l'
      simp only [leaveD] at h
      rcases h1 with ⟨r, L, hr, hL, hr'⟩ | ⟨f, cap, cap', hr, hr', hcap, hargs⟩
      · rw [hr] at h
        simp only at h
        split at h
        · rename_i hB
          have hh : w.heap[L.r]? = some (.deferred (some [])) := hs.blk _ _ _ hL hB
          have hp := Sim.put hs (B' := .defs true) hL hB rfl (wput_putObj hh (o' := .deferred none)) rfl
          exact ⟨hm.ne, .inl ⟨L.r, _, hr', run_takeDeferred hh, ih _ _ _ _ _ _ h hx h2 hm hp⟩⟩
        · cases h
      · rw [hr] at h
        simp only at h
        split at h
        · rename_i m3 S3 hcd
          obtain ⟨c1, c2⟩ := callD_sound (args' := d'.args ++ cap') hcd hs (by rw [Array.toList_append]; exact hargs.append hcap) hm
          refine ⟨hm.ne, .inr ⟨fun h => by simp [Fence.wide] at h, .func f, cap', f, d'.args ++ cap', hr', ?_, fun _ _ => trivial, ?_⟩⟩
          · rw [hr']; exact c1
          · refine CallsDIn.mono c2 ?_
            rintro e u' w' ⟨v, ρ', rfl, k1, k2, k3⟩
            exact ih _ _ _ _ ρ' w' h (hx.trans k1) (h2.mono k1) k2.settle k3
        · cases h

theorem endD_sound {fn : Func} {a1 : Ca} {m2 : Mode} {S2 S' : St} {e : Ending} (h : endD P a1 fn.results.toList (some (m2, S2)) = some (e, S')) {ρ ρ2 : Rmap} (h1 : Ext ρ ρ2) {ar : Act} {w2 : World} {u2 : FrameMode} (h3 : ActR ρ2 a1 ar)
    (hm : ModeR ρ2 m2 u2) (h4 : Sim P w0 ρ2 S2 w2) : LeavesIn Fence.wide 0 P fn ar.tmps (EndGood P w0 ρ e S') [] u2 w2 := by
  cases hm with
  | pan hp =>
    simp only [endD, Option.some.injEq, Prod.mk.injEq] at h
    obtain ⟨rfl, rfl⟩ := h
    exact ⟨ρ2, h1, .pan hp, h4⟩
  | ret =>
    simp only [endD] at h
    have key : ∀ vs, resultsL P a1 S2 fn.results.toList = some vs → S2 = S' → e = .returned (match vs with | [v] => v | vs => .tuple vs.toArray) →
        LeavesIn Fence.wide 0 P fn ar.tmps (EndGood P w0 ρ e S') [] .returning w2 := by
      intro vs hvs hS he
      obtain ⟨vs', hv, hr⟩ := results_sound h4 h3 hvs
      refine ⟨_, hr, ρ2, h1, ?_, by rw [← hS]; exact h4⟩
      rw [he]
      have hl := hv.1
      match vs, vs', hv, hl with
      | [v], [v'], hv, _ => simp only [List.size_toArray, List.length_singleton, dite_true]; exact .ret hv.head
      | [], [], hv, _ => exact .ret (VR.tuple' hv)
      | v :: u :: r, v' :: u' :: r', hv, _ => simp only [List.size_toArray, List.length_cons, Nat.add_eq_right]; exact .ret (VR.tuple' hv)
      | [], _ :: _, _, hl => simp at hl
      | _ :: _, [], _, hl => simp at hl
      | [_], _ :: _ :: _, _, hl => simp at hl
      | _ :: _ :: _, [_], _, hl => simp at hl
    split at h
    · rename_i v hvs
      simp only [Option.some.injEq, Prod.mk.injEq] at h
      exact key _ hvs h.2 h.1.symm
    · rename_i vs hne hvs
      simp only [Option.some.injEq, Prod.mk.injEq] at h
      refine key _ hvs h.2 ?_
      rw [← h.1]
      match vs, hne with
      | [v], hne => exact absurd rfl (hne v)
      | [], _ => rfl
      | _ :: _ :: _, _ => rfl
    · cases h

/-! ### the body -/
theorem isDefer_step {o : Oper} {c : Call} (ho : o.op = .defer c) (g : Operand → Value) (w : World) {d : Deferred} (hr : (resolve g c o.type).run P w = .ok d w) : (execOp g o).run P w = .ok (.defer d) w := by
  simp [execOp, ho, hr]

theorem runOpsD_sound {ih : Fns} (hih : FnsSound P w0 ih) {ops : Array Oper} {e : Exit} {a1 : Ca} {S1 : St} {Q : Exit → Act → World → Prop} :
    ∀ (rest : List Oper) (a : Ca) (S : St), runOpsD P ih ops.toList rest a S = some (e, a1, S1) → (∀ o, o ∈ rest → OpC P o) → ∀ (ρ : Rmap) (w : World) (ar : Act), Sim P w0 ρ S w → ActR ρ a ar →
      (∀ e' ar' w', ExitGood P w0 ρ e a1 S1 e' ar' w' → Q e' ar' w') → wpListIn (FW none) 0 P ops Q rest ar w
  | [], a, S, h, _, ρ, w, ar, hs, ha, hQ => by
    simp only [runOpsD, Option.some.injEq, Prod.mk.injEq] at h
    obtain ⟨rfl, rfl, rfl⟩ := h
    exact hQ _ _ _ ⟨ρ, Ext.refl _, .normal, ha, hs⟩
  | o :: rest, a, S, h, hc, ρ, w, ar, hs, ha, hQ => by
    unfold runOpsD at h
    have hwant := wanted_sound ha (ops := ops) (o := o)
    unfold wpListIn
    rw [← hwant]
    cases hw : wantedC ops.toList a o with
    | false =>
      rw [hw] at h
      simp only [cond_false] at h
      split at h
      · rename_i a2 hp
        simp only [Bool.false_eq_true, if_false]
        exact ⟨about_wide, runOpsD_sound hih rest a2 S h (fun o ho => hc o (by simp [ho])) ρ w _ hs (ha.put hp (VR.undef _)) hQ⟩
      · cases h
    | true =>
      rw [hw] at h
      simp only [cond_true] at h
      simp only [if_true]
      refine ⟨about_wide, ?_⟩
      split at h
      · rename_i c ho
        split at h
        · rename_i d hd
          split at h
          · rename_i a2 hp
            unfold deferC at hd
            split at hd
            · rename_i fv hcal
              split at hd
              · rename_i fn first cap hf
                cases hd
                have hops : ∀ x, x ∈ o.op.operands → VR ρ (a.ev x) (ar.eval x) := ha.evs hs (hc o (by simp))
                have hv := hops fv (by rw [ho]; simp [Op.operands, Call.operands, hcal])
                rw [hf] at hv
                generalize hg : ar.eval fv = gv at hv
                cases hv with
                | func _ hfl hfr hcl hcr =>
                  rename_i a'' a' b b'
                  have hres : (resolve ar.eval c o.type).run P w = .ok { target := .fn (.func fn) ⟨b'⟩, args := ⟨a'⟩ ++ c.args.map ar.eval } w := by
                    simp [resolve, hcal, hg, Deferred.ofValue]
                  show o.uponIn (FW none) 0 P ar _ Q ((execOp ar.eval o).run P w)
                  rw [isDefer_step ho _ _ hres]
                  show wpListIn (FW none) 0 P ops Q rest _ w
                  have hact : ActR ρ { a with defers := { target := .fn (.func fn) ⟨b⟩, args := ((⟨a''⟩ : Array Value).toList ++ c.args.toList.map a.ev).toArray } :: a.defers } { ar with defers := { target := .fn (.func fn) ⟨b'⟩, args := ⟨a'⟩ ++ c.args.map ar.eval } :: ar.defers } := by
                    refine ⟨ha.le, ha.tm, .cons (.inr ⟨fn, ⟨b⟩, ⟨b'⟩, rfl, rfl, ⟨hcl, hcr⟩, ?_⟩) ha.df⟩
                    simp only [Array.toList_append]
                    exact VRs.append ⟨hfl, hfr⟩ (by
                      have := VRs.mapOps (ρ := ρ) (f := a.ev) (g := ar.eval) c.args.toList (fun x hx => hops x (by rw [ho]; simp [Op.operands, Call.operands, hcal]; exact .inr (by simpa using hx)))
                      simpa using this)
                  exact runOpsD_sound hih rest a2 S h (fun o ho => hc o (by simp [ho])) ρ w _ hs (hact.put hp (VR.undef _)) hQ
              · cases hd
            · cases hd
          · cases h
        · cases h
      · split at h
        · rename_i v S2 hst
          split at h
          · rename_i a2 hp
            refine step_sound hih hs (ha.evs hs (hc o (by simp))) hst ⟨?_, ?_⟩
            · intro v2 e2 ρ' v' w' h1 h2 h3
              cases e2
              exact runOpsD_sound hih rest a2 S2 h (fun o ho => hc o (by simp [ho])) ρ' w' _ h3 ((ha.mono h1).put hp h2) (fun e' ar' w' hg => hQ _ _ _ (hg.mono h1))
            · intro c e2; cases e2
          · cases h
        · rename_i ch S2 hst
          simp only [Option.some.injEq, Prod.mk.injEq] at h
          obtain ⟨rfl, rfl, rfl⟩ := h
          refine step_sound hih hs (ha.evs hs (hc o (by simp))) hst ⟨?_, ?_⟩
          · intro v2 e2; cases e2
          · intro c e2 ρ' c' w' h1 h2 h3
            cases e2
            exact hQ _ _ _ ⟨ρ', h1, .pan h2, ha.mono h1, h3⟩
        · cases h

theorem execX_sound {ih : Fns} (hih : FnsSound P w0 ih) : ∀ (n : Nat) (code : Code) (a : Ca) (S : St) (e : Exit) (a1 : Ca) (S1 : St), execX P ih n code a S = some (e, a1, S1) →
    ∀ (ρ : Rmap) (w : World) (ar : Act), Sim P w0 ρ S w → ActR ρ a ar → code.wpIn (FW none) 0 P (ExitGood P w0 ρ e a1 S1) ar w
  | 0, _, _, _, _, _, _, h, _, _, _, _, _ => by cases h
  | n + 1, code, a, S, e, a1, S1, h, ρ, w, ar, hs, ha => by
    unfold execX at h
    split at h
    · rename_i id ops draw
      cases hd : hasDefer ops.toList with
      | false =>
        rw [hd] at h
        exact hih.exec _ _ _ _ _ _ _ h ρ w ar none hs ha (.inl ⟨rfl, rfl⟩)
      | true =>
        rw [hd] at h
        simp only [cond_true] at h
        cases hc : (draw || !constsOk P ops.toList) with
        | true => rw [hc] at h; cases h
        | false =>
          rw [hc] at h
          simp only [cond_false] at h
          simp only [Bool.or_eq_false_iff, Bool.not_eq_false'] at hc
          obtain ⟨rfl, hc⟩ := hc
          exact wpIn_region_list (runOpsD_sound hih ops.toList a S h (constsOk_spec hc) ρ w ar hs ha fun _ _ _ h => h)
    · rename_i x y
      refine wpIn_seq ?_
      split at h
      · rename_i a2 S2 hx
        refine wpIn_mono (execX_sound hih n x _ _ _ _ _ hx ρ w ar hs ha) ?_
        rintro e2 ar2 w2 ⟨ρ2, h1, h2, h3, h4⟩
        cases h2
        exact wpIn_mono (execX_sound hih n y _ _ _ _ _ h ρ2 w2 ar2 h4 h3) fun _ _ _ hg => hg.mono h1
      · rename_i hne
        refine wpIn_mono (execX_sound hih n x _ _ _ _ _ h ρ w ar hs ha) ?_
        rintro e2 ar2 w2 ⟨ρ2, h1, h2, h3, h4⟩
        cases h2 with
        | normal => exact absurd h (hne _ _)
        | exit id => exact ⟨ρ2, h1, .exit id, h3, h4⟩
        | ret => exact ⟨ρ2, h1, .ret, h3, h4⟩
        | pan hp => exact ⟨ρ2, h1, .pan hp, h3, h4⟩
    · rename_i c x y
      split at h
      · rename_i t hc
        refine wpIn_cond (bool_ev ha hc) ?_
        cases t <;> exact execX_sound hih n _ _ _ _ _ _ h ρ w ar hs ha
      · cases h
    · exact hih.exec _ _ _ _ _ _ _ h ρ w ar none hs ha (.inl ⟨rfl, rfl⟩)

theorem enterD_sound {ih : Fns} (hih : FnsSound P w0 ih) {f : FuncId} {args : List Value} {S S' : St} {e : Ending} (h : enterD P ih f args S = some (e, S'))
    {ρ : Rmap} {w : World} {args' : Array Value} (hs : Sim P w0 ρ S w) (hv : VRs ρ args args'.toList) : NextUp P (EndGood P w0 ρ e S') ((callFunc f args').run P w) := by
  unfold enterD at h
  split at h
  · rename_i fn hf
    split at h
    · rename_i c hb
      cases hc : ((fn.name == "runtime.NumGoroutine") || Nat.blt 256 (maxN fn.ntmps args.length)) with
      | true => rw [hc] at h; cases h
      | false =>
        rw [hc] at h
        simp only [cond_false] at h
        rw [Bool.or_eq_false_iff] at hc
        rw [run_callFunc hf hb hc.1]
        have hle : maxN fn.ntmps args.length ≤ 256 := by
          have := hc.2
          rw [PT.blt_iff] at this
          simpa using this
        show CallsIn Fence.wide 0 P f args' w (EndGood P w0 ρ e S')
        split at h
        · rename_i e1 a1 S1 hx
          refine callsIn_of_wp_marks hf hb trivial ?_
          refine wpIn_mono (execX_sound hih 1000 c _ _ _ _ _ hx ρ w _ hs (enter_act hv hle)) ?_
          rintro e2 ar2 w2 ⟨ρ2, h1, h2, h3, h4⟩
          have key : ∀ m u, ModeR ρ2 m u → endD P a1 fn.results.toList (leaveD P a1.defers m S1) = some (e, S') → LeavesInM Fence.wide 0 P fn ar2.tmps (EndGood P w0 ρ e S') ar2.defers u w2 := by
            intro m u hm h
            cases hl : leaveD P a1.defers m S1 with
            | none => rw [hl] at h; cases h
            | some x =>
              obtain ⟨m3, S3⟩ := x
              rw [hl] at h
              refine leaveD_sound (ρ0 := ρ2) (fun ρ3 u3 w3 k1 k2 k3 => ?_) a1.defers m S1 ar2.defers u ρ2 w2 hl (Ext.refl _) h3.df hm h4
              exact endD_sound h (h1.trans k1) (h3.mono k1) k2 k3
          cases h2 with
          | normal => exact key _ _ .ret h
          | ret => exact key _ _ .ret h
          | exit id => cases h
          | pan hp => exact key _ _ (.pan hp) h
        · cases h
    · cases h
  · cases h

end Go.Cm
