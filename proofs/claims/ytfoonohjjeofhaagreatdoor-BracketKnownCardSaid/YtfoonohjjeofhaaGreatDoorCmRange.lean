/-
  CM, part 15: a range over a function; its rounds; functions.
-/
import Derived.Test.YtfoonohjjeofhaaGreatDoorCmExec
namespace Go.Cm
open Go
variable {P : Program} {w0 : Base} {K : Known}

theorem wput_putObj {w : World} {r : Nat} {o o' : Obj} (h : w.heap[r]? = some o) : WPut r o' w (w.putObj r o') := by
  have hlt : r < w.heap.size := (Array.getElem?_eq_some_iff.1 h).1
  refine ⟨fun k hk => ?_, ?_, ?_, rfl, rfl⟩
  · simp only [World.putObj]
    rw [Array.getElem?_setIfInBounds, if_neg (fun e => hk e.symm)]
  · simp [World.putObj, hlt]
  · simp [World.putObj]

theorem loopOf_spec {S : St} {l : Nat} {st : LoopState} {p : Option Code} {n : Nat} {t : Tm} {ps : List Tmp} {x y : Code} {d : Nat} (h : loopOf S l = some (st, p, n, t, ps, x, y, d)) : S.get l = some (.loop st p n t ps x y d) := by
  unfold loopOf at h
  split at h
  · rename_i hg
    simp only [Option.some.injEq, Prod.mk.injEq] at h
    obtain ⟨rfl, rfl, rfl, rfl, rfl, rfl, rfl, rfl⟩ := h
    exact hg
  · cases h

/-- a loop's record turned -/
theorem Sim.putLoop {ρ : Rmap} {S : St} {w : World} (hs : Sim P w0 ρ S w) {l : Nat} {L : Loc} (hl : ρ l = some L) {st st' : LoopState} {p p' : Option Code} {n : Nat} {t : Tm} {ps : List Tmp} {x y : Code} {d : Nat}
    (hB : S.get l = some (.loop st p n t ps x y d)) : ∃ (r : Loop), w.heap[L.r]? = some (.loop r) ∧ r.state = st ∧ r.pending = p ∧
      Sim P w0 ρ (S.set l (.loop st' p' n t ps x y d)) (w.putObj L.r (.loop { r with state := st', pending := p' })) := by
  obtain ⟨fn, tmps, D, h1, h2, h3⟩ := hs.blk _ _ _ hl hB
  refine ⟨_, h1, rfl, rfl, ?_⟩
  have := Sim.put hs (B' := .loop st' p' n t ps x y d) hl hB rfl (wput_putObj h1 (o' := .loop { state := st', pending := p', fn := fn, tmps := tmps, params := ps.toArray, assign := x, body := y, defers := D.r })) ⟨fn, tmps, D, rfl, h2, h3⟩
  exact this

theorem bodied_run {fn : Fn} (h : bodied P fn = true) (cap args : Array Value) (w : World) : ∃ f, fn = .func f ∧ (invoke (.fn fn cap) args).run P w = .ok (.enter f (args ++ cap)) w := by
  unfold bodied at h
  split at h
  · rename_i f
    split at h
    · rename_i F hF
      simp only [Bool.and_eq_true, Bool.not_eq_true'] at h
      refine ⟨f, rfl, ?_⟩
      have h1 : F.name ≠ "runtime.NumGoroutine" := by simpa using h.1
      have hb : F.body ≠ none := by
        intro hb; rw [hb] at h; simp at h
      simp [invoke, callFunc, hF, h1, hb]
    · cases h
  · cases h

theorem range_rest {ih : Fns} (hih : FnsSound P w0 ih) {ro' : Option Nat} {g : Operand} {ps : Array Tmp} {x y : Code} {a a1 : Ca} {S S1 : St} {e : Exit} {ρ ρ1 : Rmap} {w1 : World} {ar : Act} {f0 : FuncId} {d : Nat} {D : Loc} {mark mark' : List Deferred}
    {fn fn' : Fn} {first cap first' cap' : Array Value} (hx : Ext ρ ρ1) (hs : Sim P w0 ρ1 S w1) (ha : ActR ρ1 a ar) (hd : ρ1 d = some D) (hm : DefsR ρ1 mark mark') (hg : ar.eval g = .func fn' first' cap')
    (hf : VR ρ1 (.func fn #[] cap) (.func fn' #[] cap')) (hv : VRs ρ1 first.toList first'.toList) (hb : bodied P fn = true)
    (h : (match S.new (.loop .ready none a.n a.t ps.toList x y d) with
        | (l, S2) => match ih.call (.fn fn cap) (first.toList ++ [.func (.yield l) #[] #[]]) S2 with
          | some (.returned _, S3) => match loopOf S3 l with
            | some (st, p, n, t, ps, x, y, d) => bif (st == LoopState.busy) then none else
              match { a with defers := mark ++ a.defers }, S3.set l (.loop .exhausted p n t ps x y d) with
              | a', S4 => match p with
                | none => some (Exit.normal, a', S4)
                | some .ret => some (.ret, a', S4)
                | some (.exit id) => some (.exit id, a', S4)
                | _ => none
            | none => none
          | some (.panicked ch, S3) => some (.panic ch, { a with defers := mark ++ a.defers }, S3)
          | _ => none) = some (e, a1, S1)) :
    ∃ (d' : Deferred) (w₁' : World) (f : FuncId) (args : Array Value) (w₂ : World),
      (resolve ar.eval (rangeCall g w1.heap.size) 0).run P (w1.alloc (.loop { state := .ready, pending := none, fn := f0, tmps := ar.tmps, params := ps, assign := x, body := y, defers := D.r })) = .ok d' w₁' ∧
      (invoke d'.target d'.args).run P w₁' = .ok (.enter f args) w₂ ∧
      CallsIn (FW ro') 0 P f args w₂ (rangePost (FW ro') 0 P w1.heap.size (ExitGood P w0 ρ e a1 S1) { ar with defers := mark' ++ ar.defers }) := by
  obtain ⟨hx2, hs2⟩ := hs.add (B := .loop .ready none a.n a.t ps.toList x y d) (o := .loop { state := .ready, pending := none, fn := f0, tmps := ar.tmps, params := ps, assign := x, body := y, defers := D.r }) (L := ⟨w1.heap.size, 0, 0, 0⟩) rfl
    ⟨f0, ar.tmps, D, rfl, ha.tm.mono (ext_upd _ (by
      cases hx : ρ1 S.size with
      | none => rfl
      | some M => exact absurd (hs.dom _ _ hx).1 (Nat.lt_irrefl _))), ext_upd _ (by
      cases hx : ρ1 S.size with
      | none => rfl
      | some M => exact absurd (hs.dom _ _ hx).1 (Nat.lt_irrefl _)) _ _ hd⟩
  generalize hw2 : w1.alloc (.loop { state := .ready, pending := none, fn := f0, tmps := ar.tmps, params := ps, assign := x, body := y, defers := D.r }) = w2 at hs2 ⊢
  generalize hρ2 : upd ρ1 S.size ⟨w1.heap.size, 0, 0, 0⟩ = ρ2 at hx2 hs2
  have hl2 : ρ2 S.size = some ⟨w1.heap.size, 0, 0, 0⟩ := by rw [← hρ2]; exact upd_same _ _ _
  simp only [St.new] at h
  have hfn : ∃ f, fn = .func f ∧ fn' = .func f := by
    obtain ⟨f, e1, _⟩ := bodied_run hb #[] #[] w1
    subst e1
    cases hf with
    | func f _ _ _ _ => exact ⟨f, rfl, rfl⟩
  obtain ⟨f, rfl, rfl⟩ := hfn
  refine ⟨{ target := .fn (.func f) cap', args := first' ++ #[.func (.yield w1.heap.size) #[] #[]] }, w2, f, (first' ++ #[.func (.yield w1.heap.size) #[] #[]]) ++ cap', w2, ?_, ?_, ?_⟩
  · have e1 : ar.eval (.const (.func (.yield w1.heap.size) #[] #[])) = .func (.yield w1.heap.size) #[] #[] := rfl
    simp [resolve, hg, Deferred.ofValue, e1]
  · obtain ⟨f', e1, e2⟩ := bodied_run hb cap' (first' ++ #[.func (.yield w1.heap.size) #[] #[]]) w2
    cases e1
    exact e2
  · have key : ∀ E S3, ih.call (.fn (.func f) cap) (first.toList ++ [.func (.yield S.size) #[] #[]]) ⟨S.heap.set S.size (some (.loop .ready none a.n a.t ps.toList x y d)), S.size + 1⟩ = some (E, S3) →
        CallsIn Fence.wide 0 P f ((first' ++ #[.func (.yield w1.heap.size) #[] #[]]) ++ cap') w2 (EndGood P w0 ρ2 E S3) := by
      intro E S3 hcall
      have := hih.call _ _ _ _ _ hcall ρ2 w2 (.fn (.func f) cap') (first' ++ #[.func (.yield w1.heap.size) #[] #[]]) hs2 ⟨_, _, _, _, rfl, rfl, hf.mono hx2⟩ (by
        rw [Array.toList_append]
        exact (hv.mono hx2).append (VRs.cons (.yield hl2) VRs.nil))
      obtain ⟨f', e1, e2⟩ := bodied_run hb cap' (first' ++ #[.func (.yield w1.heap.size) #[] #[]]) w2
      cases e1
      rw [e2] at this
      exact this
    split at h
    · rename_i v S3 hcall
      refine CallsIn.to_FW (CallsIn.mono (key _ _ hcall) ?_)
      rintro e' w3 ⟨ρ3, h1, h2, h3⟩
      cases h2 with
      | ret hv3 =>
        split at h
        · rename_i st p n t ps2 x2 y2 d2 hlo
          have hB := loopOf_spec hlo
          obtain ⟨r, hr, hst, hp, hs4⟩ := Sim.putLoop (st' := .exhausted) (p' := p) h3 (h1 _ _ hl2) hB
          cases hbusy : (st == LoopState.busy) with
          | true => rw [hbusy] at h; cases h
          | false =>
            rw [hbusy] at h
            simp only [cond_false] at h
            have hnb : r.state ≠ .busy := by
              rw [hst]; intro e; rw [e] at hbusy; exact absurd hbusy (by decide)
            have hend := run_endLoop (P := P) hr hnb
            rw [hp] at hend
            have hact : ActR ρ3 { a with defers := mark ++ a.defers } { ar with defers := mark' ++ ar.defers } :=
              ⟨ha.le, (ha.tm.mono hx2).mono h1, ((hm.mono hx2).mono h1).append ((ha.df.mono hx2).mono h1)⟩
            have hxx : Ext ρ ρ3 := hx.trans (hx2.trans h1)
            refine ⟨p, _, hend, ?_⟩
            split at h
            · simp only [Option.some.injEq, Prod.mk.injEq] at h
              obtain ⟨rfl, rfl, rfl⟩ := h
              exact ⟨ρ3, hxx, .normal, hact, hs4⟩
            · simp only [Option.some.injEq, Prod.mk.injEq] at h
              obtain ⟨rfl, rfl, rfl⟩ := h
              exact wpIn_ret ⟨ρ3, hxx, .ret, hact, hs4⟩
            · simp only [Option.some.injEq, Prod.mk.injEq] at h
              obtain ⟨rfl, rfl, rfl⟩ := h
              exact wpIn_exit ⟨ρ3, hxx, .exit _, hact, hs4⟩
            · cases h
        · cases h
    · rename_i ch S3 hcall
      simp only [Option.some.injEq, Prod.mk.injEq] at h
      obtain ⟨rfl, rfl, rfl⟩ := h
      refine CallsIn.to_FW (CallsIn.mono (key _ _ hcall) ?_)
      rintro e' w3 ⟨ρ3, h1, h2, h3⟩
      cases h2 with
      | pan hp => exact ⟨ρ3, hx.trans (hx2.trans h1), .pan hp, ⟨ha.le, (ha.tm.mono hx2).mono h1, ((hm.mono hx2).mono h1).append ((ha.df.mono hx2).mono h1)⟩, h3⟩
    · cases h

theorem ext_add {ρ : Rmap} {S : St} {w : World} (hs : Sim P w0 ρ S w) (L : Loc) : Ext ρ (upd ρ S.size L) := ext_upd L (by
  cases hx : ρ S.size with
  | none => rfl
  | some M => exact absurd (hs.dom _ _ hx).1 (Nat.lt_irrefl _))

theorem range_sound {ih : Fns} (hih : FnsSound P w0 ih) : RangeSound P w0 ih := by
  intro ro g ps x y a S e a1 S1 h ρ w ar ro' hs ha hro
  simp only [execF] at h
  split at h
  · rename_i fn first cap hev
    cases hc : (isConst g || !bodied P fn) with
    | true => rw [hc] at h; cases h
    | false =>
      rw [hc] at h
      simp only [cond_false] at h
      rw [Bool.or_eq_false_iff] at hc
      have hb : bodied P fn = true := by simpa using hc.2
      have hv : VR ρ (a.ev g) (ar.eval g) := by
        cases g with
        | tmp t => exact ha.get t
        | const v => exact absurd hc.1 (by simp [isConst])
        | global k => cases hev
        | func f => exact (Flat.func f).refl ρ
      rw [hev] at hv
      obtain ⟨fn', first', cap', hg', h1, h2⟩ := hv.func_inv
      refine wpIn_rangeFunc fun f0 _ => ?_
      rcases hro with ⟨rfl, rfl⟩ | ⟨l, L, rfl, hl, rfl⟩
      · simp only [St.new] at h
        obtain ⟨hx1, hs1⟩ := hs.add (B := .defs false) (o := .deferred (some [])) (L := ⟨w.heap.size, 0, 0, 0⟩) rfl rfl
        have hd : upd ρ S.size ⟨w.heap.size, 0, 0, 0⟩ S.size = some ⟨w.heap.size, 0, 0, 0⟩ := upd_same _ _ _
        obtain ⟨d', w1', f, args, w2, r1, r2, r3⟩ := range_rest (ro' := none) (f0 := f0) (mark' := [{ target := .collected w.heap.size, args := #[] }]) hih hx1 hs1 (ha.mono hx1) hd (.cons (.inl ⟨_, _, rfl, hd, rfl⟩) .nil) hg' (h1.mono hx1) (h2.mono hx1) hb h
        refine ⟨_, _, _, d', w1', f, args, w2, run_enterLoop_outer _ _ _ _ _, ?_, fun _ _ => trivial, r2, fun h => by simp [FW, Fence.wide] at h, ?_⟩
        · rw [World.size_alloc] at r1
          exact r1
        · rw [World.size_alloc] at r3
          exact r3
      · simp only at h
        cases hlo : loopOf S l with
        | none => rw [hlo] at h; cases h
        | some q =>
          obtain ⟨st, p, n, t, ps2, x2, y2, d⟩ := q
          rw [hlo] at h
          simp only at h
          obtain ⟨fn2, tmps2, D, q1, q2, q3⟩ := hs.blk _ _ _ hl (loopOf_spec hlo)
          obtain ⟨d', w1', f, args, w2, r1, r2, r3⟩ := range_rest (ro' := some L.r) (f0 := f0) (mark' := []) hih (Ext.refl ρ) hs ha q3 .nil hg' h1 h2 hb h
          exact ⟨_, _, _, d', w1', f, args, w2, run_enterLoop_inner q1 _ _ _ _ _, r1, fun _ _ => trivial, r2, fun h => by simp [FW, Fence.wide] at h, r3⟩
  · cases h

end Go.Cm
