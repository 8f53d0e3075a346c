/-
  CM, part 17: functions are entered; rounds; calls.
-/
import Derived.Test.YticgkdlipbmfgaaGreatDoorCmFunc
namespace Go.Cm
open Go
variable {P : Program} {w0 : Base} {K : Known}

/-- what is known of functions without a body -/
def ExtSound (P : Program) (K : Known) : Prop :=
  ∀ (w0 : Base) f args v fn S S', K.ext f args S = some (v, S') → P.funcs[f]? = some fn → fn.body = none → ∀ (ρ : Rmap) (w : World) (args' : Array Value), Sim P w0 ρ S w → VRs ρ args args'.toList →
    ∃ ρ' v' w', (callFunc f args').run P w = .ok (.value v') w' ∧ Ext ρ ρ' ∧ VR ρ' v v' ∧ Sim P w0 ρ' S' w'

/-- nothing old was turned -/
structure Kept (W w : World) : Prop where
  size : W.heap.size ≤ w.heap.size
  old : ∀ i, i < W.heap.size → w.heap[i]? = W.heap[i]?
  os : w.os = W.os
  out : w.output = W.output
theorem Kept.refl (W : World) : Kept W W := ⟨Nat.le_refl _, fun _ _ => rfl, rfl, rfl⟩
theorem Kept.trans {a b c : World} (h : Kept a b) (k : Kept b c) : Kept a c :=
  ⟨Nat.le_trans h.size k.size, fun i hi => (k.old i (Nat.lt_of_lt_of_le hi h.size)).trans (h.old i hi), k.os.trans h.os, k.out.trans h.out⟩
theorem Sim.kept {ρ : Rmap} {S : St} {w : World} (h : Sim P w0 ρ S w) : Kept w0.toWorld w := ⟨h.size, h.old, h.os, h.out⟩
theorem Sim.later {ρ : Rmap} {S : St} {w w' : World} (h : Sim P w0 ρ S w) (k : Kept w w') : Sim P w0 ρ S w' := by
  refine ⟨Nat.le_trans h.size k.size, fun i hi => (k.old i (Nat.lt_of_lt_of_le hi h.size)).trans (h.old i hi), k.os.trans h.os, k.out.trans h.out, fun b L hb => ⟨(h.dom b L hb).1, Nat.lt_of_lt_of_le (h.dom b L hb).2 k.size⟩, fun b L B hb hB => ?_, h.own, h.glob, h.no⟩
  rw [k.old _ (h.dom b L hb).2]
  exact h.blk b L B hb hB
/-- what is known of functions that are not entered -/
structure KnownSound (P : Program) (K : Known) (W : World) : Prop where
  ext : ExtSound P K
  call : ∀ f args v, K.call f args = some v → args = [] ∧ (∀ ρ : Rmap, VR ρ v v) ∧ ∃ fn c, P.funcs[f]? = some fn ∧ fn.body = some c ∧ (fn.name == "runtime.NumGoroutine") = false ∧
    ∀ w, Kept W w → Calls P f #[] w fun e w' => e = .returned v ∧ Kept w w'

theorem run_callFunc {f : FuncId} {fn : Func} {c : Code} (hf : P.funcs[f]? = some fn) (hb : fn.body = some c) (hn : (fn.name == "runtime.NumGoroutine") = false) (args : Array Value) (w : World) :
    (callFunc f args).run P w = .ok (.enter f args) w := by
  have h1 : fn.name ≠ "runtime.NumGoroutine" := by simpa using hn
  simp [callFunc, hf, h1, hb]

theorem mapM_any {w : World} {rs : List ResultVar} {vs : List Value} (g g' : ResultVar → Sem Value) (h1 : ∀ t, g (.tmp t) = g' (.tmp t)) (h2 : ∀ x t, g (.cell x t) = g' (.cell x t))
    (h : (rs.mapM g').run P w = .ok vs w) : (rs.mapM g).run P w = .ok vs w := by
  have : g = g' := by
    funext x
    cases x with
    | tmp t => exact h1 t
    | cell x t => exact h2 x t
  rw [this]; exact h

theorem results_sound {ρ : Rmap} {S : St} {w : World} (hs : Sim P w0 ρ S w) {a : Ca} {ar : Act} (ha : ActR ρ a ar) {fn : Func} {vs : List Value} (h : resultsL P a S fn.results.toList = some vs) :
    ∃ vs' : List Value, VRs ρ vs vs' ∧ (results fn ar.tmps).run P w = .ok (if h : vs'.toArray.size = 1 then vs'.toArray[0] else .tuple vs'.toArray) w := by
  obtain ⟨vs', p, q⟩ := resultsL_sound hs ha _ _ h
  refine ⟨vs', q, ?_⟩
  unfold results
  rw [Array.mapM_eq_mapM_toList, Sem.run_bind, Sem.run_map]
  have key : ∀ r : Result (List Value), r = .ok vs' w → ((r.andThen fun a w' => .ok a.toArray w').andThen fun a w' => Sem.run P (pure (if h : a.size = 1 then a[0] else Value.tuple a)) w') =
      .ok (if h : vs'.toArray.size = 1 then vs'.toArray[0] else .tuple vs'.toArray) w := by
    rintro _ rfl
    simp only [Result.andThen_ok, Sem.run_pure]
  exact key _ (mapM_any _ _ (fun _ => rfl) (fun _ _ => rfl) p)

theorem leave_ret {fn : Func} {a1 : Ca} {S1 S' : St} {e : Ending} (h : (match takeMarks a1.defers S1 with
        | some S'' => match resultsL P a1 S'' fn.results.toList with
          | some [v] => some (Ending.returned v, S'')
          | some vs => some (.returned (.tuple vs.toArray), S'')
          | none => none
        | none => none) = some (e, S')) {ρ ρ2 : Rmap} (h1 : Ext ρ ρ2) {ar : Act} {w2 : World} (h3 : ActR ρ2 a1 ar) (h4 : Sim P w0 ρ2 S1 w2) :
    LeavesInM Fence.wide 0 P fn ar.tmps (EndGood P w0 ρ e S') ar.defers .returning w2 := by
  split at h
  · rename_i S2 htm
    have key : ∀ vs, resultsL P a1 S2 fn.results.toList = some vs → S2 = S' → e = .returned (match vs with | [v] => v | vs => .tuple vs.toArray) →
        LeavesInM Fence.wide 0 P fn ar.tmps (EndGood P w0 ρ e S') ar.defers .returning w2 := by
      intro vs hvs hS he
      refine takeMarks_sound (ρ := ρ2) (S2 := S2) (by simp) (fun w3 hw3 => ?_) a1.defers S1 ar.defers w2 htm h3.df h4
      obtain ⟨vs', hv, hr⟩ := results_sound hw3 h3 hvs
      refine ⟨_, hr, ρ2, h1, ?_, by rw [← hS]; exact hw3⟩
      rw [he]
      have hl := hv.1
      match vs, vs', hv, hl with
      | [v], [v'], hv, _ => simp only [List.size_toArray, List.length_singleton, dite_true]; exact .ret hv.head
      | [], [], hv, _ => exact .ret (VR.tuple' hv)
      | v :: u :: r, v' :: u' :: r', hv, _ => simp only [List.size_toArray, List.length_cons, Nat.add_eq_right]; exact .ret (VR.tuple' hv)
      | [], _ :: _, _, hl => simp at hl
      | _ :: _, [], _, hl => simp at hl
      | [_], _ :: _ :: _, _, hl => simp at hl
      | _ :: _ :: _, [_], _, hl => simp at hl
    split at h
    · rename_i v hvs
      simp only [Option.some.injEq, Prod.mk.injEq] at h
      exact key _ hvs h.2 h.1.symm
    · rename_i vs hne hvs
      simp only [Option.some.injEq, Prod.mk.injEq] at h
      refine key _ hvs h.2 ?_
      rw [← h.1]
      match vs, hne with
      | [v], hne => exact absurd rfl (hne v)
      | [], _ => rfl
      | _ :: _ :: _, _ => rfl
    · cases h
  · cases h

theorem maxN_eq (a b : Nat) : maxN a b = max a b := by
  unfold maxN
  cases h : Nat.ble a b with
  | true => have := Nat.le_of_ble_eq_true h; simp only [cond_true]; omega
  | false =>
    have : ¬ a ≤ b := fun e => by rw [Nat.ble_eq_true_of_le e] at h; cases h
    simp only [cond_false]; omega

theorem enter_act {ρ : Rmap} {args : List Value} {args' : Array Value} (hv : VRs ρ args args'.toList) {n : Nat} (hn : maxN n args.length ≤ 256) :
    ActR ρ { n := maxN n args.length, t := PT.ofList 0 (PT.nil 8) args, defers := [] } { tmps := args' ++ Array.replicate (n - args'.size) undef, defers := [] } := by
  have hl : args.length = args'.size := by have := hv.1; simpa using this
  have hm := maxN_eq n args.length
  refine ⟨hn, ⟨by simp only [Array.size_append, Array.size_replicate]; omega, fun i => ?_⟩, .nil⟩
  have hg : getT (PT.ofList 0 (PT.nil 8) args) i = (args[i]?).getD undef := by
    unfold getT
    rw [PT.get_ofList args 0 _ i (by omega)]
    by_cases h : i < args.length
    · rw [if_pos (by omega)]
      simp [h]
    · rw [if_neg (by omega), PT.get_nil]
      simp [List.getElem?_eq_none (Nat.le_of_not_lt h)]
  rw [hg, Array.getD_eq_getD_getElem?]
  by_cases h : i < args.length
  · obtain ⟨v', h1, h2⟩ := hv.get (List.getElem?_eq_getElem h)
    rw [Array.getElem?_append_left (by omega), ← Array.getElem?_toList, h1, List.getElem?_eq_getElem h]
    exact h2
  · rw [List.getElem?_eq_none (Nat.le_of_not_lt h), Array.getElem?_append_right (by omega)]
    have : ((Array.replicate (n - args'.size) undef)[i - args'.size]?).getD undef = undef := by
      rw [Array.getElem?_replicate]; split <;> rfl
    rw [this]
    exact VR.undef ρ

theorem enterB_sound {ih : Fns} (hih : FnsSound P w0 ih) (hK : ExtSound P K) {f : FuncId} {args : List Value} {S S' : St} {e : Ending} (h : enterB P K ih f args S = some (e, S'))
    {ρ : Rmap} {w : World} {args' : Array Value} (hs : Sim P w0 ρ S w) (hv : VRs ρ args args'.toList) : NextUp P (EndGood P w0 ρ e S') ((callFunc f args').run P w) := by
  unfold enterB at h
  split at h
  · rename_i fn hf
    split at h
    · rename_i c hb
      cases hc : ((fn.name == "runtime.NumGoroutine") || Nat.blt 256 (maxN fn.ntmps args.length)) with
      | true => rw [hc] at h; cases h
      | false =>
        rw [hc] at h
        simp only [cond_false] at h
        rw [Bool.or_eq_false_iff] at hc
        rw [run_callFunc hf hb hc.1]
        have hle : maxN fn.ntmps args.length ≤ 256 := by
          have := hc.2
          rw [PT.blt_iff] at this
          simpa using this
        show CallsIn Fence.wide 0 P f args' w (EndGood P w0 ρ e S')
        split at h
        · rename_i e1 a1 S1 hx
          refine callsIn_of_wp_marks hf hb trivial ?_
          refine wpIn_mono (hih.exec none c _ _ _ _ _ hx ρ w _ none hs (enter_act hv hle) (.inl ⟨rfl, rfl⟩)) ?_
          rintro e2 ar2 w2 ⟨ρ2, h1, h2, h3, h4⟩
          cases h2 with
          | normal => exact leave_ret h h1 h3 h4
          | ret => exact leave_ret h h1 h3 h4
          | exit id => cases h
          | pan hp =>
            simp only at h
            split at h
            · rename_i S2 htm
              simp only [Option.some.injEq, Prod.mk.injEq] at h
              obtain ⟨rfl, rfl⟩ := h
              exact takeMarks_sound (ρ := ρ2) (S2 := S2) (by simp) (fun w3 hw3 => by exact ⟨ρ2, h1, .pan hp, hw3⟩) a1.defers S1 ar2.defers w2 htm h3.df h4
            · cases h
        · cases h
    · rename_i hb
      split at h
      · rename_i v S1 hk
        simp only [Option.some.injEq, Prod.mk.injEq] at h
        obtain ⟨rfl, rfl⟩ := h
        obtain ⟨ρ', v', w', a, b, c, d⟩ := hK w0 f args v fn S _ hk hf hb ρ w args' hs hv
        rw [a]
        exact ⟨ρ', b, .ret c, d⟩
      · cases h
  · cases h

theorem enter_sound {ih : Fns} (hih : FnsSound P w0 ih) (hK : KnownSound P K w0.toWorld) {f : FuncId} {args : List Value} {S S' : St} {e : Ending} (h : enterF P K ih f args S = some (e, S'))
    {ρ : Rmap} {w : World} {args' : Array Value} (hs : Sim P w0 ρ S w) (hv : VRs ρ args args'.toList) : NextUp P (EndGood P w0 ρ e S') ((callFunc f args').run P w) := by
  unfold enterF at h
  split at h
  · rename_i v hc
    cases h
    obtain ⟨rfl, hfl, fn, c, hf, hb, hn, hcall⟩ := hK.call f args v hc
    have ha : args' = #[] := by apply Array.ext'; simpa using hv.nil_inv
    subst ha
    rw [run_callFunc hf hb hn]
    show CallsIn Fence.wide 0 P f #[] w _
    refine callsIn_wide.2 ((hcall w hs.kept).mono ?_)
    rintro e' w' ⟨rfl, hk⟩
    exact ⟨ρ, Ext.refl _, .ret (hfl ρ), hs.later hk⟩
  · exact enterB_sound hih hK.ext h hs hv

theorem setParams_sound {ρ : Rmap} {n : Nat} (hn : n ≤ 256) (g : Array Value → Tmp × Value → Array Value) (hg : ∀ tm t a, g tm (t, a) = tm.setIfInBounds t a) :
    ∀ (ps : List Tmp) (vs vs' : List Value) (t t' : Tm) (tmps : Array Value), setParams n t ps vs = some t' → VRs ρ vs vs' → TmR ρ n t tmps →
      vs'.length = ps.length ∧ TmR ρ n t' ((ps.zip vs').foldl g tmps) := by
  intro ps
  induction ps with
  | nil =>
    intro vs vs' t t' tmps h hv ht
    cases vs with
    | nil =>
      simp only [setParams, Option.some.injEq] at h
      subst h
      have := hv.nil_inv
      subst this
      exact ⟨rfl, ht⟩
    | cons v vs => cases h
  | cons p ps ih =>
    intro vs vs' t t' tmps h hv ht
    cases vs with
    | nil => cases h
    | cons v vs =>
      obtain ⟨v', l', rfl, h1, h2⟩ := hv.cons_inv
      simp only [setParams] at h
      cases hb : Nat.blt p n with
      | false => rw [hb] at h; cases h
      | true =>
        rw [hb] at h
        simp only [cond_true] at h
        obtain ⟨q1, q2⟩ := ih vs l' _ t' (tmps.setIfInBounds p v') h h2 (ht.set (nblt_tt hb) hn h1)
        refine ⟨by simp [q1], ?_⟩
        simp only [List.zip_cons_cons, List.foldl_cons, hg]
        exact q2

theorem round_sound {ih : Fns} (hih : FnsSound P w0 ih) {l : Nat} {args : List Value} {S S' : St} {e : Ending} (h : roundF ih l args S = some (e, S'))
    {ρ : Rmap} {w : World} {args' : Array Value} {L : Loc} (hs : Sim P w0 ρ S w) (hl : ρ l = some L) (hv : VRs ρ args args'.toList) : NextUp P (EndGood P w0 ρ e S') ((Instr.yield L.r args').run P w) := by
  unfold roundF at h
  split at h
  · rename_i p n t ps x y d hlo
    cases hn : Nat.blt 256 n with
    | true => rw [hn] at h; cases h
    | false =>
      rw [hn] at h
      simp only [cond_false] at h
      rw [PT.blt_iff] at hn
      have hn : n ≤ 256 := by simpa using hn
      split at h
      · rename_i t' hset
        obtain ⟨fn, tmps, D, q1, q2, q3⟩ := hs.blk _ _ _ hl (loopOf_spec hlo)
        obtain ⟨hlen, hT⟩ := setParams_sound hn (fun (tmps : Array Value) (x : Tmp × Value) => tmps.setIfInBounds x.1 x.2) (fun _ _ _ => rfl) ps args args'.toList t t' tmps hset hv q2
        rw [run_yield q1 (by simpa using hlen)]
        show RoundIn Fence.wide 0 P L.r fn _ x y w _
        have hfold : (ps.toArray.zip args').foldl (fun tmps x => match x with | (t, a) => tmps.setIfInBounds t a) tmps = (ps.zip args'.toList).foldl (fun (tmps : Array Value) (x : Tmp × Value) => tmps.setIfInBounds x.1 x.2) tmps := by
          rw [← Array.foldl_toList, Array.toList_zip]
        split at h
        · rename_i a1 S1 hx
          refine roundIn_of_wpIn trivial ?_
          have hexec := hih.exec (some l) x _ _ _ _ _ hx ρ w { tmps := (ps.zip args'.toList).foldl (fun (tmps : Array Value) (x : Tmp × Value) => tmps.setIfInBounds x.1 x.2) tmps, defers := [] } (some L.r) hs ⟨hn, hT, .nil⟩ (.inr ⟨l, L, rfl, hl, rfl⟩)
          rw [← hfold] at hexec
          refine wpIn_mono hexec ?_
          rintro e2 ar2 w2 ⟨ρ2, h1, h2, h3, h4⟩
          cases h2
          split at h
          · rename_i p1 n1 t1 ps1 x1 y1 d1 hlo1
            obtain ⟨r, hr, hst, hp, hs2⟩ := Sim.putLoop (st' := .busy) (p' := p1) h4 (h1 _ _ hl) (loopOf_spec hlo1)
            have hbr := run_beginRound (P := P) hr hst
            rw [← hp] at hs2
            refine ⟨_, hbr, ?_⟩
            split at h
            · rename_i e3 a3 S3 hy
              rw [← hp] at hy
              refine wpIn_mono (hih.exec (some l) y _ _ _ _ _ hy ρ2 _ ar2 (some L.r) hs2 h3 (.inr ⟨l, L, rfl, h1 _ _ hl, rfl⟩)) ?_
              rintro e4 ar4 w4 ⟨ρ4, k1, k2, k3, k4⟩
              split at h
              · rename_i st2 p2 n2 t2 ps2 x2 y2 d2 hlo2
                have hl4 := k1 _ _ (h1 _ _ hl)
                cases k2 with
                | normal =>
                  simp only [Option.some.injEq, Prod.mk.injEq] at h
                  obtain ⟨rfl, rfl⟩ := h
                  obtain ⟨r, hr, hst, hp, hs5⟩ := Sim.putLoop (st' := .ready) (p' := none) k4 hl4 (loopOf_spec hlo2)
                  exact ⟨_, _, run_endRound none hr, ρ4, h1.trans k1, .ret (.bool _), hs5⟩
                | ret =>
                  simp only [Option.some.injEq, Prod.mk.injEq] at h
                  obtain ⟨rfl, rfl⟩ := h
                  obtain ⟨r, hr, hst, hp, hs5⟩ := Sim.putLoop (st' := .done) (p' := some .ret) k4 hl4 (loopOf_spec hlo2)
                  exact ⟨_, _, run_endRound (some .ret) hr, ρ4, h1.trans k1, .ret (.bool _), hs5⟩
                | exit id =>
                  simp only [Option.some.injEq, Prod.mk.injEq] at h
                  obtain ⟨rfl, rfl⟩ := h
                  obtain ⟨r, hr, hst, hp, hs5⟩ := Sim.putLoop (st' := .done) (p' := some (.exit id)) k4 hl4 (loopOf_spec hlo2)
                  exact ⟨_, _, run_endRound (some (.exit id)) hr, ρ4, h1.trans k1, .ret (.bool _), hs5⟩
                | pan hp => cases h
              · cases h
            · cases h
          · cases h
        · cases h
      · cases h
  · cases h

theorem rcv_same {t e : TypeId} (h : P.underlying t = some (.pointer e)) (v : Value) (wr : Option String) (w : World) : (receiverAt t (.val v) true wr).run P w = .ok v w := by
  simp [receiverAt, run_und w h, Place.get]
theorem rcv_val {t : TypeId} {d : TypeDesc} (h : P.underlying t = some d) (hd : ∀ e, d ≠ .pointer e) (v : Value) (wr : Option String) (w : World) : (receiverAt t (.val v) false wr).run P w = .ok v w := by
  cases d <;> first
    | exact absurd rfl (hd _)
    | simp [receiverAt, run_und w h, Place.get]
theorem run_wrap (ts : Array TypeId) (t : TypeId) (ad : Addr) (m : String) (w : World) : (Builtin.ssaWrapNilChk_ ts t #[.pointer (some ad), strVal "", strVal m]).run P w = .ok (.pointer (some ad)) w := by
  rfl
theorem rcv_load {ρ : Rmap} {S : St} {w : World} (hs : Sim P w0 ρ S w) {t e : TypeId} (hu : P.underlying t = some (.pointer e)) {v v' x : Value} (h : loadV P e v S = some x) (hv : VR ρ v v') :
    ∃ x', (∀ wr : Option String, (receiverAt t (.val v') false wr).run P w = .ok x' w) ∧ VR ρ x x' := by
  obtain ⟨x', p1, q1⟩ := load_sound hs h hv
  refine ⟨x', fun wr => ?_, q1⟩
  have hp : ∃ ad, v' = .pointer (some ad) := by
    unfold loadV at h
    split at h
    · cases hv with
      | ptr _ => exact ⟨_, rfl⟩
    · cases h
  obtain ⟨ad, rfl⟩ := hp
  have p2 : (loadVar e ad).run P w = .ok x' w := by simpa [Instr.loadAt, Instr.sureAddr] using p1
  have p3 : (asAddr (.pointer (some ad))).run P w = .ok ad w := by simp [asAddr]
  cases wr with
  | none => simp [receiverAt, run_und w hu, Place.get, p2, p3]
  | some m => simp [receiverAt, run_und w hu, Place.get, p2, p3, run_wrap]

theorem method_sound {ρ : Rmap} {S : St} {w : World} (hs : Sim P w0 ρ S w) {t : TypeId} {v x v' : Value} {name : String} {f : FuncId} (h : methodOf P t v name S = some (f, x)) (hv : VR ρ v v') :
    ∃ x', (∀ n, (method (n + 1) t v' name).run P w = .ok (f, x') w) ∧ VR ρ x x' := by
  unfold methodOf at h
  split at h
  · rename_i i hi
    split at h
    · rename_i m hm
      cases hp : m.path.isEmpty with
      | false => rw [hp] at h; cases h
      | true =>
        rw [hp] at h
        simp only [cond_true] at h
        have hpath : m.path.toList = [] := by simpa using hp
        split at h
        · rename_i g ptr hfn
          have key : ∀ x', (∀ wr : Option String, (receiverAt t (.val v') ptr wr).run P w = .ok x' w) → ∀ n, (method (n + 1) t v' name).run P w = .ok (g, x') w := by
            intro x' hx n
            simp [method, run_info w hi, hm, hpath, follow, hfn, hx]
          split at h
          · rename_i e hu
            simp only [Option.some.injEq, Prod.mk.injEq] at h
            obtain ⟨rfl, rfl⟩ := h
            exact ⟨v', key _ (fun wr => rcv_same hu v' wr w), hv⟩
          · rename_i e hu
            split at h
            · rename_i y hy
              simp only [Option.some.injEq, Prod.mk.injEq] at h
              obtain ⟨rfl, rfl⟩ := h
              obtain ⟨x', a, b⟩ := rcv_load hs hu hy hv
              exact ⟨x', key _ a, b⟩
            · cases h
          · rename_i dd hne hu
            simp only [Option.some.injEq, Prod.mk.injEq] at h
            obtain ⟨rfl, rfl⟩ := h
            exact ⟨v', key _ (fun wr => rcv_val hu (fun e he => hne e he) v' wr w), hv⟩
          · cases h
        · cases h
    · cases h
  · cases h

theorem run_invoke_method {t : TypeId} {v : Value} {name : String} {cap rest : Array Value} {w : World} {f : FuncId} {x : Value} (h : ∀ n, (method (n + 1) t v name).run P w = .ok (f, x) w) :
    (invoke (.fn (.method name) cap) (#[.iface t v] ++ rest)).run P w = (callFunc f (#[x] ++ rest)).run P w := by
  have e : ∃ n, P.types.size + Made.depth = n + 1 := ⟨P.types.size + Made.depth - 1, by
    have : 0 < Made.depth := by decide
    omega⟩
  obtain ⟨n, hn⟩ := e
  have h0 : (#[Value.iface t v] ++ rest)[0]? = some (.iface t v) := by rw [← Array.getElem?_toList, Array.toList_append]; rfl
  simp [invoke, h0, callMethod, hn, h n]

theorem run_invoke_via {t : TypeId} {path : Array FieldStep} {f : FuncId} {ptr : Bool} {v x : Value} {cap rest : Array Value} {w : World} (hp : path.isEmpty = true) (h : (receiverAt t (.val v) ptr none).run P w = .ok x w) :
    (invoke (.fn (.via t path f ptr) cap) (#[v] ++ rest)).run P w = (callFunc f (#[x] ++ rest)).run P w := by
  have hpath : path.toList = [] := by simpa using hp
  have h0 : (#[v] ++ rest)[0]? = some v := by rw [← Array.getElem?_toList, Array.toList_append]; rfl
  simp [invoke, h0, receiverVia, hpath, follow, h]

theorem arr_cons {l : Array Value} {v : Value} {r : List Value} (h : l.toList = v :: r) : l = #[v] ++ r.toArray := by
  apply Array.ext'; simp [h]

theorem callF_sound {ih : Fns} (hih : FnsSound P w0 ih) (hK : KnownSound P K w0.toWorld) : ∀ t args S e S', callF P K ih t args S = some (e, S') → ∀ ρ w t' args', Sim P w0 ρ S w → TarR ρ t t' → VRs ρ args args'.toList →
    NextUp P (EndGood P w0 ρ e S') ((invoke t' args').run P w) := by
  intro t args S e S' h ρ w t' args' hs ht hv
  obtain ⟨fn, fn', cap, cap', rfl, rfl, hf⟩ := ht
  unfold callF at h
  split at h
  · rename_i f cap0 he
    cases he
    cases hf with
    | func f _ _ hc k =>
      rename_i a' c c'
      show NextUp P _ ((callFunc f (args' ++ _)).run P w)
      refine enter_sound hih hK h hs ?_
      rw [Array.toList_append]
      exact hv.append ⟨hc, k⟩
  · rename_i l cap0 he
    cases he
    cases hf with
    | yield hl => exact round_sound hih h hs hl hv
  · rename_i name cap0 he
    cases he
    cases hf with
    | method _ _ _ hc k =>
      split at h
      · rename_i t v rest
        split at h
        · rename_i f r hm
          obtain ⟨v', l', he, hv1, hv2⟩ := hv.cons_inv
          cases hv1 with
          | iface _ hv3 =>
            rename_i u'
            rw [arr_cons he]
            obtain ⟨x', ha, hb⟩ := method_sound hs hm hv3
            rw [run_invoke_method ha]
            refine enter_sound hih hK h hs ?_
            simp only [Array.toList_append]
            exact VRs.cons hb hv2
        · cases h
      · cases h
  · rename_i t path f ptr cap0 he
    cases he
    cases hf with
    | via _ _ _ _ _ _ hc k =>
      split at h
      · rename_i x rest
        obtain ⟨v', l', he, hv1, hv2⟩ := hv.cons_inv
        cases hp : path.isEmpty with
        | false => rw [hp] at h; cases h
        | true =>
          rw [hp] at h
          simp only [cond_true] at h
          rw [arr_cons he]
          split at h
          · rename_i e hu
            rw [run_invoke_via hp (rcv_same hu v' none w)]
            refine enter_sound hih hK h hs ?_
            simp only [Array.toList_append]
            exact VRs.cons hv1 hv2
          · rename_i e hu
            split at h
            · rename_i y hy
              obtain ⟨x', a, b⟩ := rcv_load hs hu hy hv1
              rw [run_invoke_via hp (a none)]
              refine enter_sound hih hK h hs ?_
              simp only [Array.toList_append]
              exact VRs.cons b hv2
            · cases h
          · rename_i dd hne hu
            rw [run_invoke_via hp (rcv_val hu (fun e he => hne e he) v' none w)]
            refine enter_sound hih hK h hs ?_
            simp only [Array.toList_append]
            exact VRs.cons hv1 hv2
          · cases h
      · cases h
  · cases h

end Go.Cm
