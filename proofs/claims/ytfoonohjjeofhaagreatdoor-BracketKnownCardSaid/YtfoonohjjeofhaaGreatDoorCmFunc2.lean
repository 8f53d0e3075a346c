/-
  CM, part 17c: functions, rounds, calls.
-/
import Derived.Test.YtfoonohjjeofhaaGreatDoorCmDefer
namespace Go.Cm
open Go
variable {P : Program} {w0 : Base} {K : Known}

theorem enter_sound {ih : Fns} (hih : FnsSound P w0 ih) (hK : KnownSound P K w0.toWorld) {f : FuncId} {args : List Value} {S S' : St} {e : Ending} (h : enterF P K ih f args S = some (e, S'))
    {ρ : Rmap} {w : World} {args' : Array Value} (hs : Sim P w0 ρ S w) (hv : VRs ρ args args'.toList) : NextUp P (EndGood P w0 ρ e S') ((callFunc f args').run P w) := by
  unfold enterF at h
  split at h
  · rename_i v hc
    cases h
    obtain ⟨rfl, hfl, fn, c, hf, hb, hn, hcall⟩ := hK.call f args v hc
    have ha : args' = #[] := by apply Array.ext'; simpa using hv.nil_inv
    subst ha
    rw [run_callFunc hf hb hn]
    show CallsIn Fence.wide 0 P f #[] w _
    refine callsIn_wide.2 ((hcall w hs.kept).mono ?_)
    rintro e' w' ⟨rfl, hk⟩
    exact ⟨ρ, Ext.refl _, .ret (hfl ρ), hs.later hk⟩
  · cases hd : K.defers f with
    | true => rw [hd] at h; exact enterD_sound hih h hs hv
    | false => rw [hd] at h; exact enterB_sound hih hK.ext h hs hv

theorem setParams_sound {ρ : Rmap} {n : Nat} (hn : n ≤ 256) (g : Array Value → Tmp × Value → Array Value) (hg : ∀ tm t a, g tm (t, a) = tm.setIfInBounds t a) :
    ∀ (ps : List Tmp) (vs vs' : List Value) (t t' : Tm) (tmps : Array Value), setParams n t ps vs = some t' → VRs ρ vs vs' → TmR ρ n t tmps →
      vs'.length = ps.length ∧ TmR ρ n t' ((ps.zip vs').foldl g tmps) := by
  intro ps
  induction ps with
  | nil =>
    intro vs vs' t t' tmps h hv ht
    cases vs with
    | nil =>
      simp only [setParams, Option.some.injEq] at h
      subst h
      have := hv.nil_inv
      subst this
      exact ⟨rfl, ht⟩
    | cons v vs => cases h
  | cons p ps ih =>
    intro vs vs' t t' tmps h hv ht
    cases vs with
    | nil => cases h
    | cons v vs =>
      obtain ⟨v', l', rfl, h1, h2⟩ := hv.cons_inv
      simp only [setParams] at h
      cases hb : Nat.blt p n with
      | false => rw [hb] at h; cases h
      | true =>
        rw [hb] at h
        simp only [cond_true] at h
        obtain ⟨q1, q2⟩ := ih vs l' _ t' (tmps.setIfInBounds p v') h h2 (ht.set (nblt_tt hb) hn h1)
        refine ⟨by simp [q1], ?_⟩
        simp only [List.zip_cons_cons, List.foldl_cons, hg]
        exact q2

theorem round_sound {ih : Fns} (hih : FnsSound P w0 ih) {l : Nat} {args : List Value} {S S' : St} {e : Ending} (h : roundF ih l args S = some (e, S'))
    {ρ : Rmap} {w : World} {args' : Array Value} {L : Loc} (hs : Sim P w0 ρ S w) (hl : ρ l = some L) (hv : VRs ρ args args'.toList) : NextUp P (EndGood P w0 ρ e S') ((Instr.yield L.r args').run P w) := by
  unfold roundF at h
  split at h
  · rename_i p n t ps x y d hlo
    cases hn : Nat.blt 256 n with
    | true => rw [hn] at h; cases h
    | false =>
      rw [hn] at h
      simp only [cond_false] at h
      rw [PT.blt_iff] at hn
      have hn : n ≤ 256 := by simpa using hn
      split at h
      · rename_i t' hset
        obtain ⟨fn, tmps, D, q1, q2, q3⟩ := hs.blk _ _ _ hl (loopOf_spec hlo)
        obtain ⟨hlen, hT⟩ := setParams_sound hn (fun (tmps : Array Value) (x : Tmp × Value) => tmps.setIfInBounds x.1 x.2) (fun _ _ _ => rfl) ps args args'.toList t t' tmps hset hv q2
        rw [run_yield q1 (by simpa using hlen)]
        show RoundIn Fence.wide 0 P L.r fn _ x y w _
        have hfold : (ps.toArray.zip args').foldl (fun tmps x => match x with | (t, a) => tmps.setIfInBounds t a) tmps = (ps.zip args'.toList).foldl (fun (tmps : Array Value) (x : Tmp × Value) => tmps.setIfInBounds x.1 x.2) tmps := by
          rw [← Array.foldl_toList, Array.toList_zip]
        split at h
        · rename_i a1 S1 hx
          refine roundIn_of_wpIn trivial ?_
          have hexec := hih.exec (some l) x _ _ _ _ _ hx ρ w { tmps := (ps.zip args'.toList).foldl (fun (tmps : Array Value) (x : Tmp × Value) => tmps.setIfInBounds x.1 x.2) tmps, defers := [] } (some L.r) hs ⟨hn, hT, .nil⟩ (.inr ⟨l, L, rfl, hl, rfl⟩)
          rw [← hfold] at hexec
          refine wpIn_mono hexec ?_
          rintro e2 ar2 w2 ⟨ρ2, h1, h2, h3, h4⟩
          cases h2
          split at h
          · rename_i p1 n1 t1 ps1 x1 y1 d1 hlo1
            obtain ⟨r, hr, hst, hp, hs2⟩ := Sim.putLoop (st' := .busy) (p' := p1) h4 (h1 _ _ hl) (loopOf_spec hlo1)
            have hbr := run_beginRound (P := P) hr hst
            rw [← hp] at hs2
            refine ⟨_, hbr, ?_⟩
            split at h
            · rename_i e3 a3 S3 hy
              rw [← hp] at hy
              refine wpIn_mono (hih.exec (some l) y _ _ _ _ _ hy ρ2 _ ar2 (some L.r) hs2 h3 (.inr ⟨l, L, rfl, h1 _ _ hl, rfl⟩)) ?_
              rintro e4 ar4 w4 ⟨ρ4, k1, k2, k3, k4⟩
              split at h
              · rename_i st2 p2 n2 t2 ps2 x2 y2 d2 hlo2
                have hl4 := k1 _ _ (h1 _ _ hl)
                cases k2 with
                | normal =>
                  simp only [Option.some.injEq, Prod.mk.injEq] at h
                  obtain ⟨rfl, rfl⟩ := h
                  obtain ⟨r, hr, hst, hp, hs5⟩ := Sim.putLoop (st' := .ready) (p' := none) k4 hl4 (loopOf_spec hlo2)
                  exact ⟨_, _, run_endRound none hr, ρ4, h1.trans k1, .ret (.bool _), hs5⟩
                | ret =>
                  simp only [Option.some.injEq, Prod.mk.injEq] at h
                  obtain ⟨rfl, rfl⟩ := h
                  obtain ⟨r, hr, hst, hp, hs5⟩ := Sim.putLoop (st' := .done) (p' := some .ret) k4 hl4 (loopOf_spec hlo2)
                  exact ⟨_, _, run_endRound (some .ret) hr, ρ4, h1.trans k1, .ret (.bool _), hs5⟩
                | exit id =>
                  simp only [Option.some.injEq, Prod.mk.injEq] at h
                  obtain ⟨rfl, rfl⟩ := h
                  obtain ⟨r, hr, hst, hp, hs5⟩ := Sim.putLoop (st' := .done) (p' := some (.exit id)) k4 hl4 (loopOf_spec hlo2)
                  exact ⟨_, _, run_endRound (some (.exit id)) hr, ρ4, h1.trans k1, .ret (.bool _), hs5⟩
                | pan hp => cases h
              · cases h
            · cases h
          · cases h
        · cases h
      · cases h
  · cases h

theorem rcv_same {t e : TypeId} (h : P.underlying t = some (.pointer e)) (v : Value) (wr : Option String) (w : World) : (receiverAt t (.val v) true wr).run P w = .ok v w := by
  simp [receiverAt, run_und w h, Place.get]
theorem rcv_val {t : TypeId} {d : TypeDesc} (h : P.underlying t = some d) (hd : ∀ e, d ≠ .pointer e) (v : Value) (wr : Option String) (w : World) : (receiverAt t (.val v) false wr).run P w = .ok v w := by
  cases d <;> first
    | exact absurd rfl (hd _)
    | simp [receiverAt, run_und w h, Place.get]
theorem run_wrap (ts : Array TypeId) (t : TypeId) (ad : Addr) (m : String) (w : World) : (Builtin.ssaWrapNilChk_ ts t #[.pointer (some ad), strVal "", strVal m]).run P w = .ok (.pointer (some ad)) w := by
  rfl
theorem rcv_load {ρ : Rmap} {S : St} {w : World} (hs : Sim P w0 ρ S w) {t e : TypeId} (hu : P.underlying t = some (.pointer e)) {v v' x : Value} (h : loadV P e v S = some x) (hv : VR ρ v v') :
    ∃ x', (∀ wr : Option String, (receiverAt t (.val v') false wr).run P w = .ok x' w) ∧ VR ρ x x' := by
  obtain ⟨x', p1, q1⟩ := load_sound hs h hv
  refine ⟨x', fun wr => ?_, q1⟩
  have hp : ∃ ad, v' = .pointer (some ad) := by
    unfold loadV at h
    split at h
    · cases hv with
      | ptr _ => exact ⟨_, rfl⟩
    · cases h
  obtain ⟨ad, rfl⟩ := hp
  have p2 : (loadVar e ad).run P w = .ok x' w := by simpa [Instr.loadAt, Instr.sureAddr] using p1
  have p3 : (asAddr (.pointer (some ad))).run P w = .ok ad w := by simp [asAddr]
  cases wr with
  | none => simp [receiverAt, run_und w hu, Place.get, p2, p3]
  | some m => simp [receiverAt, run_und w hu, Place.get, p2, p3, run_wrap]

theorem method_sound {ρ : Rmap} {S : St} {w : World} (hs : Sim P w0 ρ S w) {t : TypeId} {v x v' : Value} {name : String} {f : FuncId} (h : methodOf P t v name S = some (f, x)) (hv : VR ρ v v') :
    ∃ x', (∀ n, (method (n + 1) t v' name).run P w = .ok (f, x') w) ∧ VR ρ x x' := by
  unfold methodOf at h
  split at h
  · rename_i i hi
    split at h
    · rename_i m hm
      cases hp : m.path.isEmpty with
      | false => rw [hp] at h; cases h
      | true =>
        rw [hp] at h
        simp only [cond_true] at h
        have hpath : m.path.toList = [] := by simpa using hp
        split at h
        · rename_i g ptr hfn
          have key : ∀ x', (∀ wr : Option String, (receiverAt t (.val v') ptr wr).run P w = .ok x' w) → ∀ n, (method (n + 1) t v' name).run P w = .ok (g, x') w := by
            intro x' hx n
            simp [method, run_info w hi, hm, hpath, follow, hfn, hx]
          split at h
          · rename_i e hu
            simp only [Option.some.injEq, Prod.mk.injEq] at h
            obtain ⟨rfl, rfl⟩ := h
            exact ⟨v', key _ (fun wr => rcv_same hu v' wr w), hv⟩
          · rename_i e hu
            split at h
            · rename_i y hy
              simp only [Option.some.injEq, Prod.mk.injEq] at h
              obtain ⟨rfl, rfl⟩ := h
              obtain ⟨x', a, b⟩ := rcv_load hs hu hy hv
              exact ⟨x', key _ a, b⟩
            · cases h
          · rename_i dd hne hu
            simp only [Option.some.injEq, Prod.mk.injEq] at h
            obtain ⟨rfl, rfl⟩ := h
            exact ⟨v', key _ (fun wr => rcv_val hu (fun e he => hne e he) v' wr w), hv⟩
          · cases h
        · cases h
    · cases h
  · cases h

theorem run_invoke_method {t : TypeId} {v : Value} {name : String} {cap rest : Array Value} {w : World} {f : FuncId} {x : Value} (h : ∀ n, (method (n + 1) t v name).run P w = .ok (f, x) w) :
    (invoke (.fn (.method name) cap) (#[.iface t v] ++ rest)).run P w = (callFunc f (#[x] ++ rest)).run P w := by
  have e : ∃ n, P.types.size + Made.depth = n + 1 := ⟨P.types.size + Made.depth - 1, by
    have : 0 < Made.depth := by decide
    omega⟩
  obtain ⟨n, hn⟩ := e
  have h0 : (#[Value.iface t v] ++ rest)[0]? = some (.iface t v) := by rw [← Array.getElem?_toList, Array.toList_append]; rfl
  simp [invoke, h0, callMethod, hn, h n]

theorem run_invoke_via {t : TypeId} {path : Array FieldStep} {f : FuncId} {ptr : Bool} {v x : Value} {cap rest : Array Value} {w : World} (hp : path.isEmpty = true) (h : (receiverAt t (.val v) ptr none).run P w = .ok x w) :
    (invoke (.fn (.via t path f ptr) cap) (#[v] ++ rest)).run P w = (callFunc f (#[x] ++ rest)).run P w := by
  have hpath : path.toList = [] := by simpa using hp
  have h0 : (#[v] ++ rest)[0]? = some v := by rw [← Array.getElem?_toList, Array.toList_append]; rfl
  simp [invoke, h0, receiverVia, hpath, follow, h]

theorem arr_cons {l : Array Value} {v : Value} {r : List Value} (h : l.toList = v :: r) : l = #[v] ++ r.toArray := by
  apply Array.ext'; simp [h]

theorem callF_sound {ih : Fns} (hih : FnsSound P w0 ih) (hK : KnownSound P K w0.toWorld) : ∀ t args S e S', callF P K ih t args S = some (e, S') → ∀ ρ w t' args', Sim P w0 ρ S w → TarR ρ t t' → VRs ρ args args'.toList →
    NextUp P (EndGood P w0 ρ e S') ((invoke t' args').run P w) := by
  intro t args S e S' h ρ w t' args' hs ht hv
  obtain ⟨fn, fn', cap, cap', rfl, rfl, hf⟩ := ht
  unfold callF at h
  split at h
  · rename_i f cap0 he
    cases he
    cases hf with
    | func f _ _ hc k =>
      rename_i a' c c'
      show NextUp P _ ((callFunc f (args' ++ _)).run P w)
      refine enter_sound hih hK h hs ?_
      rw [Array.toList_append]
      exact hv.append ⟨hc, k⟩
  · rename_i l cap0 he
    cases he
    cases hf with
    | yield hl => exact round_sound hih h hs hl hv
  · rename_i name cap0 he
    cases he
    cases hf with
    | method _ _ _ hc k =>
      split at h
      · rename_i t v rest
        split at h
        · rename_i f r hm
          obtain ⟨v', l', he, hv1, hv2⟩ := hv.cons_inv
          cases hv1 with
          | iface _ hv3 =>
            rename_i u'
            rw [arr_cons he]
            obtain ⟨x', ha, hb⟩ := method_sound hs hm hv3
            rw [run_invoke_method ha]
            refine enter_sound hih hK h hs ?_
            simp only [Array.toList_append]
            exact VRs.cons hb hv2
        · cases h
      · cases h
  · rename_i t path f ptr cap0 he
    cases he
    cases hf with
    | via _ _ _ _ _ _ hc k =>
      split at h
      · rename_i x rest
        obtain ⟨v', l', he, hv1, hv2⟩ := hv.cons_inv
        cases hp : path.isEmpty with
        | false => rw [hp] at h; cases h
        | true =>
          rw [hp] at h
          simp only [cond_true] at h
          rw [arr_cons he]
          split at h
          · rename_i e hu
            rw [run_invoke_via hp (rcv_same hu v' none w)]
            refine enter_sound hih hK h hs ?_
            simp only [Array.toList_append]
            exact VRs.cons hv1 hv2
          · rename_i e hu
            split at h
            · rename_i y hy
              obtain ⟨x', a, b⟩ := rcv_load hs hu hy hv1
              rw [run_invoke_via hp (a none)]
              refine enter_sound hih hK h hs ?_
              simp only [Array.toList_append]
              exact VRs.cons b hv2
            · cases h
          · rename_i dd hne hu
            rw [run_invoke_via hp (rcv_val hu (fun e he => hne e he) v' none w)]
            refine enter_sound hih hK h hs ?_
            simp only [Array.toList_append]
            exact VRs.cons hv1 hv2
          · cases h
      · cases h
  · cases h

end Go.Cm
