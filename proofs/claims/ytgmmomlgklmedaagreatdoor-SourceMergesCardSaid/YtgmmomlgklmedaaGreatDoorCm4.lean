/-
  The evaluator of the model, and that it is sound: part 4.
-/
import Derived.Laws.BitsLemmas
import Derived.Laws.Bits64
import Derived.Test.YtgmmomlgklmedaaGreatDoorCm3
namespace Go.Cm
open Go
variable {P : Program} {w0 : Base} {K : Known}

theorem enter_sound {ih : Fns} (hih : FnsSound P w0 ih) (hK : KnownSound P K w0.toWorld) {f : FuncId} {args : List Value} {S S' : St} {e : Ending} (h : enterF P K ih f args S = some (e, S'))
    {ρ : Rmap} {w : World} {args' : Array Value} (hs : Sim P w0 ρ S w) (hv : VRs ρ args args'.toList) : NextUp P (EndGood P w0 ρ e S') ((callFunc f args').run P w) := by
  unfold enterF at h
  split at h
  · rename_i v hc
    cases h
    obtain ⟨hfl, fn, c, hf, hb, hn, hcall⟩ := hK.call f args S v hc
    rw [run_callFunc hf hb hn]
    show CallsIn Fence.wide 0 P f args' w _
    refine callsIn_wide.2 ((hcall w0 ρ w args' rfl hs hv).mono ?_)
    rintro e' w' ⟨rfl, hk⟩
    exact ⟨ρ, Ext.refl _, .ret (hfl ρ), hs.later hk⟩
  · cases hd : K.defers f with
    | true => rw [hd] at h; exact enterD_sound hih h hs hv
    | false => rw [hd] at h; exact enterB_sound hih hK.ext h hs hv

theorem setParams_sound {ρ : Rmap} {n : Nat} (hn : n ≤ 256) (g : Array Value → Tmp × Value → Array Value) (hg : ∀ tm t a, g tm (t, a) = tm.setIfInBounds t a) :
    ∀ (ps : List Tmp) (vs vs' : List Value) (t t' : Tm) (tmps : Array Value), setParams n t ps vs = some t' → VRs ρ vs vs' → TmR ρ n t tmps →
      vs'.length = ps.length ∧ TmR ρ n t' ((ps.zip vs').foldl g tmps) := by
  intro ps
  induction ps with
  | nil =>
    intro vs vs' t t' tmps h hv ht
    cases vs with
    | nil =>
      simp only [setParams, Option.some.injEq] at h
      subst h
      have := hv.nil_inv
      subst this
      exact ⟨rfl, ht⟩
    | cons v vs => cases h
  | cons p ps ih =>
    intro vs vs' t t' tmps h hv ht
    cases vs with
    | nil => cases h
    | cons v vs =>
      obtain ⟨v', l', rfl, h1, h2⟩ := hv.cons_inv
      simp only [setParams] at h
      cases hb : Nat.blt p n with
      | false => rw [hb] at h; cases h
      | true =>
        rw [hb] at h
        simp only [cond_true] at h
        obtain ⟨q1, q2⟩ := ih vs l' _ t' (tmps.setIfInBounds p v') h h2 (ht.set (nblt_tt hb) hn h1)
        refine ⟨by simp [q1], ?_⟩
        simp only [List.zip_cons_cons, List.foldl_cons, hg]
        exact q2

theorem round_sound {ih : Fns} (hih : FnsSound P w0 ih) {l : Nat} {args : List Value} {S S' : St} {e : Ending} (h : roundF ih l args S = some (e, S'))
    {ρ : Rmap} {w : World} {args' : Array Value} {L : Loc} (hs : Sim P w0 ρ S w) (hl : ρ l = some L) (hv : VRs ρ args args'.toList) : NextUp P (EndGood P w0 ρ e S') ((Instr.yield L.r args').run P w) := by
  unfold roundF at h
  split at h
  · rename_i p n t ps x y d hlo
    cases hn : Nat.blt 256 n with
    | true => rw [hn] at h; cases h
    | false =>
      rw [hn] at h
      simp only [cond_false] at h
      rw [PT.blt_iff] at hn
      have hn : n ≤ 256 := by simpa using hn
      split at h
      · rename_i t' hset
        obtain ⟨fn, tmps, D, q1, q2, q3⟩ := hs.blk _ _ _ hl (loopOf_spec hlo)
        obtain ⟨hlen, hT⟩ := setParams_sound hn (fun (tmps : Array Value) (x : Tmp × Value) => tmps.setIfInBounds x.1 x.2) (fun _ _ _ => rfl) ps args args'.toList t t' tmps hset hv q2
        rw [run_yield q1 (by simpa using hlen)]
        show RoundIn Fence.wide 0 P L.r fn _ x y w _
        have hfold : (ps.toArray.zip args').foldl (fun tmps x => match x with | (t, a) => tmps.setIfInBounds t a) tmps = (ps.zip args'.toList).foldl (fun (tmps : Array Value) (x : Tmp × Value) => tmps.setIfInBounds x.1 x.2) tmps := by
          rw [← Array.foldl_toList, Array.toList_zip]
        split at h
        · rename_i a1 S1 hx
          refine roundIn_of_wpIn trivial ?_
          have hexec := hih.exec (some l) x _ _ _ _ _ hx ρ w { tmps := (ps.zip args'.toList).foldl (fun (tmps : Array Value) (x : Tmp × Value) => tmps.setIfInBounds x.1 x.2) tmps, defers := [] } (some L.r) hs ⟨hn, hT, .nil⟩ (.inr ⟨l, L, rfl, hl, rfl⟩)
          rw [← hfold] at hexec
          refine wpIn_mono hexec ?_
          rintro e2 ar2 w2 ⟨ρ2, h1, h2, h3, h4⟩
          cases h2
          split at h
          · rename_i p1 n1 t1 ps1 x1 y1 d1 hlo1
            obtain ⟨r, hr, hst, hp, hs2⟩ := Sim.putLoop (st' := .busy) (p' := p1) h4 (h1 _ _ hl) (loopOf_spec hlo1)
            have hbr := run_beginRound (P := P) hr hst
            rw [← hp] at hs2
            refine ⟨_, hbr, ?_⟩
            split at h
            · rename_i e3 a3 S3 hy
              rw [← hp] at hy
              refine wpIn_mono (hih.exec (some l) y _ _ _ _ _ hy ρ2 _ ar2 (some L.r) hs2 h3 (.inr ⟨l, L, rfl, h1 _ _ hl, rfl⟩)) ?_
              rintro e4 ar4 w4 ⟨ρ4, k1, k2, k3, k4⟩
              split at h
              · rename_i st2 p2 n2 t2 ps2 x2 y2 d2 hlo2
                have hl4 := k1 _ _ (h1 _ _ hl)
                cases k2 with
                | normal =>
                  simp only [Option.some.injEq, Prod.mk.injEq] at h
                  obtain ⟨rfl, rfl⟩ := h
                  obtain ⟨r, hr, hst, hp, hs5⟩ := Sim.putLoop (st' := .ready) (p' := none) k4 hl4 (loopOf_spec hlo2)
                  exact ⟨_, _, run_endRound none hr, ρ4, h1.trans k1, .ret (.bool _), hs5⟩
                | ret =>
                  simp only [Option.some.injEq, Prod.mk.injEq] at h
                  obtain ⟨rfl, rfl⟩ := h
                  obtain ⟨r, hr, hst, hp, hs5⟩ := Sim.putLoop (st' := .done) (p' := some .ret) k4 hl4 (loopOf_spec hlo2)
                  exact ⟨_, _, run_endRound (some .ret) hr, ρ4, h1.trans k1, .ret (.bool _), hs5⟩
                | exit id =>
                  simp only [Option.some.injEq, Prod.mk.injEq] at h
                  obtain ⟨rfl, rfl⟩ := h
                  obtain ⟨r, hr, hst, hp, hs5⟩ := Sim.putLoop (st' := .done) (p' := some (.exit id)) k4 hl4 (loopOf_spec hlo2)
                  exact ⟨_, _, run_endRound (some (.exit id)) hr, ρ4, h1.trans k1, .ret (.bool _), hs5⟩
                | pan hp => cases h
              · cases h
            · cases h
          · cases h
        · cases h
      · cases h
  · cases h

theorem rcv_same {t e : TypeId} (h : P.underlying t = some (.pointer e)) (v : Value) (wr : Option String) (w : World) : (receiverAt t (.val v) true wr).run P w = .ok v w := by
  simp [receiverAt, run_und w h, Place.get]
theorem rcv_val {t : TypeId} {d : TypeDesc} (h : P.underlying t = some d) (hd : ∀ e, d ≠ .pointer e) (v : Value) (wr : Option String) (w : World) : (receiverAt t (.val v) false wr).run P w = .ok v w := by
  cases d <;> first
    | exact absurd rfl (hd _)
    | simp [receiverAt, run_und w h, Place.get]
theorem run_wrap (ts : Array TypeId) (t : TypeId) (ad : Addr) (m : String) (w : World) : (Builtin.ssaWrapNilChk_ ts t #[.pointer (some ad), strVal "", strVal m]).run P w = .ok (.pointer (some ad)) w := by
  rfl
theorem rcv_load {ρ : Rmap} {S : St} {w : World} (hs : Sim P w0 ρ S w) {t e : TypeId} (hu : P.underlying t = some (.pointer e)) {v v' x : Value} (h : loadV P e v S = some x) (hv : VR ρ v v') :
    ∃ x', (∀ wr : Option String, (receiverAt t (.val v') false wr).run P w = .ok x' w) ∧ VR ρ x x' := by
  obtain ⟨x', p1, q1⟩ := load_sound hs h hv
  refine ⟨x', fun wr => ?_, q1⟩
  have hp : ∃ ad, v' = .pointer (some ad) := by
    unfold loadV at h
    split at h
    · cases hv with
      | ptr _ => exact ⟨_, rfl⟩
    · cases h
  obtain ⟨ad, rfl⟩ := hp
  have p2 : (loadVar e ad).run P w = .ok x' w := by simpa [Instr.loadAt, Instr.sureAddr] using p1
  have p3 : (asAddr (.pointer (some ad))).run P w = .ok ad w := by simp [asAddr]
  cases wr with
  | none => simp [receiverAt, run_und w hu, Place.get, p2, p3]
  | some m => simp [receiverAt, run_und w hu, Place.get, p2, p3, run_wrap]

theorem method_sound {ρ : Rmap} {S : St} {w : World} (hs : Sim P w0 ρ S w) {t : TypeId} {v x v' : Value} {name : String} {f : FuncId} (h : methodOf P t v name S = some (f, x)) (hv : VR ρ v v') :
    ∃ x', (∀ n, (method (n + 1) t v' name).run P w = .ok (f, x') w) ∧ VR ρ x x' := by
  unfold methodOf at h
  split at h
  · rename_i i hi
    split at h
    · rename_i m hm
      cases hp : m.path.isEmpty with
      | false => rw [hp] at h; cases h
      | true =>
        rw [hp] at h
        simp only [cond_true] at h
        have hpath : m.path.toList = [] := by simpa using hp
        split at h
        · rename_i g ptr hfn
          have key : ∀ x', (∀ wr : Option String, (receiverAt t (.val v') ptr wr).run P w = .ok x' w) → ∀ n, (method (n + 1) t v' name).run P w = .ok (g, x') w := by
            intro x' hx n
            simp [method, run_info w hi, hm, hpath, follow, hfn, hx]
          split at h
          · rename_i e hu
            simp only [Option.some.injEq, Prod.mk.injEq] at h
            obtain ⟨rfl, rfl⟩ := h
            exact ⟨v', key _ (fun wr => rcv_same hu v' wr w), hv⟩
          · rename_i e hu
            split at h
            · rename_i y hy
              simp only [Option.some.injEq, Prod.mk.injEq] at h
              obtain ⟨rfl, rfl⟩ := h
              obtain ⟨x', a, b⟩ := rcv_load hs hu hy hv
              exact ⟨x', key _ a, b⟩
            · cases h
          · rename_i dd hne hu
            simp only [Option.some.injEq, Prod.mk.injEq] at h
            obtain ⟨rfl, rfl⟩ := h
            exact ⟨v', key _ (fun wr => rcv_val hu (fun e he => hne e he) v' wr w), hv⟩
          · cases h
        · cases h
    · cases h
  · cases h

theorem run_invoke_method {t : TypeId} {v : Value} {name : String} {cap rest : Array Value} {w : World} {f : FuncId} {x : Value} (h : ∀ n, (method (n + 1) t v name).run P w = .ok (f, x) w) :
    (invoke (.fn (.method name) cap) (#[.iface t v] ++ rest)).run P w = (callFunc f (#[x] ++ rest)).run P w := by
  have e : ∃ n, P.types.size + Made.depth = n + 1 := ⟨P.types.size + Made.depth - 1, by
    have : 0 < Made.depth := by decide
    omega⟩
  obtain ⟨n, hn⟩ := e
  have h0 : (#[Value.iface t v] ++ rest)[0]? = some (.iface t v) := by rw [← Array.getElem?_toList, Array.toList_append]; rfl
  simp [invoke, h0, callMethod, hn, h n]

theorem run_invoke_via {t : TypeId} {path : Array FieldStep} {f : FuncId} {ptr : Bool} {v x : Value} {cap rest : Array Value} {w : World} (hp : path.isEmpty = true) (h : (receiverAt t (.val v) ptr none).run P w = .ok x w) :
    (invoke (.fn (.via t path f ptr) cap) (#[v] ++ rest)).run P w = (callFunc f (#[x] ++ rest)).run P w := by
  have hpath : path.toList = [] := by simpa using hp
  have h0 : (#[v] ++ rest)[0]? = some v := by rw [← Array.getElem?_toList, Array.toList_append]; rfl
  simp [invoke, h0, receiverVia, hpath, follow, h]

theorem arr_cons {l : Array Value} {v : Value} {r : List Value} (h : l.toList = v :: r) : l = #[v] ++ r.toArray := by
  apply Array.ext'; simp [h]

theorem callF_sound {ih : Fns} (hih : FnsSound P w0 ih) (hK : KnownSound P K w0.toWorld) : ∀ t args S e S', callF P K ih t args S = some (e, S') → ∀ ρ w t' args', Sim P w0 ρ S w → TarR ρ t t' → VRs ρ args args'.toList →
    NextUp P (EndGood P w0 ρ e S') ((invoke t' args').run P w) := by
  intro t args S e S' h ρ w t' args' hs ht hv
  obtain ⟨fn, fn', cap, cap', rfl, rfl, hf⟩ := ht
  unfold callF at h
  split at h
  · rename_i f cap0 he
    cases he
    cases hf with
    | func f _ _ hc k =>
      rename_i a' c c'
      show NextUp P _ ((callFunc f (args' ++ _)).run P w)
      refine enter_sound hih hK h hs ?_
      rw [Array.toList_append]
      exact hv.append ⟨hc, k⟩
  · rename_i l cap0 he
    cases he
    cases hf with
    | yield hl => exact round_sound hih h hs hl hv
  · rename_i name cap0 he
    cases he
    cases hf with
    | method _ _ _ hc k =>
      split at h
      · rename_i t v rest
        split at h
        · rename_i f r hm
          obtain ⟨v', l', he, hv1, hv2⟩ := hv.cons_inv
          cases hv1 with
          | iface _ hv3 =>
            rename_i u'
            rw [arr_cons he]
            obtain ⟨x', ha, hb⟩ := method_sound hs hm hv3
            rw [run_invoke_method ha]
            refine enter_sound hih hK h hs ?_
            simp only [Array.toList_append]
            exact VRs.cons hb hv2
        · cases h
      · cases h
  · rename_i t path f ptr cap0 he
    cases he
    cases hf with
    | via _ _ _ _ _ _ hc k =>
      split at h
      · rename_i x rest
        obtain ⟨v', l', he, hv1, hv2⟩ := hv.cons_inv
        cases hp : path.isEmpty with
        | false => rw [hp] at h; cases h
        | true =>
          rw [hp] at h
          simp only [cond_true] at h
          rw [arr_cons he]
          split at h
          · rename_i e hu
            rw [run_invoke_via hp (rcv_same hu v' none w)]
            refine enter_sound hih hK h hs ?_
            simp only [Array.toList_append]
            exact VRs.cons hv1 hv2
          · rename_i e hu
            split at h
            · rename_i y hy
              obtain ⟨x', a, b⟩ := rcv_load hs hu hy hv1
              rw [run_invoke_via hp (a none)]
              refine enter_sound hih hK h hs ?_
              simp only [Array.toList_append]
              exact VRs.cons b hv2
            · cases h
          · rename_i dd hne hu
            rw [run_invoke_via hp (rcv_val hu (fun e he => hne e he) v' none w)]
            refine enter_sound hih hK h hs ?_
            simp only [Array.toList_append]
            exact VRs.cons hv1 hv2
          · cases h
      · cases h
  · cases h

end Go.Cm

namespace Go.Cm
open Go
variable {P : Program} {w0 : Base} {K : Known}

/-! ### what is read stays so where memory only grows -/
def Le (S S' : St) : Prop := ∀ b B, S.get b = some B → S'.get b = some B
theorem loadV_mono {S S' : St} (hl : Le S S') {t : TypeId} {x v : Value} (h : loadV P t x S = some v) : loadV P t x S' = some v := by
  unfold loadV at h ⊢
  split at h
  · rename_i b o
    split at h
    · rename_i c e r ow k hg
      rw [hl _ _ hg]; exact h
    · cases h
  · cases h
theorem rowSize_mono {S S' : St} (hl : Le S S') {b z : Nat} (h : rowSize P S b z = true) : rowSize P S' b z = true := by
  unfold rowSize at h ⊢
  cases hg : S.get b with
  | none => rw [hg] at h; cases h
  | some B => rw [hl _ _ hg]; rw [hg] at h; exact h
theorem plainRow_mono {S S' : St} (hl : Le S S') {b : Nat} (h : plainRow S b = true) : plainRow S' b = true := by
  unfold plainRow at h ⊢
  cases hg : S.get b with
  | none => rw [hg] at h; cases h
  | some B => rw [hl _ _ hg]; rw [hg] at h; exact h
theorem mapOf_mono {S S' : St} (hl : Le S S') {x : Value} {es : List MapEntry} (h : mapOf S x = some es) : mapOf S' x = some es := by
  unfold mapOf at h ⊢
  split at h
  · exact h
  · rename_i r
    split at h
    · rename_i es' c hg
      rw [hl _ _ hg]; exact h
    · cases h
  · cases h
theorem lookupV_mono {S S' : St} (hl : Le S S') {t : TypeId} {x i v : Value} {ok : Bool} (h : lookupV P t x i ok S = some v) : lookupV P t x i ok S' = some v := by
  unfold lookupV at h ⊢
  split at h
  · rename_i key elem hu
    split at h
    · rename_i es hm
      rw [mapOf_mono hl hm]
      exact h
    · cases h
  · cases h
theorem lenV_mono {S S' : St} (hl : Le S S') {t : TypeId} {x v : Value} (h : lenV P t x S = some v) : lenV P t x S' = some v := by
  unfold lenV at h ⊢
  split at h
  all_goals (try simp only [*])
  all_goals (try exact h)
  · rename_i r hu
    split at h
    · rename_i es c hg
      rw [hl _ _ hg]; exact h
    · cases h
theorem sliceV_mono {S S' : St} (hl : Le S S') {t : TypeId} {x v : Value} {lo hi mx : Option Value} (h : sliceV P t x lo hi mx S = some v) : sliceV P t x lo hi mx S' = some v := by
  unfold sliceV at h ⊢
  split at h
  · exact h
  · rename_i elem hu
    split at h
    · rename_i a len cap
      split at h
      · rename_i z l hh m h1 h2
        split at h
        · exact h
        · rename_i b o
          cases hr : rowSize P S b z with
          | false => rw [hr] at h; cases h
          | true => rw [hr] at h; rw [rowSize_mono hl hr]; exact h
        · exact h
      · cases h
    · cases h
  · rename_i n elem hu
    split at h
    · rename_i b o
      split at h
      · rename_i z l hh m h1 h2
        cases hr : plainRow S b with
        | false => rw [hr] at h; cases h
        | true => rw [hr] at h; rw [plainRow_mono hl hr]; exact h
      · cases h
    · cases h
  · cases h
theorem readOp_mono {S S' : St} (hl : Le S S') {f : Operand → Value} {op : Op} {v : Value} (h : readOp P f op S = some v) : readOp P f op S' = some v := by
  unfold readOp at h ⊢
  split at h
  · exact loadV_mono hl h
  · exact sliceV_mono hl h
  · exact lookupV_mono hl h
  · split at h
    · rename_i x t rest ha ht
      exact lenV_mono hl h
    · cases h
  · exact h
theorem readOp_calm {f : Operand → Value} {op : Op} {v : Value} {S S' : St} (hn : looks op = false) (h : readOp P f op S = some v) : readOp P f op S' = some v := by
  unfold readOp at h ⊢
  split at h <;> first
    | (simp [looks] at hn; done)
    | exact h

/-! ### blocks that are made later -/
theorem Sim.unborn {w0 : World} {no no' : Nat → Bool} {ρ : Rmap} {S : St} {w : World} (h : Sim P ⟨w0, no⟩ ρ S w) (B : Blk) (hn : ∀ x, no' x = true → no x = true ∨ x = S.size) :
    Sim P ⟨w0, no'⟩ ρ ⟨S.heap.set S.size (some B), S.size + 1⟩ w := by
  have key : ∀ c L, ρ c = some L → (⟨S.heap.set S.size (some B), S.size + 1⟩ : St).get c = S.get c := by
    intro c L hc
    have := (h.dom c L hc).1
    simp only [St.get, Heap.get_set_any]
    rw [if_neg (by omega)]
  refine ⟨h.size, h.old, h.os, h.out, fun b L hb => ⟨by have := (h.dom b L hb).1; show b < S.size + 1; omega, (h.dom b L hb).2⟩, fun b L C hb hC => ?_, fun b L C hb hC hm => ?_, h.glob, fun b hb => ?_⟩
  · rw [key b L hb] at hC
    exact h.blk b L C hb hC
  · rw [key b L hb] at hC
    refine ⟨(h.own b L C hb hC hm).1, fun b' L' B' hb' hr hB' hne => ?_⟩
    rw [key b' L' hb'] at hB'
    exact (h.own b L C hb hC hm).2 b' L' B' hb' hr hB' hne
  · rcases hn b hb with h1 | h1
    · have := h.no b h1
      exact ⟨this.1, by show b < S.size + 1; omega⟩
    · subst h1
      refine ⟨?_, by show S.size < S.size + 1; omega⟩
      cases hx : ρ S.size with
      | none => rfl
      | some M => exact absurd (h.dom _ _ hx).1 (Nat.lt_irrefl _)

theorem Sim.born {w0 : World} {no no' : Nat → Bool} {ρ : Rmap} {S : St} {w : World} (h : Sim P ⟨w0, no⟩ ρ S w) {b : Nat} {B : Blk} (hb : no b = true) (hB : S.get b = some B)
    (hn : ∀ x, no' x = true → no x = true ∧ x ≠ b) {o : Obj} {L : Loc} (hr : L.r = w.heap.size) (hk : BlkOk P ρ B (some o) L) :
    Ext ρ (upd ρ b L) ∧ Sim P ⟨w0, no'⟩ (upd ρ b L) S (w.alloc o) := by
  have hnone := (h.no b hb).1
  have hext := ext_upd L hnone
  refine ⟨hext, ⟨by rw [World.size_alloc]; have : w0.heap.size ≤ w.heap.size := h.size; show w0.heap.size ≤ w.heap.size + 1; omega, fun i hi => ?_, h.os, h.out, fun c M hc => ?_, fun c M C hc hC => ?_, fun c M C hc hC hm => ?_, fun g hg => let ⟨M, a, b⟩ := h.glob g hg; ⟨M, hext _ _ a, b⟩, fun x hx => ?_⟩⟩
  · rw [heap_alloc_old (by have : w0.heap.size ≤ w.heap.size := h.size; have : i < w0.heap.size := hi; omega)]; exact h.old i hi
  · rw [World.size_alloc]
    unfold upd at hc
    split at hc
    · rename_i e; cases hc; subst e; exact ⟨(h.no c hb).2, by omega⟩
    · have := h.dom c M hc; omega
  · unfold upd at hc
    by_cases e : c = b
    · rw [if_pos e] at hc
      cases hc
      subst e
      rw [hB] at hC
      cases hC
      rw [hr, heap_alloc_new]
      exact hk.mono hext
    · rw [if_neg e] at hc
      rw [heap_alloc_old (h.dom c M hc).2]
      exact (h.blk c M C hc hC).mono hext
  · unfold upd at hc
    by_cases e : c = b
    · rw [if_pos e] at hc
      cases hc
      refine ⟨by have : w0.heap.size ≤ w.heap.size := h.size; show w0.heap.size ≤ L.r; omega, fun b' L' B' hb' hr' hB' hne => ?_⟩
      unfold upd at hb'
      rw [if_neg (by rw [e] at hne; exact hne)] at hb'
      have := (h.dom b' L' hb').2
      omega
    · rw [if_neg e] at hc
      refine ⟨(h.own c M C hc hC hm).1, fun b' L' B' hb' hr' hB' hne => ?_⟩
      unfold upd at hb'
      by_cases e' : b' = b
      · rw [if_pos e'] at hb'
        cases hb'
        have := (h.dom c M hc).2
        omega
      · rw [if_neg e'] at hb'
        exact (h.own c M C hc hC hm).2 b' L' B' hb' hr' hB' hne
  · have h1 := hn x hx
    have := h.no x h1.1
    refine ⟨?_, this.2⟩
    unfold upd
    rw [if_neg h1.2]
    exact this.1

/-- an operation that makes a block: it makes it anywhere -/
def NewRun (P : Program) (o : Oper) (f : Operand → Value) (B : Blk) (mk : Nat → Value) : Prop :=
  ∀ (ρ : Rmap) (g : Operand → Value) (w : World), (∀ x, x ∈ o.op.operands → VR ρ (f x) (g x)) →
    ∃ (ob : Obj) (L : Loc) (v' : Value), (execOp g o).run P w = .ok (.value v') (w.alloc ob) ∧ L.r = w.heap.size ∧ BlkOk P ρ B (some ob) L ∧ (∀ (ρ' : Rmap) (b : Nat), ρ' b = some L → VR ρ' (mk b) v')

theorem cells_ok {ρ : Rmap} {v v' : Value} (hv : VR ρ v v') (e : TypeId) (r : Nat) : BlkOk P ρ (.cells (cellsL v) e false true []) (some (.cells v'.cells e)) ⟨r, 0, v'.cells.size, 0⟩ := by
  have hc := hv.cells
  rw [cellsL_eq v'] at hc
  refine ⟨v'.cells, e, (0, 0), rfl, rfl, fun i x hx => ?_, fun _ j _ hj => by simp at hj, (fun h => nomatch h), fun _ => ⟨rfl, rfl, by rw [hc.1]; simp⟩, fun _ _ => rfl⟩
  obtain ⟨x', a, b⟩ := hc.get hx
  exact ⟨x', by rw [← Array.getElem?_toList]; simpa using a, b⟩

theorem new_spec {S S' : St} {o : Oper} {f : Operand → Value} {v : Value} (h : newOp P f o.op S = some (v, S')) :
    ∃ (B : Blk) (mk : Nat → Value), v = mk S.size ∧ S' = ⟨S.heap.set S.size (some B), S.size + 1⟩ ∧ NewRun P o f B mk := by
  cases ho : o.op <;> rw [ho] at h
  case alloc e =>
    simp only [newOp] at h
    split at h
    · rename_i z hz0
      cases h
      obtain ⟨zv, hz, rfl, hf⟩ := zeroOf_spec hz0
      refine ⟨_, fun b => ptrTo b 0, rfl, rfl, fun ρ g w hev => ⟨.cells zv.cells e, ⟨w.heap.size, 0, zv.cells.size, 0⟩, .pointer (some ⟨w.heap.size, 0, none⟩), ?_, rfl, cells_ok (hf.refl ρ) e _, fun ρ' b hb => VR.ptr hb⟩⟩
      simp only [execOp, ho, Instr.alloc, Sem.run_bind, run_zero w hz, Result.andThen_ok]
      rfl
    · cases h
  case box e x =>
    simp only [newOp] at h
    cases h
    refine ⟨_, fun b => ptrTo b 0, rfl, rfl, fun ρ g w hev => ⟨.cells (g x).cells e, ⟨w.heap.size, 0, (g x).cells.size, 0⟩, .pointer (some ⟨w.heap.size, 0, none⟩), ?_, rfl, cells_ok (hev x (by rw [ho]; simp [Op.operands])) e _, fun ρ' b hb => VR.ptr hb⟩⟩
    simp only [execOp, ho, Instr.box, Sem.run_bind]
    rfl
  case makeMap t r =>
    cases r with
    | some x => simp [newOp] at h
    | none =>
      simp only [newOp] at h
      cases h
      refine ⟨_, fun b => .map (some b), rfl, rfl, fun ρ g w hev => ⟨.map #[] 0, ⟨w.heap.size, 0, 0, 0⟩, .map (some w.heap.size), ?_, rfl, ⟨[], rfl, rfl, fun i e e' h => by simp at h⟩, fun ρ' b hb => VR.map hb⟩⟩
      simp [execOp, ho, Instr.makeMap]
  case buildSlice t len parts =>
    simp only [newOp] at h
    split at h
    · rename_i elem hu
      split at h
      · rename_i ei hei
        split at h
        · rename_i z hz
          split at h
          · rename_i hle
            split at h
            · rename_i c hc
              cases h
              refine ⟨_, fun b => .slice (some ⟨b, 0, none⟩) len len, rfl, rfl, fun ρ g w hev => ?_⟩
              have hp := parts_vr (ρ := ρ) (f := f) (g := g) (parts := parts) (by rw [ho] at hev; simpa [Op.operands] using hev)
              have hsz : szOf P elem = some ei.size := by simp [szOf, hei]
              have hz1 : z.cells.size = ei.size := by have := hle.2; rw [cellsL_eq] at this; simpa using this
              have hzv := zeros_vr (ρ := ρ) hz len (len * ei.size) (by rw [hz1])
              obtain ⟨c', f1, f2⟩ := fill_sound (place' := fun i => some (i * ei.size, ei.size)) (fun _ => rfl) _ _ _ _ _ hc hzv hp
              have hclen : c.length = len * ei.size := by
                have := fillL_length _ _ _ hc
                rw [this, replL_length, hle.2]
              have hcs : c'.size = len * ei.size := by rw [← hclen, f2.1]; simp
              refine ⟨.cells c' elem, ⟨w.heap.size, 0, c'.size, ei.size⟩, .slice (some ⟨w.heap.size, 0, none⟩) len len, ?_, rfl, ⟨c', elem, (0, 0), rfl, rfl, fun i x hx => ?_, fun _ j _ hj => by simp at hj, fun _ => hsz, (fun h => nomatch h), fun _ _ => rfl⟩, fun ρ' b hb => VR.slice hb (Nat.le_refl _) (Nat.le_refl _) (fun _ => by simp only; omega) (.inl rfl)⟩
              · simp only [execOp, ho]
                unfold Instr.buildSlice
                simp only [Sem.run_bind, run_und w hu, Result.andThen_ok, run_size w hsz]
                rw [if_neg (by omega)]
                by_cases h0 : len * ei.size = 0
                · rw [if_pos h0]
                  have e1 : Array.map (fun x => (#[] : Array Value)[x % (#[] : Array Value).size]!) (Array.range (len * ei.size)) = Array.map (fun i => z.cells[i % z.cells.size]!) (Array.range (len * ei.size)) := by rw [h0]; simp
                  simp only [Sem.run_bind, Sem.run_pure, Result.andThen_ok]
                  rw [e1, f1]
                  simp [newRow]
                · rw [if_neg h0]
                  simp only [Sem.run_bind, run_zero w hz, Sem.run_pure, Result.andThen_ok]
                  rw [f1]
                  simp [newRow]
              · obtain ⟨x', p1, p2⟩ := f2.get hx
                exact ⟨x', by rw [← Array.getElem?_toList]; simpa using p1, p2⟩
            · cases h
          · cases h
        · cases h
      · cases h
    · cases h
  all_goals simp [newOp] at h

theorem chk_get {S S' : St} {b : Nat} {B : Blk} {c : Chk} (h : chkOf S b = some c) (hB : S.get b = some B) (hk : c.ok P S' = true) : S'.get b = some B := by
  unfold chkOf at h
  rw [hB] at h
  split at h
  · rename_i cs e row he
    cases he
    cases h
    simp only [Chk.ok] at hk
    split at hk
    · rename_i c' e' row' hg
      simp only [Bool.and_eq_true] at hk
      rw [hg, of_nbeq hk.1.1, eq_of_beq hk.1.2, sameL_eq _ _ _ hk.2]
    · cases hk
  · rename_i he
    cases he
    cases h
    simp only [Chk.ok] at hk
    split at hk
    · rename_i hg; exact hg
    · cases hk
  · cases h

/-! ### plans -/
def befOf (acc : List Nat) (o : Oper) : Nat := o.after.toList.foldl (fun s e => if Region.binds .any e then s ||| 2 ^ e.on ||| ((nth acc e.on).getD 0) else s) 0
theorem befores_prefix : ∀ (l : List Oper) (acc : List Nat), ∃ t, befores l acc = acc ++ t
  | [], acc => ⟨[], by simp [befores]⟩
  | o :: l, acc => by
    obtain ⟨t, h⟩ := befores_prefix l (acc ++ [befOf acc o])
    exact ⟨[befOf acc o] ++ t, by rw [← List.append_assoc, ← h]; rfl⟩
theorem befores_at : ∀ (l : List Oper) (acc : List Nat) (k : Nat) (o : Oper), l[k]? = some o →
    ∃ acc' t, acc'.length = acc.length + k ∧ befores l acc = acc' ++ befOf acc' o :: t
  | [], acc, k, o, h => by simp at h
  | p :: l, acc, 0, o, h => by
    simp only [List.getElem?_cons_zero, Option.some.injEq] at h
    subst h
    obtain ⟨t, h⟩ := befores_prefix l (acc ++ [befOf acc p])
    exact ⟨acc, t, rfl, by have : befores (p :: l) acc = befores l (acc ++ [befOf acc p]) := rfl; rw [this, h]; simp⟩
  | p :: l, acc, k + 1, o, h => by
    simp only [List.getElem?_cons_succ] at h
    obtain ⟨acc', t, h1, h2⟩ := befores_at l (acc ++ [befOf acc p]) k o h
    exact ⟨acc', t, by rw [h1]; simp; omega, by have : befores (p :: l) acc = befores l (acc ++ [befOf acc p]) := rfl; rw [this, h2]⟩

theorem foldBits (acc : List Nat) (b : Nat) : ∀ (l : List Edge) (s : Nat), (l.foldl (fun s e => if Region.binds .any e then s ||| 2 ^ e.on ||| ((nth acc e.on).getD 0) else s) s).testBit b = true ↔
    s.testBit b = true ∨ ∃ e ∈ l, Region.binds .any e = true ∧ (b = e.on ∨ ((nth acc e.on).getD 0).testBit b = true)
  | [], s => by simp
  | e :: l, s => by
    simp only [List.foldl_cons]
    rw [foldBits acc b l]
    by_cases hb : Region.binds .any e = true
    · simp only [hb, if_true, Nat.testBit_or, Nat.testBit_two_pow, Bool.or_eq_true, decide_eq_true_eq, List.mem_cons, exists_eq_or_imp, true_and]
      constructor
      · rintro ((( h | h) | h) | h)
        · exact .inl h
        · exact .inr (.inl (.inl h.symm))
        · exact .inr (.inl (.inr h))
        · exact .inr (.inr h)
      · rintro (h | (h | h) | h)
        · exact .inl (.inl (.inl h))
        · exact .inl (.inl (.inr h.symm))
        · exact .inl (.inr h)
        · exact .inr h
    · simp [hb]

/-- the operations that come before the i-th, as bits -/
def bits (bef : List Nat) (i : Nat) : Nat := (nth bef i).getD 0

theorem zipIdx_get {full : List Oper} {i : Nat} {o : Oper} : (o, i) ∈ full.zipIdx ↔ full[i]? = some o := by
  rw [List.mem_zipIdx_iff_getElem?]

theorem edges_lt {full : List Oper} (hE : edgesOk full.zipIdx = true) {i : Nat} {o : Oper} (hi : full[i]? = some o) : ∀ e ∈ o.after.toList, Region.binds .any e = true → e.on < i := by
  intro e he hb
  unfold edgesOk at hE
  rw [List.all_eq_true] at hE
  have := hE (o, i) (zipIdx_get.2 hi)
  simp only [Bool.and_eq_true, List.all_eq_true] at this
  have := this.1 e he
  simpa [hb] using this

theorem bits_spec {full : List Oper} (hE : edgesOk full.zipIdx = true) {i : Nat} {o : Oper} (hi : full[i]? = some o) (b : Nat) :
    (bits (befores full []) i).testBit b = true ↔ ∃ e ∈ o.after.toList, Region.binds .any e = true ∧ (b = e.on ∨ (bits (befores full []) e.on).testBit b = true) := by
  obtain ⟨acc', t, h1, h2⟩ := befores_at full [] i o hi
  simp only [List.length_nil, Nat.zero_add] at h1
  have e1 : bits (befores full []) i = befOf acc' o := by
    unfold bits
    rw [nth_eq, h2, List.getElem?_append_right (by omega)]
    simp [h1]
  rw [e1]
  unfold befOf
  rw [foldBits]
  simp only [Nat.zero_testBit, Bool.false_eq_true, false_or]
  constructor
  · rintro ⟨e, he, hb, hx⟩
    refine ⟨e, he, hb, ?_⟩
    have hlt := edges_lt hE hi e he hb
    unfold bits
    rw [nth_eq, h2, List.getElem?_append_left (by omega), ← nth_eq]
    exact hx
  · rintro ⟨e, he, hb, hx⟩
    refine ⟨e, he, hb, ?_⟩
    have hlt := edges_lt hE hi e he hb
    unfold bits at hx
    rw [nth_eq, h2, List.getElem?_append_left (by omega), ← nth_eq] at hx
    exact hx

theorem bitsIn_spec {x y : Nat} (h : bitsIn x y = true) (b : Nat) (hb : x.testBit b = true) : y.testBit b = true := by
  unfold bitsIn at h
  have e : x &&& y = x := of_nbeq h
  rw [← e, Nat.testBit_and, Bool.and_eq_true] at hb
  exact hb.2

theorem planOk_cons {full : List Oper} {bef : List Nat} {o : Oper} {i : Nat} {r : List (Oper × Nat)} {done : Nat} (h : planOk full bef ((o, i) :: r) done = true) :
    done.testBit i = false ∧ (∀ b, (bits bef i).testBit b = true → done.testBit b = true) ∧ (kindOf o.op = .heavy → ∀ x ∈ r, (bits bef x.2).testBit i = true) ∧ planOk full bef r (done ||| 2 ^ i) = true := by
  simp only [planOk, Bool.and_eq_true, Bool.not_eq_true', Bool.or_eq_true, List.all_eq_true] at h
  refine ⟨h.1.1.1.2, bitsIn_spec h.1.1.2, fun hk x hx => ?_, h.2⟩
  rcases h.1.2 with h1 | h1
  · simp [hk] at h1
  · exact h1 x hx

theorem planOk_all {full : List Oper} {bef : List Nat} : ∀ (l : List (Oper × Nat)) (done : Nat), planOk full bef l done = true → ∀ i, i < full.length → done.testBit i = true ∨ ∃ o, (o, i) ∈ l
  | [], done, h, i, hi => by
    simp only [planOk] at h
    rw [of_nbeq h, Nat.testBit_two_pow_sub_one]
    simp [hi]
  | (o, j) :: r, done, h, i, hi => by
    obtain ⟨_, _, _, h4⟩ := planOk_cons h
    rcases planOk_all r _ h4 i hi with h5 | ⟨p, h5⟩
    · rw [Nat.testBit_or, Nat.testBit_two_pow, Bool.or_eq_true, decide_eq_true_eq] at h5
      rcases h5 with h5 | h5
      · exact .inl h5
      · subst h5; exact .inr ⟨o, by simp⟩
    · exact .inr ⟨p, by simp [h5]⟩

theorem pairsOk_spec {full : List Oper} {bef : List Nat} : ∀ (l : List (Oper × Nat)), pairsOk full bef l = true → ∀ (k k' : Nat) (x y : Oper × Nat), k < k' → l[k]? = some x → l[k']? = some y → pairOk full bef x.2 x.1 y.2 y.1 = true
  | [], _, k, k', x, y, _, h, _ => by simp at h
  | (o, i) :: l, h, k, k', x, y, hk, hx, hy => by
    simp only [pairsOk, Bool.and_eq_true, List.all_eq_true] at h
    cases k' with
    | zero => omega
    | succ k' =>
      simp only [List.getElem?_cons_succ] at hy
      cases k with
      | zero =>
        simp only [List.getElem?_cons_zero, Option.some.injEq] at hx
        subst hx
        exact h.1 y (List.mem_of_getElem? hy)
      | succ k =>
        simp only [List.getElem?_cons_succ] at hx
        exact pairsOk_spec l h.2 k k' x y (by omega) hx hy

theorem pair_sep {full : List Oper} {bef : List Nat} (hP : pairsOk full bef full.zipIdx = true) {i j : Nat} {o p : Oper} (hi : full[i]? = some o) (hj : full[j]? = some p) (hne : i ≠ j) :
    (∀ d, o.dst = some d → d ∈ opTmps full p → (bits bef j).testBit i = true ∨ (bits bef i).testBit j = true) ∧ (∀ d, o.dst = some d → p.dst ≠ some d) := by
  have hzi : full.zipIdx[i]? = some (o, i) := by simp [hi]
  have hzj : full.zipIdx[j]? = some (p, j) := by simp [hj]
  rcases Nat.lt_or_gt_of_ne hne with hlt | hlt
  · have h := pairsOk_spec _ hP i j _ _ hlt hzi hzj
    simp only [pairOk, Bool.and_eq_true, Bool.or_eq_true] at h
    refine ⟨fun d hd hm => ?_, fun d hd he => ?_⟩
    · rcases h.1 with h1 | h1
      · exact .inl h1
      · have := h1.1.2
        rw [hd] at this
        simp [hm] at this
    · have := h.2
      rw [hd, he] at this
      simp at this
  · have h := pairsOk_spec _ hP j i _ _ hlt hzj hzi
    simp only [pairOk, Bool.and_eq_true, Bool.or_eq_true] at h
    refine ⟨fun d hd hm => ?_, fun d hd he => ?_⟩
    · rcases h.1 with h1 | h1
      · exact .inr h1
      · have := h1.2
        rw [hd] at this
        simp [hm] at this
    · have := h.2
      rw [hd, he] at this
      simp at this

theorem planFloat_mem {bef : List Nat} : ∀ (l : List (Oper × Nat)) (done : Nat), ∀ x ∈ (planFloat bef l done).1, x ∈ l
  | [], done, x, h => by simp [planFloat] at h
  | (o, i) :: l, done, x, h => by
    simp only [planFloat] at h
    split at h
    · exact List.mem_cons_of_mem _ (planFloat_mem l done x h)
    · rcases List.mem_cons.1 h with h1 | h1
      · subst h1; simp
      · exact List.mem_cons_of_mem _ (planFloat_mem l _ x h1)
theorem planAll_mem {bef : List Nat} {l : List (Oper × Nat)} : ∀ (r : List (Oper × Nat)) (done : Nat), (∀ x ∈ r, x ∈ l) → ∀ x ∈ planAll bef l r done, x ∈ l
  | [], done, _, x, h => planFloat_mem l done x h
  | (o, i) :: r, done, hr, x, h => by
    simp only [planAll] at h
    rcases List.mem_append.1 h with h1 | h1
    · exact planFloat_mem l done x h1
    · rcases List.mem_cons.1 h1 with h2 | h2
      · subst h2; exact hr _ (by simp)
      · exact planAll_mem r _ (fun y hy => hr y (by simp [hy])) x h2
theorem planOf_mem {full : List Oper} : ∀ x ∈ planOf full, full[x.2]? = some x.1 := by
  intro x hx
  have : x ∈ full.zipIdx := planAll_mem _ _ (fun y hy => (List.mem_filter.1 hy).1) x hx
  exact zipIdx_get.1 this

end Go.Cm

namespace Go.Cm
open Go
variable {P : Program} {w0 : Base} {K : Known}

/-! ### activations -/
theorem put_get {a a' : Ca} {dst : Option Tmp} {v : Value} (hn : a.n ≤ 256) (h : a.put dst v = some a') (t : Tmp) : a'.get t = if dst = some t then v else a.get t := by
  unfold Ca.put at h
  cases dst with
  | none => simp only [Option.some.injEq] at h; subst h; simp
  | some d =>
    simp only at h
    cases hb : Nat.blt d a.n with
    | false => rw [hb] at h; cases h
    | true =>
      rw [hb] at h
      simp only [cond_true, Option.some.injEq] at h
      subst h
      have hd := nblt_tt hb
      simp only [get_eq, getT, Option.some.injEq]
      rw [PT.get_set_if _ _ _ (by omega)]
      by_cases e : t = d
      · subst e; simp
      · rw [if_neg e, if_neg (fun h => e h.symm)]
theorem put_n {a a' : Ca} {dst : Option Tmp} {v : Value} (h : a.put dst v = some a') : a'.n = a.n ∧ a'.defers = a.defers := by
  unfold Ca.put at h
  cases dst with
  | none => simp only [Option.some.injEq] at h; subst h; exact ⟨rfl, rfl⟩
  | some d =>
    simp only at h
    cases hb : Nat.blt d a.n with
    | false => rw [hb] at h; cases h
    | true =>
      rw [hb] at h
      simp only [cond_true, Option.some.injEq] at h
      subst h
      exact ⟨rfl, rfl⟩
theorem put_some {a a' b : Ca} {dst : Option Tmp} {v : Value} (h : a.put dst v = some a') (hn : b.n = a.n) (v' : Value) : ∃ b', b.put dst v' = some b' := by
  unfold Ca.put at h ⊢
  cases dst with
  | none => exact ⟨_, rfl⟩
  | some d =>
    simp only at h ⊢
    cases hb : Nat.blt d a.n with
    | false => rw [hb] at h; cases h
    | true => rw [hn, hb]; exact ⟨_, rfl⟩

theorem mem_guard {full : List Oper} {o oj : Oper} {j : Nat} {x : Bool} {d : Tmp} (h : o.guard = some (j, x)) (h1 : nth full j = some oj) (h2 : oj.dst = some d) : d ∈ opTmps full o := by
  unfold opTmps
  simp only [h, h1, h2, List.append_assoc]
  exact List.mem_append_left _ (by simp)
theorem mem_tmp {full : List Oper} {o : Oper} {t : Tmp} (h : .tmp t ∈ o.op.operands) : t ∈ opTmps full o := by
  unfold opTmps
  exact List.mem_append_right _ (List.mem_filterMap.2 ⟨.tmp t, by simpa using h, rfl⟩)

theorem wantedC_congr {full : List Oper} {o : Oper} {a b : Ca} (h : ∀ t ∈ opTmps full o, a.get t = b.get t) : wantedC full a o = wantedC full b o := by
  unfold wantedC
  cases hg : o.guard with
  | none => rfl
  | some q =>
    obtain ⟨j, x⟩ := q
    simp only
    cases hj : nth full j with
    | none => rfl
    | some oj =>
      simp only
      cases hd : oj.dst with
      | none => rfl
      | some d =>
        simp only
        have := h d (mem_guard hg hj hd)
        unfold Ca.get at this
        cases ha : a.t.get d with
        | none =>
          cases hb : b.t.get d with
          | none => rfl
          | some v => rw [ha, hb] at this; simp only at this; rw [← this]; rfl
        | some u =>
          cases hb : b.t.get d with
          | none => rw [ha, hb] at this; simp only at this; rw [this]; rfl
          | some v => rw [ha, hb] at this; simp only at this; rw [this]
theorem ev_congr {full : List Oper} {o : Oper} {a b : Ca} (h : ∀ t ∈ opTmps full o, a.get t = b.get t) : ∀ x, x ∈ o.op.operands → a.ev x = b.ev x := by
  intro x hx
  cases x with
  | tmp t => exact h t (mem_tmp hx)
  | const v => rfl
  | global g => rfl
  | func f => rfl

/-! ### what the plan has done and the model has not -/
structure Pn where
  o : Oper
  i : Nat
  a : Ca
  v : Value
  b : Option Nat

inductive PnOk (P : Program) (full : List Oper) (S : St) (chk : List (Nat × Chk)) (no : Nat → Bool) (q : Pn) : Prop
  | skip (h : wantedC full q.a q.o = false) (hv : q.v = undef) (hb : q.b = none)
  | read (h : wantedC full q.a q.o = true) (hk : kindOf q.o.op = .read) (hr : readOp P q.a.ev q.o.op S = some q.v) (hc : looks q.o.op = true → (q.i, Chk.read q.a q.o.op q.v) ∈ chk) (hb : q.b = none)
  | fresh (h : wantedC full q.a q.o = true) (hk : kindOf q.o.op = .fresh) {B : Blk} {mk : Nat → Value} {b : Nat} {c : Chk} (hb : q.b = some b) (hv : q.v = mk b) (hB : S.get b = some B) (hc : (q.i, c) ∈ chk)
      (hcb : ∀ S', c.ok P S' = true → S'.get b = some B) (hno : no b = true) (hrun : NewRun P q.o q.a.ev B mk)

theorem PnOk.grow {full : List Oper} {S S' : St} {chk chk' : List (Nat × Chk)} {no no' : Nat → Bool} {q : Pn} (h : PnOk P full S chk no q) (hl : Le S S') (hc : ∀ x ∈ chk, x ∈ chk') (hn : ∀ b, no b = true → no' b = true) : PnOk P full S' chk' no' q := by
  cases h with
  | skip h hv hb => exact .skip h hv hb
  | read h hk hr hk2 hb => exact .read h hk (readOp_mono hl hr) (fun h => hc _ (hk2 h)) hb
  | fresh h hk hb hv hB hcm hcb hno hrun => exact .fresh h hk hb hv (hl _ _ hB) (hc _ hcm) hcb (hn _ hno) hrun
theorem PnOk.turn {full : List Oper} {S S' : St} {chk chk' : List (Nat × Chk)} {no : Nat → Bool} {q : Pn} (h : PnOk P full S chk no q) (hkeep : ∀ c, (q.i, c) ∈ chk → (q.i, c) ∈ chk') (hok : ∀ x ∈ chk', x.2.ok P S' = true) : PnOk P full S' chk' no q := by
  cases h with
  | skip h hv hb => exact .skip h hv hb
  | read h hk hr hk2 hb =>
    refine .read h hk ?_ (fun h => hkeep _ (hk2 h)) hb
    cases hlk : looks q.o.op with
    | false => exact readOp_calm hlk hr
    | true =>
      have := hok _ (hkeep _ (hk2 hlk))
      simp only [Chk.ok] at this
      split at this
      · rename_i x hx
        rw [hx, sameV_eq _ _ _ this]
      · cases this
  | fresh h hk hb hv hB hcm hcb hno hrun => exact .fresh h hk hb hv (hcb _ (hok _ (hkeep _ hcm))) (hkeep _ hcm) hcb hno hrun
theorem PnOk.no {full : List Oper} {S : St} {chk : List (Nat × Chk)} {no no' : Nat → Bool} {q : Pn} (h : PnOk P full S chk no q) (hn : ∀ b, q.b = some b → no b = true → no' b = true) : PnOk P full S chk no' q := by
  cases h with
  | skip h hv hb => exact .skip h hv hb
  | read h hk hr hk2 hb => exact .read h hk hr hk2 hb
  | fresh h hk hb hv hB hcm hcb hno hrun => exact .fresh h hk hb hv hB hcm hcb (hn _ hb hno) hrun

abbrev bef (full : List Oper) (i : Nat) : Nat := bits (befores full []) i

/-- the plan's run and the model's run: where they stand -/
structure Inv (P : Program) (ih : Fns) (full : List Oper) (e : Exit) (a1 : Ca) (S1 : St) (w0 : Base) (ρ0 : Rmap) (Ls : Nat → Prop) (ar : Act) (w : World)
    (pend : List Pn) (rest : List (Oper × Nat)) (chk : List (Nat × Chk)) (a : Ca) (S : St) (A : Ca) (no : Nat → Bool) (ρ : Rmap) (done : Nat) : Prop where
  run : runPlan P ih full (befores full []) rest chk a S = some (e, a1, S1)
  plan : planOk full (befores full []) rest done = true
  mem : ∀ x ∈ rest, full[x.2]? = some x.1
  don : ∀ x, done.testBit x = true ↔ Ls x ∨ ∃ q ∈ pend, q.i = x
  cls : ∀ j, Ls j → ∀ b, (bef full j).testBit b = true → Ls b
  pmem : ∀ q ∈ pend, full[q.i]? = some q.o
  pnl : ∀ q ∈ pend, ¬ Ls q.i
  pun : ∀ q ∈ pend, ∀ q' ∈ pend, q.i = q'.i → q = q'
  pbef : ∀ q ∈ pend, ∀ b, (bef full q.i).testBit b = true → done.testBit b = true
  pok : ∀ q ∈ pend, PnOk P full S chk no q
  pput : ∀ q ∈ pend, ∃ a', q.a.put q.o.dst q.v = some a'
  pn : ∀ q ∈ pend, q.a.n = a.n
  An : A.n = a.n ∧ A.defers = a.defers
  agree : ∀ t, (∀ q ∈ pend, q.o.dst ≠ some t) → A.get t = a.get t
  pagree : ∀ q ∈ pend, ∀ t ∈ opTmps full q.o, (∀ j ∈ pend, (bef full q.i).testBit j.i = true → j.o.dst ≠ some t) → A.get t = q.a.get t
  pdst : ∀ q ∈ pend, ∀ d, q.o.dst = some d → a.get d = q.v
  ppdst : ∀ q ∈ pend, ∀ j ∈ pend, (bef full q.i).testBit j.i = true → ∀ d, j.o.dst = some d → q.a.get d = j.v
  bno : ∀ x, no x = true ↔ w0.no x = true ∨ ∃ q ∈ pend, q.b = some x
  bw : ∀ q ∈ pend, ∀ x, q.b = some x → w0.no x = false
  bun : ∀ q ∈ pend, ∀ q' ∈ pend, ∀ x, q.b = some x → q'.b = some x → q.i = q'.i
  ext : Ext ρ0 ρ
  sim : Sim P ⟨w0.toWorld, no⟩ ρ S w
  act : ActR ρ A ar

section
variable {ih : Fns} {full : List Oper} {e : Exit} {a1 : Ca} {S1 : St} {ρ0 : Rmap} {Ls : Nat → Prop} {ar : Act} {w : World}
  {pend : List Pn} {rest : List (Oper × Nat)} {chk : List (Nat × Chk)} {a : Ca} {S : St} {A : Ca} {no : Nat → Bool} {ρ : Rmap} {done : Nat}

theorem bit_or {x i j : Nat} : (x ||| 2 ^ i).testBit j = true ↔ x.testBit j = true ∨ j = i := by
  rw [Nat.testBit_or, Nat.testBit_two_pow, Bool.or_eq_true, decide_eq_true_eq]
  constructor <;> (rintro (h | h) <;> first | exact .inl h | exact .inr h.symm)

theorem Inv.push (hP : pairsOk full (befores full []) full.zipIdx = true) {o : Oper} {i : Nat} {r : List (Oper × Nat)} (h : Inv P ih full e a1 S1 w0 ρ0 Ls ar w pend ((o, i) :: r) chk a S A no ρ done)
    {v : Value} {b : Option Nat} {a' : Ca} {S' : St} {chk' : List (Nat × Chk)} {no' : Nat → Bool} (hput : a.put o.dst v = some a') (hrun : runPlan P ih full (befores full []) r chk' a' S' = some (e, a1, S1))
    (hl : Le S S') (hc : ∀ x ∈ chk, x ∈ chk') (hno : ∀ x, no' x = true ↔ no x = true ∨ b = some x) (hb : ∀ x, b = some x → no x = false) (hsim : Sim P ⟨w0.toWorld, no'⟩ ρ S' w)
    (hq : PnOk P full S' chk' no' ⟨o, i, a, v, b⟩) : Inv P ih full e a1 S1 w0 ρ0 Ls ar w (pend ++ [⟨o, i, a, v, b⟩]) r chk' a' S' A no' ρ (done ||| 2 ^ i) := by
  obtain ⟨hd, hbf, _, hpl⟩ := planOk_cons h.plan
  have hi : full[i]? = some o := h.mem (o, i) (by simp)
  have hn : a.n ≤ 256 := by rw [← h.An.1]; exact h.act.le
  have hnd : ¬ (done.testBit i = true) := by rw [hd]; simp
  have hpi : ∀ q ∈ pend, q.i ≠ i := fun q hq e => hnd ((h.don i).2 (.inr ⟨q, hq, e⟩))
  have mem' : ∀ q, q ∈ pend ++ [⟨o, i, a, v, b⟩] ↔ q ∈ pend ∨ q = ⟨o, i, a, v, b⟩ := fun q => by simp
  refine ⟨hrun, hpl, fun x hx => h.mem x (by simp [hx]), fun x => ?_, h.cls, ?_, ?_, ?_, ?_, ?_, ?_, ?_, ?_, ?_, ?_, ?_, ?_, ?_, ?_, ?_, h.ext, hsim, h.act⟩
  · rw [bit_or, h.don]
    constructor
    · rintro ((h1 | ⟨q, hq, h1⟩) | h1)
      · exact .inl h1
      · exact .inr ⟨q, (mem' q).2 (.inl hq), h1⟩
      · exact .inr ⟨_, (mem' _).2 (.inr rfl), h1.symm⟩
    · rintro (h1 | ⟨q, hq, h1⟩)
      · exact .inl (.inl h1)
      · rcases (mem' q).1 hq with hq | rfl
        · exact .inl (.inr ⟨q, hq, h1⟩)
        · exact .inr h1.symm
  · intro q hq
    rcases (mem' q).1 hq with hq | rfl
    · exact h.pmem q hq
    · exact hi
  · intro q hq
    rcases (mem' q).1 hq with hq | rfl
    · exact h.pnl q hq
    · exact fun hl => hnd ((h.don i).2 (.inl hl))
  · intro q hq q' hq' he
    rcases (mem' q).1 hq with hq | rfl
    · rcases (mem' q').1 hq' with hq' | rfl
      · exact h.pun q hq q' hq' he
      · exact absurd he (hpi q hq)
    · rcases (mem' q').1 hq' with hq' | rfl
      · exact absurd he.symm (hpi q' hq')
      · rfl
  · intro q hq x hx
    refine bit_or.2 (.inl ?_)
    rcases (mem' q).1 hq with hq | rfl
    · exact h.pbef q hq x hx
    · exact hbf x hx
  · intro q hq'
    rcases (mem' q).1 hq' with hq' | rfl
    · exact (h.pok q hq').grow hl hc (fun x hx => (hno x).2 (.inl hx))
    · exact hq
  · intro q hq
    rcases (mem' q).1 hq with hq | rfl
    · exact h.pput q hq
    · exact ⟨_, hput⟩
  · intro q hq
    rw [(put_n hput).1]
    rcases (mem' q).1 hq with hq | rfl
    · exact h.pn q hq
    · rfl
  · rw [(put_n hput).1, (put_n hput).2]; exact h.An
  · intro t ht
    rw [put_get hn hput, if_neg (ht ⟨o, i, a, v, b⟩ ((mem' _).2 (.inr rfl)))]
    exact h.agree t fun q hq => ht q ((mem' q).2 (.inl hq))
  · intro q hq t ht hpre
    rcases (mem' q).1 hq with hq | rfl
    · exact h.pagree q hq t ht fun j hj => hpre j ((mem' j).2 (.inl hj))
    · refine h.agree t fun j hj he => ?_
      rcases (pair_sep hP (h.pmem j hj) hi (hpi j hj)).1 t he ht with h1 | h1
      · exact hpre j ((mem' j).2 (.inl hj)) h1 he
      · exact hnd (h.pbef j hj i h1)
  · intro q hq d hqd
    rw [put_get hn hput]
    rcases (mem' q).1 hq with hq | rfl
    · rw [if_neg ((pair_sep hP (h.pmem q hq) hi (hpi q hq)).2 d hqd)]
      exact h.pdst q hq d hqd
    · rw [if_pos hqd]
  · intro q hq j hj hbit d hjd
    rcases (mem' q).1 hq with hq | rfl
    · rcases (mem' j).1 hj with hj | rfl
      · exact h.ppdst q hq j hj hbit d hjd
      · exact absurd (h.pbef q hq i hbit) hnd
    · rcases (mem' j).1 hj with hj | rfl
      · exact h.pdst j hj d hjd
      · exact absurd (hbf i hbit) hnd
  · intro x
    rw [hno, h.bno]
    constructor
    · rintro ((h1 | ⟨q, hq, h1⟩) | h1)
      · exact .inl h1
      · exact .inr ⟨q, (mem' q).2 (.inl hq), h1⟩
      · exact .inr ⟨_, (mem' _).2 (.inr rfl), h1⟩
    · rintro (h1 | ⟨q, hq, h1⟩)
      · exact .inl (.inl h1)
      · rcases (mem' q).1 hq with hq | rfl
        · exact .inl (.inr ⟨q, hq, h1⟩)
        · exact .inr h1
  · intro q hq x hx
    rcases (mem' q).1 hq with hq | rfl
    · exact h.bw q hq x hx
    · have h1 := hb x hx
      cases h2 : w0.no x with
      | false => rfl
      | true => rw [(h.bno x).2 (.inl h2)] at h1; cases h1
  · intro q hq q' hq' x hx hx'
    rcases (mem' q).1 hq with hq | rfl
    · rcases (mem' q').1 hq' with hq' | rfl
      · exact h.bun q hq q' hq' x hx hx'
      · have := hb x hx'
        rw [(h.bno x).2 (.inr ⟨q, hq, hx⟩)] at this
        cases this
    · rcases (mem' q').1 hq' with hq' | rfl
      · have := hb x hx
        rw [(h.bno x).2 (.inr ⟨q', hq', hx'⟩)] at this
        cases this
      · rfl

theorem le_new {S : St} (B : Blk) (h : S.get S.size = none) : Le S ⟨S.heap.set S.size (some B), S.size + 1⟩ := by
  intro b C hC
  simp only [St.get, Heap.get_set_any] at hC h ⊢
  rw [if_neg (fun e => by rw [e, h] at hC; cases hC)]
  exact hC

theorem Inv.absorb (hP : pairsOk full (befores full []) full.zipIdx = true) : ∀ (rest : List (Oper × Nat)) (pend : List Pn) (chk : List (Nat × Chk)) (a : Ca) (S : St) (no : Nat → Bool) (done : Nat),
    Inv P ih full e a1 S1 w0 ρ0 Ls ar w pend rest chk a S A no ρ done →
    ∃ pend' rest' chk' a' S' no' done', Inv P ih full e a1 S1 w0 ρ0 Ls ar w pend' rest' chk' a' S' A no' ρ done' ∧ pend'.length + rest'.length = pend.length + rest.length ∧
      (∀ o i r, rest' = (o, i) :: r → wantedC full a' o = true ∧ kindOf o.op = .heavy)
  | [], pend, chk, a, S, no, done, h => ⟨pend, [], chk, a, S, no, done, h, rfl, fun o i r he => by cases he⟩
  | (o, i) :: r, pend, chk, a, S, no, done, h => by
    have hr := h.run
    unfold runPlan at hr
    cases hw : wantedC full a o with
    | false =>
      rw [hw] at hr
      simp only [cond_false] at hr
      split at hr
      · rename_i a' hput
        have h2 := h.push hP (v := undef) (b := none) (no' := no) hput hr (fun _ _ h => h) (fun _ h => h) (fun x => by simp) (fun x hx => by cases hx) h.sim (.skip hw rfl rfl)
        obtain ⟨p', r', c', a'', S', no', d', h3, h4, h5⟩ := Inv.absorb hP r _ _ _ _ _ _ h2
        exact ⟨p', r', c', a'', S', no', d', h3, by rw [h4]; simp; omega, h5⟩
      · cases hr
    | true =>
      rw [hw] at hr
      simp only [cond_true] at hr
      split at hr
      · rename_i hk
        split at hr
        · rename_i v hv
          split at hr
          · rename_i a' hput
            have h2 := h.push hP (v := v) (b := none) (no' := no) hput hr (fun _ _ h => h) (fun x hx => by cases looks o.op <;> simp [hx]) (fun x => by simp) (fun x hx => by cases hx) h.sim
              (.read hw hk hv (fun hlk => by simp [hlk]) rfl)
            obtain ⟨p', r', c', a'', S', no', d', h3, h4, h5⟩ := Inv.absorb hP r _ _ _ _ _ _ h2
            exact ⟨p', r', c', a'', S', no', d', h3, by rw [h4]; simp; omega, h5⟩
          · cases hr
        · cases hr
      · rename_i hk
        split at hr
        · rename_i v S' hv
          split at hr
          · rename_i a' c hput hck hnone
            obtain ⟨B, mk, rfl, rfl, hrun⟩ := new_spec hv
            have hB : (⟨S.heap.set S.size (some B), S.size + 1⟩ : St).get S.size = some B := by
              simp only [St.get, Heap.get_set_any]
              rw [if_pos trivial]
            have hnoS : no S.size = false := by
              cases hx : no S.size with
              | false => rfl
              | true => exact absurd (h.sim.no _ hx).2 (Nat.lt_irrefl _)
            have hno' : ∀ x, (no x || x == S.size) = true ↔ no x = true ∨ some S.size = some x := by
              intro x
              rw [Bool.or_eq_true, beq_iff_eq, Option.some.injEq]
              constructor <;> (rintro (h | h) <;> first | exact .inl h | exact .inr h.symm)
            have h2 := h.push hP (v := mk S.size) (b := some S.size) (no' := fun x => no x || x == S.size) hput hr (le_new B hnone) (fun x hx => by simp [hx]) hno'
              (fun x hx => by cases hx; exact hnoS)
              (h.sim.unborn B (fun x hx => by rcases (hno' x).1 hx with h1 | h1 <;> first | exact .inl h1 | exact .inr (Option.some.inj h1).symm))
              (.fresh hw hk rfl rfl hB (List.mem_cons_self ..) (fun S'' hok => chk_get hck hB hok) ((hno' _).2 (.inr rfl)) hrun)
            obtain ⟨p', r', c', a'', S', no', d', h3, h4, h5⟩ := Inv.absorb hP r _ _ _ _ _ _ h2
            exact ⟨p', r', c', a'', S', no', d', h3, by rw [h4]; simp; omega, h5⟩
          · cases hr
        · cases hr
      · rename_i hk
        exact ⟨pend, (o, i) :: r, chk, a, S, no, done, h, rfl, fun o' i' r' he => by cases he; exact ⟨hw, hk⟩⟩

/-- the model has done what was pending -/
theorem Inv.drop (hP : pairsOk full (befores full []) full.zipIdx = true) (h : Inv P ih full e a1 S1 w0 ρ0 Ls ar w pend rest chk a S A no ρ done) {q : Pn} (hq : q ∈ pend) (hready : ∀ b, (bef full q.i).testBit b = true → Ls b)
    {A' : Ca} {ar' : Act} {w' : World} {ρ' : Rmap} {no' : Nat → Bool} (hput : A.put q.o.dst q.v = some A') (hno : ∀ x, no' x = true ↔ no x = true ∧ q.b ≠ some x) (hx : Ext ρ ρ')
    (hs : Sim P ⟨w0.toWorld, no'⟩ ρ' S w') (hact : ActR ρ' A' ar') :
    Inv P ih full e a1 S1 w0 ρ0 (fun x => Ls x ∨ x = q.i) ar' w' (pend.filter fun x => !(x.i == q.i)) rest chk a S A' no' ρ' done := by
  have hn : A.n ≤ 256 := h.act.le
  have mem' : ∀ x, x ∈ (pend.filter fun x => !(x.i == q.i)) ↔ x ∈ pend ∧ x.i ≠ q.i := fun x => by simp [List.mem_filter]
  have hqi := h.pmem q hq
  refine ⟨h.run, h.plan, h.mem, fun x => ?_, ?_, ?_, ?_, ?_, ?_, ?_, ?_, ?_, ?_, ?_, ?_, ?_, ?_, ?_, ?_, ?_, h.ext.trans hx, hs, hact⟩
  · rw [h.don]
    constructor
    · rintro (h1 | ⟨p, hp, h1⟩)
      · exact .inl (.inl h1)
      · by_cases he : p.i = q.i
        · exact .inl (.inr (h1 ▸ he))
        · exact .inr ⟨p, (mem' p).2 ⟨hp, he⟩, h1⟩
    · rintro ((h1 | h1) | ⟨p, hp, h1⟩)
      · exact .inl h1
      · exact .inr ⟨q, hq, h1.symm⟩
      · exact .inr ⟨p, ((mem' p).1 hp).1, h1⟩
  · rintro j (hj | hj) b hb
    · exact .inl (h.cls j hj b hb)
    · subst hj; exact .inl (hready b hb)
  · intro p hp; exact h.pmem p ((mem' p).1 hp).1
  · rintro p hp (h1 | h1)
    · exact h.pnl p ((mem' p).1 hp).1 h1
    · exact ((mem' p).1 hp).2 h1
  · intro p hp p' hp'; exact h.pun p ((mem' p).1 hp).1 p' ((mem' p').1 hp').1
  · intro p hp; exact h.pbef p ((mem' p).1 hp).1
  · intro p hp
    refine (h.pok p ((mem' p).1 hp).1).no fun b hb hnb => (hno b).2 ⟨hnb, fun he => ?_⟩
    exact ((mem' p).1 hp).2 (h.bun p ((mem' p).1 hp).1 q hq b hb he)
  · intro p hp; exact h.pput p ((mem' p).1 hp).1
  · intro p hp; exact h.pn p ((mem' p).1 hp).1
  · rw [(put_n hput).1, (put_n hput).2]; exact h.An
  · intro t ht
    rw [put_get hn hput]
    by_cases he : q.o.dst = some t
    · rw [if_pos he]; exact (h.pdst q hq t he).symm
    · rw [if_neg he]
      refine h.agree t fun p hp hpt => ?_
      by_cases hpi : p.i = q.i
      · have := h.pun p hp q hq hpi
        subst this
        exact he hpt
      · exact ht p ((mem' p).2 ⟨hp, hpi⟩) hpt
  · intro p hp t ht hpre
    have hp0 := (mem' p).1 hp
    rw [put_get hn hput]
    by_cases he : q.o.dst = some t
    · rw [if_pos he]
      rcases (pair_sep hP hqi (h.pmem p hp0.1) (fun e => hp0.2 e.symm)).1 t he ht with h1 | h1
      · exact (h.ppdst p hp0.1 q hq h1 t he).symm
      · exact absurd (hready _ h1) (h.pnl p hp0.1)
    · rw [if_neg he]
      refine h.pagree p hp0.1 t ht fun j hj hbit hjt => ?_
      by_cases hji : j.i = q.i
      · have := h.pun j hj q hq hji
        subst this
        exact he hjt
      · exact hpre j ((mem' j).2 ⟨hj, hji⟩) hbit hjt
  · intro p hp; exact h.pdst p ((mem' p).1 hp).1
  · intro p hp j hj; exact h.ppdst p ((mem' p).1 hp).1 j ((mem' j).1 hj).1
  · intro x
    rw [hno, h.bno]
    constructor
    · rintro ⟨h1 | ⟨p, hp, h1⟩, h2⟩
      · exact .inl h1
      · refine .inr ⟨p, (mem' p).2 ⟨hp, fun he => ?_⟩, h1⟩
        have := h.pun p hp q hq he
        subst this
        exact h2 h1
    · rintro (h1 | ⟨p, hp, h1⟩)
      · refine ⟨.inl h1, fun he => ?_⟩
        have := h.bw q hq x he
        rw [h1] at this; cases this
      · have hp0 := (mem' p).1 hp
        exact ⟨.inr ⟨p, hp0.1, h1⟩, fun he => hp0.2 (h.bun p hp0.1 q hq x h1 he)⟩
  · intro p hp; exact h.bw p ((mem' p).1 hp).1
  · intro p hp p' hp'; exact h.bun p ((mem' p).1 hp).1 p' ((mem' p').1 hp').1

/-- the model has done the plan's next heavy operation -/
theorem Inv.head (hP : pairsOk full (befores full []) full.zipIdx = true) {o : Oper} {i : Nat} {r : List (Oper × Nat)} (h : Inv P ih full e a1 S1 w0 ρ0 Ls ar w pend ((o, i) :: r) chk a S A no ρ done)
    (hready : ∀ b, (bef full i).testBit b = true → Ls b) {v : Value} {a' A' : Ca} {S' : St} (hput : a.put o.dst v = some a') (hputA : A.put o.dst v = some A')
    (hrun : runPlan P ih full (befores full []) r (chk.filter fun x => !(bef full i).testBit x.1) a' S' = some (e, a1, S1)) (hok : ∀ x ∈ (chk.filter fun x => !(bef full i).testBit x.1), x.2.ok P S' = true)
    {ar' : Act} {w' : World} {ρ' : Rmap} (hx : Ext ρ ρ') (hs : Sim P ⟨w0.toWorld, no⟩ ρ' S' w') (hact : ActR ρ' A' ar') :
    Inv P ih full e a1 S1 w0 ρ0 (fun x => Ls x ∨ x = i) ar' w' pend r (chk.filter fun x => !(bef full i).testBit x.1) a' S' A' no ρ' (done ||| 2 ^ i) := by
  obtain ⟨hd, hbf, _, hpl⟩ := planOk_cons h.plan
  have hi : full[i]? = some o := h.mem (o, i) (by simp)
  have hn : a.n ≤ 256 := by rw [← h.An.1]; exact h.act.le
  have hnA : A.n ≤ 256 := h.act.le
  have hnd : ¬ (done.testBit i = true) := by rw [hd]; simp
  have hpi : ∀ q ∈ pend, q.i ≠ i := fun q hq e => hnd ((h.don i).2 (.inr ⟨q, hq, e⟩))
  have hpb : ∀ q ∈ pend, ¬ ((bef full i).testBit q.i = true) := fun q hq hb => h.pnl q hq (hready _ hb)
  refine ⟨hrun, hpl, fun x hx => h.mem x (by simp [hx]), fun x => ?_, ?_, h.pmem, ?_, h.pun, ?_, ?_, h.pput, ?_, ?_, ?_, ?_, ?_, h.ppdst, h.bno, h.bw, h.bun, h.ext.trans hx, hs, hact⟩
  · rw [bit_or, h.don]
    constructor
    · rintro ((h1 | h1) | h1)
      · exact .inl (.inl h1)
      · exact .inr h1
      · exact .inl (.inr h1)
    · rintro ((h1 | h1) | h1)
      · exact .inl (.inl h1)
      · exact .inr h1
      · exact .inl (.inr h1)
  · rintro j (hj | hj) b hb
    · exact .inl (h.cls j hj b hb)
    · subst hj; exact .inl (hready b hb)
  · rintro q hq (h1 | h1)
    · exact h.pnl q hq h1
    · exact hpi q hq h1
  · intro q hq b hb; exact bit_or.2 (.inl (h.pbef q hq b hb))
  · intro q hq
    refine (h.pok q hq).turn (fun c hc => List.mem_filter.2 ⟨hc, ?_⟩) hok
    cases hb : (bef full i).testBit q.i with
    | false => rfl
    | true => exact absurd hb (hpb q hq)
  · intro q hq; rw [(put_n hput).1]; exact h.pn q hq
  · rw [(put_n hput).1, (put_n hput).2, (put_n hputA).1, (put_n hputA).2]; exact h.An
  · intro t ht
    rw [put_get hn hput, put_get hnA hputA]
    by_cases he : o.dst = some t
    · rw [if_pos he, if_pos he]
    · rw [if_neg he, if_neg he]; exact h.agree t ht
  · intro q hq t ht hpre
    rw [put_get hnA hputA, if_neg (fun he => ?_)]
    · exact h.pagree q hq t ht hpre
    · rcases (pair_sep hP hi (h.pmem q hq) (fun e => hpi q hq e.symm)).1 t he ht with h1 | h1
      · exact hnd (h.pbef q hq i h1)
      · exact hpb q hq h1
  · intro q hq d hqd
    rw [put_get hn hput, if_neg ((pair_sep hP (h.pmem q hq) hi (hpi q hq)).2 d hqd)]
    exact h.pdst q hq d hqd

end

end Go.Cm

namespace Go.Cm
open Go
variable {P : Program} {w0 : Base} {K : Known}

section
variable {ih : Fns} {e : Exit} {a1 : Ca} {S1 : St} {ρ0 : Rmap} {Ls : Nat → Prop} {ar : Act} {w : World}
  {pend : List Pn} {rest : List (Oper × Nat)} {chk : List (Nat × Chk)} {a : Ca} {S : St} {A : Ca} {no : Nat → Bool} {ρ : Rmap} {done : Nat}

theorem agree_ready {full : List Oper} (h : Inv P ih full e a1 S1 w0 ρ0 Ls ar w pend rest chk a S A no ρ done) {q : Pn} (hq : q ∈ pend) (hready : ∀ b, (bef full q.i).testBit b = true → Ls b) :
    ∀ t ∈ opTmps full q.o, A.get t = q.a.get t := fun t ht => h.pagree q hq t ht fun j hj hb => absurd (hready _ hb) (h.pnl j hj)

theorem step_read {f : Operand → Value} {op : Op} {S : St} {v : Value} (hk : kindOf op = .read) (h : readOp P f op S = some v) : stepOp P ih f op S = some (.val v, S) := by
  unfold stepOp
  rw [hk]
  simp [h]

theorem hno_none {q : Pn} (hb : q.b = none) : ∀ x, no x = true ↔ no x = true ∧ q.b ≠ some x := fun x => by simp [hb]

theorem pend_step {ops : Array Oper} (hih : ∀ no, FnsSound P ⟨w0.toWorld, no⟩ ih) (hP : pairsOk ops.toList (befores ops.toList []) ops.toList.zipIdx = true) (hC : constsOk P ops.toList = true)
    (h : Inv P ih ops.toList e a1 S1 w0 ρ0 Ls ar w pend rest chk a S A no ρ done) {q : Pn} (hq : q ∈ pend) (hready : ∀ b, (bef ops.toList q.i).testBit b = true → Ls b) {ro : Option Nat}
    {Kn : Act → World → Prop} {Q : Exit → Act → World → Prop}
    (hK : ∀ ar' w' A' no' ρ', Inv P ih ops.toList e a1 S1 w0 ρ0 (fun x => Ls x ∨ x = q.i) ar' w' (pend.filter fun x => !(x.i == q.i)) rest chk a S A' no' ρ' done → Kn ar' w') :
    if Region.wanted q.o (yielded ops ar.tmps) then q.o.wpIn (FW ro) 0 P ar w Kn Q else (∀ f, q.o.about P w ar.eval = some f → (FW ro).fn f) ∧ Kn (ar.put q.o.dst undef) w := by
  have hag := agree_ready h hq hready
  rw [← wanted_sound h.act (o := q.o), wantedC_congr hag]
  have hqi := h.pmem q hq
  have hoc : OpC P q.o := constsOk_spec hC q.o (List.mem_of_getElem? hqi)
  have hev : ∀ x, x ∈ q.o.op.operands → VR ρ (q.a.ev x) (ar.eval x) := fun x hx => by
    rw [← ev_congr hag x hx]; exact h.act.evs h.sim hoc x hx
  obtain ⟨a', hput⟩ := h.pput q hq
  obtain ⟨A', hputA⟩ := put_some hput (b := A) (by rw [h.An.1, h.pn q hq]) q.v
  cases h.pok q hq with
  | skip hw hv hb =>
    rw [hw]
    simp only [Bool.false_eq_true, if_false]
    refine ⟨about_wide, hK _ _ A' no ρ (h.drop hP hq hready hputA (hno_none hb) (Ext.refl _) h.sim (h.act.put hputA ?_))⟩
    rw [hv]; exact VR.undef _
  | read hw hk hr hc hb =>
    rw [hw]
    simp only [if_true]
    refine ⟨about_wide, step_sound (hih _) h.sim hev (step_read (ih := ih) hk hr) ⟨?_, ?_⟩⟩
    · intro v hv ρ' v' w' h1 h2 h3
      cases hv
      exact hK _ _ A' no ρ' (h.drop hP hq hready hputA (hno_none hb) h1 h3 ((h.act.mono h1).put hputA h2))
    · intro c hc; cases hc
  | fresh hw hk hb hv hB hc hcb hno hrun =>
    rename_i B mk b c
    rw [hw]
    simp only [if_true]
    refine ⟨about_wide, ?_⟩
    have hd : ∀ c, q.o.op ≠ .defer c := fun c hc => by rw [hc] at hk; simp [kindOf] at hk
    rw [Oper.semAt_eq _ _ _ hd]
    obtain ⟨ob, L, v', h1, h2, h3, h4⟩ := hrun ρ ar.eval w hev
    rw [h1]
    show Kn (ar.put q.o.dst v') (w.alloc ob)
    have hno' : ∀ x, (no x && !(x == b)) = true ↔ no x = true ∧ q.b ≠ some x := by
      intro x
      rw [hb]
      simp only [Bool.and_eq_true, Bool.not_eq_true', beq_eq_false_iff_ne, ne_eq, Option.some.injEq]
      constructor <;> (rintro ⟨h1, h2⟩; exact ⟨h1, fun h => h2 h.symm⟩)
    obtain ⟨k1, k2⟩ := h.sim.born (no' := fun x => no x && !(x == b)) hno hB (fun x hx => ⟨((hno' x).1 hx).1, fun he => ((hno' x).1 hx).2 (by rw [hb, he])⟩) h2 h3
    refine hK _ _ A' _ _ (h.drop hP hq hready hputA hno' k1 k2 ((h.act.mono k1).put hputA ?_))
    rw [hv]
    exact h4 _ _ (upd_same _ _ _)

theorem head_step {ops : Array Oper} (hih : ∀ no, FnsSound P ⟨w0.toWorld, no⟩ ih) (hP : pairsOk ops.toList (befores ops.toList []) ops.toList.zipIdx = true) (hC : constsOk P ops.toList = true)
    {o : Oper} {i : Nat} {r : List (Oper × Nat)} (h : Inv P ih ops.toList e a1 S1 w0 ρ0 Ls ar w pend ((o, i) :: r) chk a S A no ρ done) (hready : ∀ b, (bef ops.toList i).testBit b = true → Ls b) {ro : Option Nat}
    (hw : wantedC ops.toList a o = true) (hk : kindOf o.op = .heavy) {Kn : Act → World → Prop} {Q : Exit → Act → World → Prop}
    (hK : ∀ ar' w' chk' a' S' A' ρ' done', Inv P ih ops.toList e a1 S1 w0 ρ0 (fun x => Ls x ∨ x = i) ar' w' pend r chk' a' S' A' no ρ' done' → Kn ar' w') :
    if Region.wanted o (yielded ops ar.tmps) then o.wpIn (FW ro) 0 P ar w Kn Q else (∀ f, o.about P w ar.eval = some f → (FW ro).fn f) ∧ Kn (ar.put o.dst undef) w := by
  obtain ⟨hd, hbf, _, hpl⟩ := planOk_cons h.plan
  have hi : ops.toList[i]? = some o := h.mem (o, i) (by simp)
  have hnd : ¬ (done.testBit i = true) := by rw [hd]; simp
  have hag : ∀ t ∈ opTmps ops.toList o, A.get t = a.get t := by
    refine fun t ht => h.agree t fun q hq he => ?_
    have hpi : q.i ≠ i := fun e => hnd ((h.don i).2 (.inr ⟨q, hq, e⟩))
    rcases (pair_sep hP (h.pmem q hq) hi hpi).1 t he ht with h1 | h1
    · exact h.pnl q hq (hready _ h1)
    · exact hnd (h.pbef q hq i h1)
  have hoc : OpC P o := constsOk_spec hC o (List.mem_of_getElem? hi)
  have hev : ∀ x, x ∈ o.op.operands → VR ρ (a.ev x) (ar.eval x) := fun x hx => by
    rw [← ev_congr hag x hx]; exact h.act.evs h.sim hoc x hx
  rw [← wanted_sound h.act (o := o), wantedC_congr hag, hw]
  simp only [if_true]
  have hr := h.run
  unfold runPlan at hr
  rw [hw, hk] at hr
  simp only [cond_true] at hr
  split at hr
  · rename_i v S' hst
    split at hr
    · rename_i a' hput
      obtain ⟨A', hputA⟩ := put_some hput (b := A) h.An.1 v
      cases hall : (chk.filter fun x => !((nth (befores ops.toList []) i).getD 0).testBit x.1).all (fun x => x.2.ok P S') with
      | false => rw [hall] at hr; cases hr
      | true =>
        rw [hall] at hr
        simp only [cond_true] at hr
        rw [List.all_eq_true] at hall
        refine ⟨about_wide, step_sound (hih _) h.sim hev hst ⟨?_, ?_⟩⟩
        · intro v2 hv ρ' v' w' h1 h2 h3
          cases hv
          exact hK _ _ _ a' S' A' ρ' _ (h.head hP hready hput hputA hr hall h1 h3 ((h.act.mono h1).put hputA h2))
        · intro c hc; cases hc
    · cases hr
  · cases hr

end

theorem ready_iff {ops : Array Oper} {listed : Array Bool} {i : Nat} : i ∈ Region.ready .any ops listed ↔ i < ops.size ∧ listed.getD i true = false ∧ ∃ o, ops.toList[i]? = some o ∧ ∀ e ∈ o.after.toList, Region.binds .any e = true → listed.getD e.on false = true := by
  unfold Region.ready
  simp only [List.mem_filter, List.mem_range, Bool.and_eq_true, Bool.not_eq_true']
  refine and_congr_right fun hi => and_congr_right fun _ => ?_
  have hg : ops[i]? = some ops[i] := Array.getElem?_eq_getElem hi
  rw [Array.getElem?_toList, hg]
  simp only [Option.map_some, Option.getD_some, Option.some.injEq, exists_eq_left']
  rw [← Array.all_toList, List.all_eq_true]
  refine forall_congr' fun e => forall_congr' fun _ => ?_
  cases Region.binds .any e <;> simp

theorem getD_lt {l : Array Bool} {i : Nat} (h : i < l.size) (b c : Bool) : l.getD i b = l.getD i c := by
  rw [Array.getD_eq_getD_getElem?, Array.getD_eq_getD_getElem?, Array.getElem?_eq_getElem h]; rfl

theorem done_sound {ih : Fns} {ops : Array Oper} (hP : pairsOk ops.toList (befores ops.toList []) ops.toList.zipIdx = true)
    {e : Exit} {a1 : Ca} {S1 : St} {ρ0 : Rmap} {Q : Exit → Act → World → Prop} (hQ : ∀ e' ar' w', ExitGood P w0 ρ0 e a1 S1 e' ar' w' → Q e' ar' w') {Ls : Nat → Prop}
    {ar : Act} {w : World} {pend : List Pn} {rest : List (Oper × Nat)} {chk : List (Nat × Chk)} {a : Ca} {S : St} {A : Ca} {no : Nat → Bool} {ρ : Rmap} {done : Nat}
    (h : Inv P ih ops.toList e a1 S1 w0 ρ0 Ls ar w pend rest chk a S A no ρ done) (hall : ∀ i, i < ops.size → Ls i) : Q .normal ar w := by
  obtain ⟨pend, rest, chk, a, S, no, done, h, hlen, hhead⟩ := h.absorb hP
  have hp : pend = [] := by
    refine List.eq_nil_iff_forall_not_mem.2 fun q hq => h.pnl q hq (hall q.i ?_)
    have := (List.getElem?_eq_some_iff.1 (h.pmem q hq)).1
    simpa using this
  have hr : rest = [] := by
    cases rest with
    | nil => rfl
    | cons x r =>
      obtain ⟨o, i⟩ := x
      have hi := (List.getElem?_eq_some_iff.1 (h.mem (o, i) (by simp))).1
      have := (planOk_cons h.plan).1
      rw [(h.don i).2 (.inl (hall i (by simpa using hi)))] at this
      cases this
  subst hp hr
  have hrun := h.run
  simp only [runPlan, Option.some.injEq, Prod.mk.injEq] at hrun
  obtain ⟨rfl, rfl, rfl⟩ := hrun
  refine hQ _ _ _ ⟨ρ, h.ext, .normal, ⟨by rw [← h.An.1]; exact h.act.le, ⟨by rw [← h.An.1]; exact h.act.tm.1, fun t => ?_⟩, by rw [← h.An.2]; exact h.act.df⟩, ?_⟩
  · have := h.act.tm.2 t
    rw [← get_eq, h.agree t (fun q hq => by cases hq)] at this
    exact this
  · have e1 : no = w0.no := by
      funext x
      have := h.bno x
      simp only [List.not_mem_nil, false_and, exists_false, or_false] at this
      cases h1 : no x <;> cases h2 : w0.no x <;> simp_all
    have := h.sim
    rw [e1] at this
    exact this

/-- how many are not listed yet -/
def unl (n : Nat) (listed : Array Bool) : Nat := ((List.range n).filter fun x => !(listed.getD x false)).length
theorem unl_lt {n : Nat} {listed : Array Bool} {i : Nat} (hi : i < n) (hs : listed.size = n) (hl : listed.getD i false = false) : unl n (listed.setIfInBounds i true) < unl n listed := by
  unfold unl
  have hset : ∀ x, (listed.setIfInBounds i true).getD x false = (listed.getD x false || x == i) := by
    intro x
    rw [Array.getD_eq_getD_getElem?, Array.getElem?_setIfInBounds]
    by_cases e : i = x
    · subst e; simp [hs, hi]
    · rw [if_neg e, ← Array.getD_eq_getD_getElem?]
      have : (x == i) = false := by simpa using fun h : x = i => e h.symm
      rw [this, Bool.or_false]
  have e1 : ((List.range n).filter fun x => !((listed.setIfInBounds i true).getD x false)) = (((List.range n).filter fun x => !(listed.getD x false)).filter fun x => !(x == i)) := by
    rw [List.filter_filter]
    refine List.filter_congr fun x _ => ?_
    rw [hset, Bool.not_or, Bool.and_comm]
  rw [e1]
  exact List.length_filter_lt_length_iff_exists.2 ⟨i, List.mem_filter.2 ⟨List.mem_range.2 hi, by rw [hl]; rfl⟩, by simp⟩

theorem any_sound {ih : Fns} {ops : Array Oper} (hih : ∀ no, FnsSound P ⟨w0.toWorld, no⟩ ih) (hE : edgesOk ops.toList.zipIdx = true) (hP : pairsOk ops.toList (befores ops.toList []) ops.toList.zipIdx = true) (hC : constsOk P ops.toList = true)
    {e : Exit} {a1 : Ca} {S1 : St} {ρ0 : Rmap} {ro : Option Nat} {Q : Exit → Act → World → Prop} (hQ : ∀ e' ar' w', ExitGood P w0 ρ0 e a1 S1 e' ar' w' → Q e' ar' w') :
    ∀ (fuel : Nat) (listed : Array Bool) (ar : Act) (w : World) (pend : List Pn) (rest : List (Oper × Nat)) (chk : List (Nat × Chk)) (a : Ca) (S : St) (A : Ca) (no : Nat → Bool) (ρ : Rmap) (done : Nat),
      Inv P ih ops.toList e a1 S1 w0 ρ0 (fun x => listed.getD x false = true) ar w pend rest chk a S A no ρ done → listed.size = ops.size → unl ops.size listed ≤ fuel →
      wpAnyIn (FW ro) 0 P .any ops Q fuel listed ar w := by
  intro fuel
  induction fuel with
  | zero =>
    intro listed ar w pend rest chk a S A no ρ done h hsz hle
    have hall : ∀ i, i < ops.size → listed.getD i false = true := by
      intro i hi
      cases hl : listed.getD i false with
      | true => rfl
      | false =>
        have := unl_lt hi hsz hl
        omega
    refine ⟨List.eq_nil_iff_forall_not_mem.2 fun i hi => ?_, done_sound hP hQ h hall⟩
    obtain ⟨h1, h2, _⟩ := ready_iff.1 hi
    rw [getD_lt (by omega) true false, hall i h1] at h2
    cases h2
  | succ fuel ihf =>
    intro listed ar w pend rest chk a S A no ρ done h hsz hle
    obtain ⟨pend, rest, chk, a, S, no, done, h, hlen, hhead⟩ := h.absorb hP
    refine ⟨fun hnil => ?_, fun i hi => ?_⟩
    · have hall : ∀ i, i < ops.size → listed.getD i false = true := by
        intro i
        induction i using Nat.strongRecOn with
        | ind i ihi =>
          intro hi
          cases hl : listed.getD i false with
          | true => rfl
          | false =>
            have : i ∈ Region.ready .any ops listed := by
              refine ready_iff.2 ⟨hi, by rw [getD_lt (by omega) true false]; exact hl, ops[i], by rw [Array.getElem?_toList]; exact Array.getElem?_eq_getElem hi, fun e he hb => ?_⟩
              have hlt := edges_lt hE (by rw [Array.getElem?_toList]; exact Array.getElem?_eq_getElem hi) e he hb
              exact ihi e.on hlt (by omega)
            rw [hnil] at this
            cases this
      exact done_sound hP hQ h hall
    · obtain ⟨hi1, hi2, o, ho, hed⟩ := ready_iff.1 hi
      have hready : ∀ b, (bef ops.toList i).testBit b = true → listed.getD b false = true := by
        intro b hb
        obtain ⟨e, he, hbn, hx⟩ := (bits_spec hE ho b).1 hb
        have h1 := hed e he hbn
        rcases hx with rfl | hx
        · exact h1
        · exact h.cls _ h1 b hx
      have hset : ∀ x, (listed.setIfInBounds i true).getD x false = true ↔ listed.getD x false = true ∨ x = i := by
        intro x
        rw [Array.getD_eq_getD_getElem?, Array.getElem?_setIfInBounds]
        by_cases e : i = x
        · subst e; simp [hsz, hi1]
        · rw [if_neg e, ← Array.getD_eq_getD_getElem?]
          constructor
          · exact .inl
          · rintro (h | h)
            · exact h
            · exact absurd h.symm e
      have hLs : (fun x => (listed.setIfInBounds i true).getD x false = true) = fun x => listed.getD x false = true ∨ x = i := funext fun x => propext (hset x)
      have ho' : ops[i]? = some o := by rw [← Array.getElem?_toList]; exact ho
      unfold wpOpIn
      rw [ho']
      simp only
      have hnl : ¬ (listed.getD i false = true) := by rw [← getD_lt (by omega) true false, hi2]; simp
      rcases planOk_all _ _ h.plan i (by simpa using hi1) with h3 | ⟨o', h3⟩
      · rcases (h.don i).1 h3 with h4 | ⟨q, hq, rfl⟩
        · exact absurd h4 hnl
        · have e1 : o = q.o := by
            have := h.pmem q hq
            rw [ho] at this
            exact Option.some.inj this
          subst e1
          refine pend_step hih hP hC h hq hready fun ar' w' A' no' ρ' h' => ?_
          rw [← hLs] at h'
          refine ihf _ _ _ _ _ _ _ _ _ _ _ _ h' (by simp [hsz]) ?_
          have := unl_lt hi1 hsz (by rw [← getD_lt (by omega) true false]; exact hi2)
          omega
      · cases rest with
        | nil => cases h3
        | cons x r =>
          obtain ⟨p, k⟩ := x
          obtain ⟨hw, hk⟩ := hhead p k r rfl
          obtain ⟨hd, hbf, hhv, hpl⟩ := planOk_cons h.plan
          rcases List.mem_cons.1 h3 with h4 | h4
          · cases h4
            have e1 : o = o' := by
              have := h.mem (o', i) (by simp)
              simp only at this
              rw [ho] at this
              exact Option.some.inj this
            subst e1
            refine head_step hih hP hC h hready hw hk fun ar' w' chk' a' S' A' ρ' done' h' => ?_
            rw [← hLs] at h'
            refine ihf _ _ _ _ _ _ _ _ _ _ _ _ h' (by simp [hsz]) ?_
            have := unl_lt hi1 hsz (by rw [← getD_lt (by omega) true false]; exact hi2)
            omega
          · have h5 := hready k (hhv hk _ h4)
            have : done.testBit k = true := (h.don k).2 (.inl h5)
            rw [hd] at this
            cases this

theorem draw_sound {ih : Fns} (hm : P.follows .mixedOrders = true) (hih : ∀ no, FnsSound P ⟨w0.toWorld, no⟩ ih) : DrawSound P w0 ih := by
  intro id ops a S e a1 S1 h hC ro ρ w ar hs ha
  unfold runDraw at h
  split at h
  · rename_i bf pl hpl
    unfold planW at hpl
    cases hg : (regionOk ops.toList && planOk ops.toList (befores ops.toList []) (planOf ops.toList) 0) with
    | false => simp only [hg, cond_false] at hpl; cases hpl
    | true =>
      simp only [hg, cond_true, Option.some.injEq, Prod.mk.injEq] at hpl
      obtain ⟨rfl, rfl⟩ := hpl
      simp only [Bool.and_eq_true] at hg
      obtain ⟨hreg, hplan⟩ := hg
      simp only [regionOk, Bool.and_eq_true] at hreg
      obtain ⟨⟨hE, hP⟩, _⟩ := hreg
      refine wpIn_region_any hm ?_
      have hlist : ∀ x, ¬ ((Array.replicate ops.size false).getD x false = true) := by
        intro x
        rw [Array.getD_eq_getD_getElem?, Array.getElem?_replicate]
        split <;> simp
      refine any_sound hih hE hP hC (fun _ _ _ h => h) ops.size _ ar _ [] (planOf ops.toList) [] a S a w0.no ρ 0 ?_ (by simp) (by unfold unl; refine Nat.le_trans (List.length_filter_le ..) (by simp))
      refine ⟨h, hplan, planOf_mem, fun x => by simp [hlist], fun j hj => absurd hj (hlist j), fun q hq => (by cases hq), fun q hq => (by cases hq), fun q hq => (by cases hq), fun q hq => (by cases hq), fun q hq => (by cases hq),
        fun q hq => (by cases hq), fun q hq => (by cases hq), ⟨rfl, rfl⟩, fun _ _ => rfl, fun q hq => (by cases hq), fun q hq => (by cases hq), fun q hq => (by cases hq), fun x => by simp, fun q hq => (by cases hq), fun q hq => (by cases hq),
        Ext.refl _, hs.same rfl rfl rfl, ha⟩
  · cases h

theorem fns_sound {W : World} (hm : P.follows .mixedOrders = true) (hK : KnownSound P K W) : ∀ (n m : Nat), m ≤ n → ∀ no, FnsSound P ⟨W, no⟩ (fns P K m) := by
  intro n
  induction n with
  | zero =>
    intro m hle no
    have : m = 0 := by omega
    subst this
    exact ⟨(fun t args S e S' h => by cases h), (fun ro c a S e a' S' h => by cases h)⟩
  | succ n ihn =>
    intro m hle no
    rcases Nat.lt_or_ge m (n + 1) with h1 | h1
    · exact ihn m (by omega) no
    · have : m = n + 1 := by omega
      subst this
      exact ⟨callF_sound (ihn n (Nat.le_refl _) no) hK, exec_sound (fun m hm => ihn m hm no) (draw_sound hm (ihn n (Nat.le_refl _))) (range_sound (ihn n (Nat.le_refl _) no))⟩

end Go.Cm

namespace Go.Cm

/-! ### Places of tables, compiled -/
structure GW (α : Type) (d : Nat) where
  f : PT α d → Option α
def idG {α : Type} (t : PT α 0) : Option α := t
def getL {α : Type} {d : Nat} (g : PT α d → Option α) (t : PT α (d + 1)) : Option α := g t.1
def getR {α : Type} {d : Nat} (g : PT α d → Option α) (t : PT α (d + 1)) : Option α := g t.2
def consL {α : Type} {d : Nat} (w : GW α d) : GW α (d + 1) := match w with
  | ⟨g⟩ => ⟨getL g⟩
def consR {α : Type} {d : Nat} (w : GW α d) : GW α (d + 1) := match w with
  | ⟨g⟩ => ⟨getR g⟩
noncomputable def getW {α : Type} (d : Nat) : Nat → GW α d :=
  Nat.rec (motive := fun d => Nat → GW α d) (fun _ => ⟨idG⟩) (fun _ ih k => Bool.rec (motive := fun _ => GW α _) (consR (ih (Nat.div k 2))) (consL (ih (Nat.div k 2))) (Nat.beq (Nat.mod k 2) 0)) d
noncomputable def getK {α : Type} (d k : Nat) : GW α d := Bool.rec (motive := fun _ => GW α d) ⟨fun _ => none⟩ (getW d k) (Nat.blt k (2 ^ d))

structure SW (α : Type) (d : Nat) where
  f : Option α → PT α d → PT α d
def idS {α : Type} (v : Option α) (_ : PT α 0) : PT α 0 := v
noncomputable def setL {α : Type} {d : Nat} (g : Option α → PT α d → PT α d) (v : Option α) (t : PT α (d + 1)) : PT α (d + 1) := Prod.rec (motive := fun _ => PT α d × PT α d) (fun l r => (g v l, r)) t
noncomputable def setR {α : Type} {d : Nat} (g : Option α → PT α d → PT α d) (v : Option α) (t : PT α (d + 1)) : PT α (d + 1) := Prod.rec (motive := fun _ => PT α d × PT α d) (fun l r => (l, g v r)) t
noncomputable def sconsL {α : Type} {d : Nat} (w : SW α d) : SW α (d + 1) := match w with
  | ⟨g⟩ => ⟨setL g⟩
noncomputable def sconsR {α : Type} {d : Nat} (w : SW α d) : SW α (d + 1) := match w with
  | ⟨g⟩ => ⟨setR g⟩
noncomputable def setW {α : Type} (d : Nat) : Nat → SW α d :=
  Nat.rec (motive := fun d => Nat → SW α d) (fun _ => ⟨idS⟩) (fun _ ih k => Bool.rec (motive := fun _ => SW α _) (sconsR (ih (k / 2))) (sconsL (ih (k / 2))) (Nat.beq (k % 2) 0)) d
noncomputable def setK {α : Type} (d k : Nat) : SW α d := Bool.rec (motive := fun _ => SW α d) ⟨fun _ t => t⟩ (setW d k) (Nat.blt k (2 ^ d))

abbrev Hp := Heap
def appG {α : Type} {d : Nat} (w : GW α d) (t : PT α d) : Option α := match w with
  | ⟨g⟩ => g t
def appS {α : Type} {d : Nat} (w : SW α d) (v : Option α) (t : PT α d) : PT α d := match w with
  | ⟨g⟩ => g v t
noncomputable def atG {α : Type} (d : Nat) : PT α d → Nat → Option α :=
  Nat.rec (motive := fun d => PT α d → Nat → Option α) (fun t _ => t) (fun _ ih t k => Bool.rec (motive := fun _ => Option α) (ih t.2 (Nat.div k 2)) (ih t.1 (Nat.div k 2)) (Nat.beq (Nat.mod k 2) 0)) d
noncomputable def updG {α : Type} (v : Option α) (d : Nat) : PT α d → Nat → PT α d :=
  Nat.rec (motive := fun d => PT α d → Nat → PT α d) (fun _ _ => v)
    (fun d ih t k => Prod.rec (motive := fun _ => PT α d × PT α d) (fun l r => Bool.rec (motive := fun _ => PT α d × PT α d) (l, ih r (Nat.div k 2)) (ih l (Nat.div k 2), r) (Nat.beq (Nat.mod k 2) 0)) t) d
noncomputable def hgetH (h : Hp) (b : Nat) : Option Blk := Heap.rec (motive := fun _ => Option Blk) (fun t more => Bool.rec (motive := fun _ => Option Blk) (more b) (atG 18 t b) (Nat.blt b 262144)) h
noncomputable def hget (S : St) (b : Nat) : Option Blk := hgetH S.heap b
noncomputable def hset (h : Hp) (b : Nat) (x : Option Blk) : Hp := Heap.rec (motive := fun _ => Hp) (fun t more => Bool.rec (motive := fun _ => Hp) ⟨t, fun j => bif Nat.beq j b then x else more j⟩ ⟨updG x 18 t b, more⟩ (Nat.blt b 262144)) h

abbrev Res3 := Option (Exit × Ca × St)
abbrev OkK := Value → St → Res3
abbrev PanK := List PanicEntry → St → Res3
abbrev OpK := Fns → Tm → St → OkK → PanK → Res3
def useR (r : Option (OpR × St)) (ok : OkK) (pan : PanK) : Res3 := match r with
  | some (.val v, S') => ok v S'
  | some (.pan ch, S') => pan ch S'
  | none => none

/-! ### Looking into a value -/
noncomputable def asBoolF (v : Value) : Option Bool := @Value.rec (fun _ => Option Bool) (fun _ => PUnit) (fun _ => PUnit) some (fun _ _ => none) (fun _ _ => none) (fun _ _ _ => none) (fun _ => none) (fun _ => none) (fun _ _ _ => none) (fun _ => none) (fun _ => none)
  (fun _ _ _ _ _ => none) none (fun _ _ _ => none) none (fun _ _ => none) (fun _ _ => none) (fun _ _ => ⟨⟩) ⟨⟩ (fun _ _ _ _ => ⟨⟩) v
noncomputable def asIntF (v : Value) : Option (IntKind × Int) := @Value.rec (fun _ => Option (IntKind × Int)) (fun _ => PUnit) (fun _ => PUnit) (fun _ => none) (fun k n => some (k, n)) (fun _ _ => none) (fun _ _ _ => none) (fun _ => none) (fun _ => none) (fun _ _ _ => none) (fun _ => none) (fun _ => none)
  (fun _ _ _ _ _ => none) none (fun _ _ _ => none) none (fun _ _ => none) (fun _ _ => none) (fun _ _ => ⟨⟩) ⟨⟩ (fun _ _ _ _ => ⟨⟩) v
def addrOf (a : Option Addr) : Option (Nat × Nat) := match a with
  | some ⟨b, o, none⟩ => some (b, o)
  | _ => none
noncomputable def asPtrF (v : Value) : Option (Nat × Nat) := @Value.rec (fun _ => Option (Nat × Nat)) (fun _ => PUnit) (fun _ => PUnit) (fun _ => none) (fun _ _ => none) (fun _ _ => none) (fun _ _ _ => none) (fun _ => none) addrOf (fun _ _ _ => none) (fun _ => none) (fun _ => none)
  (fun _ _ _ _ _ => none) none (fun _ _ _ => none) none (fun _ _ => none) (fun _ _ => none) (fun _ _ => ⟨⟩) ⟨⟩ (fun _ _ _ _ => ⟨⟩) v
def sliceOf (a : Option Addr) (len : Nat) (_ : Nat) : Option (Nat × Nat × Nat) := match a with
  | some ⟨b, o, none⟩ => some (b, o, len)
  | _ => none
noncomputable def asSliceF (v : Value) : Option (Nat × Nat × Nat) := @Value.rec (fun _ => Option (Nat × Nat × Nat)) (fun _ => PUnit) (fun _ => PUnit) (fun _ => none) (fun _ _ => none) (fun _ _ => none) (fun _ _ _ => none) (fun _ => none) (fun _ => none) sliceOf (fun _ => none) (fun _ => none)
  (fun _ _ _ _ _ => none) none (fun _ _ _ => none) none (fun _ _ => none) (fun _ _ => none) (fun _ _ => ⟨⟩) ⟨⟩ (fun _ _ _ _ => ⟨⟩) v
noncomputable def asTupF (v : Value) : Option (List Value) := @Value.rec (fun _ => Option (List Value)) (fun _ => PUnit) (fun _ => PUnit) (fun _ => none) (fun _ _ => none) (fun _ _ => none) (fun _ _ _ => none) (fun _ => none) (fun _ => none) (fun _ _ _ => none) (fun _ => none) (fun _ => none)
  (fun _ _ _ _ _ => none) none (fun _ _ _ => none) none (fun _ _ => none) (fun vs _ => some vs.toList) (fun _ _ => ⟨⟩) ⟨⟩ (fun _ _ _ _ => ⟨⟩) v
noncomputable def cellsF (v : Value) : List Value := @Value.rec (fun _ => List Value) (fun _ => PUnit) (fun _ => PUnit) (fun _ => [v]) (fun _ _ => [v]) (fun _ _ => [v]) (fun _ _ _ => [v]) (fun _ => [v]) (fun _ => [v]) (fun _ _ _ => [v]) (fun _ => [v]) (fun _ => [v])
  (fun _ _ _ _ _ => [v]) [v] (fun _ _ _ => [v]) [v] (fun cs _ => cs.toList) (fun _ _ => [v]) (fun _ _ => ⟨⟩) ⟨⟩ (fun _ _ _ _ => ⟨⟩) v

noncomputable def withO {α : Type} (o : Option α) (k : α → Res3) : Res3 := Option.rec (motive := fun _ => Res3) none k o
noncomputable def with2 {α β : Type} (o : Option (α × β)) (k : α → β → Res3) : Res3 := Option.rec (motive := fun _ => Res3) none (fun p => k p.1 p.2) o
noncomputable def with3 {α β γ : Type} (o : Option (α × β × γ)) (k : α → β → γ → Res3) : Res3 := Option.rec (motive := fun _ => Res3) none (fun p => k p.1 p.2.1 p.2.2) o
def cellsOfB (b : Option Blk) : Option (List Value) := match b with
  | some (.cells c _ _ _ _) => some c
  | _ => none

/-! ### Operands -/
structure EvW where
  get : Tm → Value
noncomputable def unO (o : Option Value) : Value := Option.rec (motive := fun _ => Value) undef (fun v => v) o
noncomputable def tmpV (g : Tm → Option Value) (t : Tm) : Value := unO (g t)
def constV (v : Value) (_ : Tm) : Value := v
noncomputable def tmpW (w : GW Value 8) : EvW := match w with
  | ⟨g⟩ => ⟨tmpV g⟩
noncomputable def evW : Operand → EvW
  | .tmp t => tmpW (getK 8 t)
  | .const v => ⟨constV v⟩
  | .global g => ⟨constV (.pointer (some ⟨g, 0, none⟩))⟩
  | .func f => ⟨constV (.func (.func f) #[] #[])⟩
def evT (t : Tm) (x : Operand) : Value := match x with
  | .tmp i => match t.get i with
    | some v => v
    | none => undef
  | .const v => v
  | .global g => .pointer (some ⟨g, 0, none⟩)
  | .func f => .func (.func f) #[] #[]

/-! ### Operations, compiled -/
structure OpW where
  run : OpK
noncomputable def moveF (g : Tm → Value) (_ : Fns) (t : Tm) (S : St) (ok : OkK) (_ : PanK) : Res3 := ok (g t) S
noncomputable def movePF (g : Tm → Option Value) (_ : Fns) (t : Tm) (S : St) (ok : OkK) (_ : PanK) : Res3 := Option.rec (motive := fun _ => Res3) (ok undef S) (fun v => ok v S) (g t)
noncomputable def movePW (w : GW Value 8) : OpW := match w with
  | ⟨g⟩ => ⟨movePF g⟩
noncomputable def moveEW (w : EvW) : OpW := match w with
  | ⟨g⟩ => ⟨moveF g⟩
noncomputable def moveW : Operand → OpW
  | .tmp t => movePW (getK 8 t)
  | x => moveEW (evW x)
def noOp (_ : Fns) (_ : Tm) (_ : St) (_ : OkK) (_ : PanK) : Res3 := none

variable (P : Program)
def slowF (op : Op) (ih : Fns) (t : Tm) (S : St) (ok : OkK) (pan : PanK) : Res3 := useR (stepOp P ih (evT t) op S) ok pan

noncomputable def loadAggK (n b o : Nat) (S : St) (ok : OkK) : Res3 := withO (cellsOfB (hget S b)) fun c => withO (takeN n (dropN o c)) fun l => ok (aggL l) S
noncomputable def loadAgg (n : Nat) (g : Tm → Value) (_ : Fns) (t : Tm) (S : St) (ok : OkK) (_ : PanK) : Res3 := with2 (asPtrF (g t)) fun b o => loadAggK n b o S ok
noncomputable def loadOneK (b o : Nat) (S : St) (ok : OkK) : Res3 := withO (cellsOfB (hget S b)) fun c => withO (nth c o) fun v => ok v S
noncomputable def loadOne (g : Tm → Value) (_ : Fns) (t : Tm) (S : St) (ok : OkK) (_ : PanK) : Res3 := with2 (asPtrF (g t)) fun b o => loadOneK b o S ok
noncomputable def loadW1 (a : Option Bool) (n : Option Nat) (e : EvW) : OpW := match a, n, e with
  | some true, some n, ⟨g⟩ => ⟨loadAgg n g⟩
  | some false, _, ⟨g⟩ => ⟨loadOne g⟩
  | _, _, _ => ⟨noOp⟩
noncomputable def loadW (t : TypeId) (x : Operand) : OpW := loadW1 (aggOf P t) (szOf P t) (evW x)

noncomputable def fieldAddrF (off : Nat) (g : Tm → Value) (_ : Fns) (t : Tm) (S : St) (ok : OkK) (_ : PanK) : Res3 := with2 (asPtrF (g t)) fun b o => ok (ptrTo b (Nat.add o off)) S
noncomputable def fieldAddrW1 (off : Nat) (e : EvW) : OpW := match e with
  | ⟨g⟩ => ⟨fieldAddrF off g⟩
noncomputable def fieldAddrW (s : TypeId) (x : Operand) (i : Nat) : OpW := match P.underlying s with
  | some (.struct fields) => match nth fields.toList i with
    | some f => match szOf P f.type with
      | some (_ + 1) => fieldAddrW1 f.offset (evW x)
      | _ => ⟨noOp⟩
    | none => ⟨noOp⟩
  | _ => ⟨noOp⟩

noncomputable def idxK (n : Int) (len : Nat) (k : Nat → Res3) : Res3 := Int.rec (motive := fun _ => Res3) (fun i => Bool.rec (motive := fun _ => Res3) none (k i) (Nat.blt i len)) (fun _ => none) n
noncomputable def indexSliceF (n : Nat) (g h : Tm → Value) (_ : Fns) (t : Tm) (S : St) (ok : OkK) (_ : PanK) : Res3 :=
  with2 (asIntF (h t)) fun _ i => with3 (asSliceF (g t)) fun b o len => idxK i len fun j => ok (ptrTo b (Nat.add o (Nat.mul j n))) S
noncomputable def indexArrF (len n : Nat) (g h : Tm → Value) (_ : Fns) (t : Tm) (S : St) (ok : OkK) (_ : PanK) : Res3 :=
  with2 (asIntF (h t)) fun _ i => with2 (asPtrF (g t)) fun b o => idxK i len fun j => ok (ptrTo b (Nat.add o (Nat.mul j n))) S
noncomputable def indexW1 (arr : Option Nat) (n : Nat) (e f : EvW) : OpW := match arr, e, f with
  | some len, ⟨g⟩, ⟨h⟩ => ⟨indexArrF len n g h⟩
  | none, ⟨g⟩, ⟨h⟩ => ⟨indexSliceF n g h⟩
noncomputable def indexAddrW (ty : TypeId) (x i : Operand) : OpW := match P.underlying ty with
  | some (.array len elem) => match szOf P elem with
    | some n => indexW1 (some len) n (evW x) (evW i)
    | none => ⟨noOp⟩
  | some (.slice elem) => match szOf P elem with
    | some n => indexW1 none n (evW x) (evW i)
    | none => ⟨noOp⟩
  | _ => ⟨noOp⟩

/-! integers -/
def two63 : Nat := 9223372036854775808
def two64 : Nat := 18446744073709551616
def wrapF (k : IntKind) (n : Int) : Int := match k, n with
  | .i64, .ofNat m => bif Nat.blt m 9223372036854775808 then .ofNat m else IntKind.i64.wrap (.ofNat m)
  | .i64, .negSucc m => bif Nat.blt m 9223372036854775808 then .negSucc m else IntKind.i64.wrap (.negSucc m)
  | .u64, .ofNat m => bif Nat.blt m 18446744073709551616 then .ofNat m else IntKind.u64.wrap (.ofNat m)
  | k, n => k.wrap n
def ltI : Int → Int → Bool
  | .ofNat a, .ofNat b => Nat.blt a b
  | .ofNat _, .negSucc _ => false
  | .negSucc _, .ofNat _ => true
  | .negSucc a, .negSucc b => Nat.blt b a
def eqI : Int → Int → Bool
  | .ofNat a, .ofNat b => Nat.beq a b
  | .negSucc a, .negSucc b => Nat.beq a b
  | _, _ => false
def kindNo : IntKind → Nat
  | .i8 => 0
  | .i16 => 1
  | .i32 => 2
  | .i64 => 3
  | .u8 => 4
  | .u16 => 5
  | .u32 => 6
  | .u64 => 7
def sameK (j k : IntKind) : Bool := Nat.beq (kindNo j) (kindNo k)

abbrev BinI := IntKind → Int → Int → Value
noncomputable def binK2 (f : BinI) (slow : Res3) (k : IntKind) (a : Int) (S : St) (ok : OkK) (o : Option (IntKind × Int)) : Res3 :=
  Option.rec (motive := fun _ => Res3) slow (fun p => Bool.rec (motive := fun _ => Res3) none (ok (f k a p.2) S) (sameK k p.1)) o
noncomputable def binK1 (f : BinI) (slow : Res3) (S : St) (ok : OkK) (o o' : Option (IntKind × Int)) : Res3 :=
  Option.rec (motive := fun _ => Res3) slow (fun p => binK2 f slow p.1 p.2 S ok o') o
noncomputable def binF (f : BinI) (sl : OpK) (g h : Tm → Value) (ih : Fns) (t : Tm) (S : St) (ok : OkK) (pan : PanK) : Res3 :=
  binK1 f (sl ih t S ok pan) S ok (asIntF (g t)) (asIntF (h t))
def addI (k : IntKind) (a b : Int) : Value := .int k (wrapF k (Int.add a b))
def subI (k : IntKind) (a b : Int) : Value := .int k (wrapF k (Int.sub a b))
def mulI (k : IntKind) (a b : Int) : Value := .int k (wrapF k (Int.mul a b))
def eqlI (_ : IntKind) (a b : Int) : Value := .bool (eqI a b)
def neqI (_ : IntKind) (a b : Int) : Value := .bool (!eqI a b)
def lssI (_ : IntKind) (a b : Int) : Value := .bool (ltI a b)
def leqI (_ : IntKind) (a b : Int) : Value := .bool (!ltI b a)
def gtrI (_ : IntKind) (a b : Int) : Value := .bool (ltI b a)
def geqI (_ : IntKind) (a b : Int) : Value := .bool (!ltI a b)
def binFn (op : BinOp) : Option BinI := match op with
  | .add => some addI
  | .sub => some subI
  | .mul => some mulI
  | .eql => some eqlI
  | .neq => some neqI
  | .lss => some lssI
  | .leq => some leqI
  | .gtr => some gtrI
  | .geq => some geqI
  | _ => none
noncomputable def binW1 (f : Option BinI) (sl : OpK) (e e' : EvW) : OpW := match f, e, e' with
  | some f, ⟨g⟩, ⟨h⟩ => ⟨binF f sl g h⟩
  | none, _, _ => ⟨sl⟩
noncomputable def binW (op : BinOp) (t : TypeId) (x y : Operand) (yt : TypeId) : OpW := binW1 (binFn op) (slowF P (.binOp op t x y yt)) (evW x) (evW y)

noncomputable def extractF (i : Nat) (g : Tm → Value) (_ : Fns) (t : Tm) (S : St) (ok : OkK) (_ : PanK) : Res3 := withO (asTupF (g t)) fun l => withO (nth l i) fun v => ok v S
noncomputable def extractW (i : Nat) (e : EvW) : OpW := match e with
  | ⟨g⟩ => ⟨extractF i g⟩
noncomputable def pickF (c a b : Tm → Value) (_ : Fns) (t : Tm) (S : St) (ok : OkK) (_ : PanK) : Res3 := withO (asBoolF (c t)) fun x => Bool.rec (motive := fun _ => Res3) (ok (b t) S) (ok (a t) S) x
noncomputable def pickW (c a b : EvW) : OpW := match c, a, b with
  | ⟨f⟩, ⟨g⟩, ⟨h⟩ => ⟨pickF f g h⟩
noncomputable def notF (g : Tm → Value) (_ : Fns) (t : Tm) (S : St) (ok : OkK) (_ : PanK) : Res3 := withO (asBoolF (g t)) fun x => ok (.bool (not x)) S
noncomputable def notW (e : EvW) : OpW := match e with
  | ⟨g⟩ => ⟨notF g⟩

/-! memory -/
noncomputable def newAt (h : Hp) (x : Blk) (ok : OkK) (n : Nat) : Res3 := ok (ptrTo n 0) ⟨hset h n (some x), Nat.succ n⟩
noncomputable def newF (x : Blk) (S : St) (ok : OkK) : Res3 := Nat.rec (motive := fun _ => Res3) (newAt S.heap x ok 0) (fun m _ => newAt S.heap x ok (Nat.succ m)) S.size
noncomputable def allocF (x : Blk) (_ : Fns) (_ : Tm) (S : St) (ok : OkK) (_ : PanK) : Res3 := newF x S ok
noncomputable def allocW (z : Option (List Value)) (e : TypeId) : OpW := match z with
  | some z => ⟨allocF (.cells z e false true [])⟩
  | none => ⟨noOp⟩
noncomputable def boxF (e : TypeId) (g : Tm → Value) (_ : Fns) (t : Tm) (S : St) (ok : OkK) (_ : PanK) : Res3 := newF (.cells (cellsF (g t)) e false true []) S ok
noncomputable def boxW (e : TypeId) (x : EvW) : OpW := match x with
  | ⟨g⟩ => ⟨boxF e g⟩

/-- the block's own cells turned: only a block that shares memory with no other is written here -/
noncomputable def writeB (S : St) (b o : Nat) (vs : List Value) (slow : Res3) (ok : OkK) (x : Option Blk) : Res3 := match x with
  | some (.cells c e row true []) => withO (setN o vs c) fun c' => ok undef ⟨hset S.heap b (some (.cells c' e row true [])), S.size⟩
  | _ => slow
noncomputable def storeK (n : Nat) (S : St) (b o : Nat) (vs : List Value) (slow : Res3) (ok : OkK) : Res3 :=
  Bool.rec (motive := fun _ => Res3) none (writeB S b o vs slow ok (hget S b)) (Nat.beq vs.length n && vs.all cellV && Nat.blt 0 vs.length)
noncomputable def storeF (n : Nat) (sl : OpK) (g h : Tm → Value) (ih : Fns) (t : Tm) (S : St) (ok : OkK) (pan : PanK) : Res3 :=
  with2 (asPtrF (g t)) fun b o => storeK n S b o (cellsF (h t)) (sl ih t S ok pan) ok
noncomputable def storeW (n : Option Nat) (sl : OpK) (e e' : EvW) : OpW := match n, e, e' with
  | some n, ⟨g⟩, ⟨h⟩ => ⟨storeF n sl g h⟩
  | none, _, _ => ⟨noOp⟩

/-- calls of a function of the program by its number -/
def endR (r : Option (Ending × St)) (ok : OkK) (pan : PanK) : Res3 := match r with
  | some (.returned v, S') => ok v S'
  | some (.panicked ch, S') => pan ch S'
  | _ => none
def argsOf : List (Tm → Value) → Tm → List Value
  | [], _ => []
  | g :: r, t => g t :: argsOf r t
def callFnF (f : FuncId) (gs : List (Tm → Value)) (ih : Fns) (t : Tm) (S : St) (ok : OkK) (pan : PanK) : Res3 := endR (ih.call (.fn (.func f) #[]) (argsOf gs t) S) ok pan
noncomputable def getsOf : List Operand → List (Tm → Value)
  | [] => []
  | x :: r => (evW x).get :: getsOf r
noncomputable def callW (c : Call) (op : Op) : OpW := match c.callee with
  | .value (.func f) => ⟨callFnF f (getsOf c.args.toList)⟩
  | _ => ⟨slowF P op⟩

/-! the others, each by its own function -/
noncomputable def evF (e : EvW) (t : Tm) : Value := EvW.rec (motive := fun _ => Value) (fun g => g t) e
noncomputable def evA (t : Tm) (x : Operand) : Value := evF (evW x) t
noncomputable def pureK (f : (Operand → Value) → Option Value) (_ : Fns) (t : Tm) (S : St) (ok : OkK) (_ : PanK) : Res3 := withO (f (evA t)) fun v => ok v S
noncomputable def readK (f : (Operand → Value) → St → Option Value) (_ : Fns) (t : Tm) (S : St) (ok : OkK) (_ : PanK) : Res3 := withO (f (evA t) S) fun v => ok v S
noncomputable def newK (f : (Operand → Value) → St → Option (Value × St)) (_ : Fns) (t : Tm) (S : St) (ok : OkK) (_ : PanK) : Res3 := with2 (f (evA t) S) ok
def mapE (ρ : Operand → Value) : List (Nat × Operand) → List (Nat × Value)
  | [] => []
  | x :: r => (x.1, ρ x.2) :: mapE ρ r
def buildO (t : TypeId) (l : List (Nat × Operand)) (ρ : Operand → Value) : Option Value := buildV P t (mapE ρ l)
def nilO (x : Operand) (ρ : Operand → Value) : Option Value := nilCheckV (ρ x)
def fieldO (t : TypeId) (x : Operand) (i : Nat) (ρ : Operand → Value) : Option Value := fieldV P t (ρ x) i
def indexO (t : TypeId) (x i : Operand) (ρ : Operand → Value) : Option Value := indexV P t (ρ x) (ρ i)
def lenO (t : TypeId) (x : Operand) (ρ : Operand → Value) (S : St) : Option Value := lenV P t (ρ x) S
def sliceO (t : TypeId) (x : Operand) (lo hi mx : Option Operand) (ρ : Operand → Value) (S : St) : Option Value := sliceV P t (ρ x) (lo.map ρ) (hi.map ρ) (mx.map ρ) S
def buildSliceO (t : TypeId) (len : Nat) (parts : Array (Nat × Operand)) (ρ : Operand → Value) (S : St) : Option (Value × St) := newOp P ρ (.buildSlice t len parts) S
def mapO (ρ : Operand → Value) : List Operand → List Value
  | [] => []
  | x :: r => ρ x :: mapO ρ r
def builtinO (b : Builtin) (ts : List TypeId) (args : List Operand) (ρ : Operand → Value) (S : St) : Option (Value × St) := builtinV P b ts (mapO ρ args) S
noncomputable def builtinW (b : Builtin) (args : List Operand) (ts : List TypeId) (op : Op) : OpW := match b, args, ts with
  | .len, [x], t :: _ => ⟨readK (lenO P t x)⟩
  | .len, _, _ => ⟨slowF P op⟩
  | b, args, ts => ⟨newK (builtinO P b ts args)⟩
noncomputable def callW2 (c : Call) (op : Op) : OpW := match c.callee with
  | .builtin b => builtinW P b c.args.toList c.argTypes.toList op
  | _ => callW P c op

noncomputable def opW (op : Op) : OpW := match op with
  | .move x => moveW x
  | .assign x => moveW x
  | .pick c a b => pickW (evW c) (evW a) (evW b)
  | .load t x => loadW P t x
  | .fieldAddr s x i => fieldAddrW P s x i
  | .indexAddr t x i => indexAddrW P t x i
  | .binOp o t x y yt => binW P o t x y yt
  | .unOp .not _ x => notW (evW x)
  | .extract x i => extractW i (evW x)
  | .alloc e => allocW (zeroOf P e) e
  | .box e x => boxW e (evW x)
  | .store t a x => storeW (szOf P t) (slowF P (.store t a x)) (evW a) (evW x)
  | .build t parts => ⟨pureK (buildO P t parts.toList)⟩
  | .nilCheck x => ⟨pureK (nilO x)⟩
  | .field t x i => ⟨pureK (fieldO P t x i)⟩
  | .index t x i => ⟨pureK (indexO P t x i)⟩
  | .slice t x lo hi mx => ⟨readK (sliceO P t x lo hi mx)⟩
  | .buildSlice t len parts => ⟨newK (buildSliceO P t len parts)⟩
  | .call c => callW2 P c (.call c)
  | op => ⟨slowF P op⟩

/-! ### Regions in the order of the text -/
abbrev StepK := Fns → Nat → Tm → St → (Tm → St → Res3) → PanK → Res3
structure StepW where
  run : StepK
noncomputable def putK (s : Option Value → Tm → Tm) (d n : Nat) (t : Tm) (k : Tm → St → Res3) (v : Value) (S : St) : Res3 := Bool.rec (motive := fun _ => Res3) none (k (s (some v) t) S) (Nat.blt d n)
noncomputable def stepDr (s : Option Value → Tm → Tm) (d : Nat) (f : OpK) (ih : Fns) (n : Nat) (t : Tm) (S : St) (k : Tm → St → Res3) (pan : PanK) : Res3 := f ih t S (putK s d n t k) pan
def dropK (t : Tm) (k : Tm → St → Res3) (_ : Value) (S : St) : Res3 := k t S
def stepN (f : OpK) (ih : Fns) (_ : Nat) (t : Tm) (S : St) (k : Tm → St → Res3) (pan : PanK) : Res3 := f ih t S (dropK t k) pan
def isB (v : Option Value) (w : Bool) : Bool := match v with
  | some (.bool b) => b == w
  | _ => false
noncomputable def stepG (g : Tm → Option Value) (w : Bool) (yes no : StepK) (ih : Fns) (n : Nat) (t : Tm) (S : St) (k : Tm → St → Res3) (pan : PanK) : Res3 :=
  Bool.rec (motive := fun _ => Res3) (no ih n t S k pan) (yes ih n t S k pan) (isB (g t) w)
noncomputable def plainW (dst : Option Tmp) (f : OpK) : StepW := match dst with
  | none => ⟨stepN f⟩
  | some d => match (setK 8 d : SW Value 8) with
    | ⟨s⟩ => ⟨stepDr s d f⟩
def undefF (_ : Fns) (_ : Tm) (S : St) (ok : OkK) (_ : PanK) : Res3 := ok undef S
noncomputable def guardW (g : GW Value 8) (w : Bool) (y n : StepW) : StepW := match g, y, n with
  | ⟨g⟩, ⟨y⟩, ⟨n⟩ => ⟨stepG g w y n⟩
noncomputable def opOf (w : OpW) : OpK := match w with
  | ⟨f⟩ => f
noncomputable def plainOp (dst : Option Tmp) (w : OpW) : StepW := match w with
  | ⟨f⟩ => plainW dst f
noncomputable def stepW (full : List Oper) (o : Oper) : StepW := match o.guard with
  | none => plainOp o.dst (opW P o.op)
  | some (j, w) => match nth full j with
    | some oj => match oj.dst with
      | some d => guardW (getK 8 d) w (plainOp o.dst (opW P o.op)) (plainW o.dst undefF)
      | none => plainW o.dst undefF
    | none => plainW o.dst undefF
noncomputable def compL (full : List Oper) (l : List Oper) : List StepW := List.rec (motive := fun _ => List StepW) [] (fun o _ ih => stepW P full o :: ih) l
noncomputable def stepRun (w : StepW) (ih : Fns) (n : Nat) (t : Tm) (S : St) (k : Tm → St → Res3) (pan : PanK) : Res3 := StepW.rec (motive := fun _ => Res3) (fun f => f ih n t S k pan) w
def panA (n : Nat) (t : Tm) (df : List Deferred) (ch : List PanicEntry) (S : St) : Res3 := some (.panic ch, ⟨n, t, df⟩, S)
noncomputable def runC (ih : Fns) (n : Nat) (df : List Deferred) (l : List StepW) : Tm → St → Res3 :=
  List.rec (motive := fun _ => Tm → St → Res3) (fun t S => some (.normal, ⟨n, t, df⟩, S)) (fun c _ rest t S => stepRun c ih n t S rest (panA n t df)) l

/-! ### Regions that draw their order -/
abbrev Ent := Nat × (St → Res3 → Res3)
abbrev PlK := Fns → Nat → List Deferred → Tm → St → List Ent → (List Ent → Tm → St → Res3) → Res3
structure PlW where
  run : PlK
noncomputable def sameK2 (v : Value) (k : Res3) (w : Value) (_ : St) : Res3 := Bool.rec (motive := fun _ => Res3) none k (sameV 100000 v w)
def noPan (_ : List PanicEntry) (_ : St) : Res3 := none
noncomputable def lookE (f : OpK) (ih : Fns) (t : Tm) (v : Value) (S : St) (k : Res3) : Res3 := f ih t S (sameK2 v k) noPan
noncomputable def freshE (P : Program) (c : Chk) (S : St) (k : Res3) : Res3 := Bool.rec (motive := fun _ => Res3) none k (Chk.ok P S c)
noncomputable def allE (S : St) (k : Res3) (l : List Ent) : Res3 := List.rec (motive := fun _ => Res3) k (fun e _ ih => e.2 S ih) l
def keepE (bef : Nat) : List Ent → List Ent
  | [] => []
  | e :: r => bif bef.testBit e.1 then keepE bef r else e :: keepE bef r
abbrev PutK := Nat → Tm → Value → (Tm → Res3) → Res3
noncomputable def putD (s : Option Value → Tm → Tm) (d : Nat) (n : Nat) (t : Tm) (v : Value) (k : Tm → Res3) : Res3 := Bool.rec (motive := fun _ => Res3) none (k (s (some v) t)) (Nat.blt d n)
def putN (_ : Nat) (t : Tm) (_ : Value) (k : Tm → Res3) : Res3 := k t
noncomputable def putOf (dst : Option Tmp) : PutK := match dst with
  | none => putN
  | some d => match (setK 8 d : SW Value 8) with
    | ⟨s⟩ => putD s d
def plPlain (p : PutK) (f : OpK) (ih : Fns) (n : Nat) (_ : List Deferred) (t : Tm) (S : St) (l : List Ent) (k : List Ent → Tm → St → Res3) : Res3 := f ih t S (fun v S' => p n t v fun t' => k l t' S') noPan
noncomputable def plLook (i : Nat) (p : PutK) (f : OpK) (ih : Fns) (n : Nat) (_ : List Deferred) (t : Tm) (S : St) (l : List Ent) (k : List Ent → Tm → St → Res3) : Res3 := f ih t S (fun v S' => p n t v fun t' => k ((i, lookE f ih t v) :: l) t' S') noPan
noncomputable def plFresh (i : Nat) (p : PutK) (f : OpK) (ih : Fns) (n : Nat) (_ : List Deferred) (t : Tm) (S : St) (l : List Ent) (k : List Ent → Tm → St → Res3) : Res3 :=
  f ih t S (fun v S' => p n t v fun t' => withO (chkOf S' S.size) fun c => Option.rec (motive := fun _ => Res3) (k ((i, freshE P c) :: l) t' S') (fun _ => none) (hget S S.size)) noPan
noncomputable def plHeavy (bef : Nat) (p : PutK) (f : OpK) (ih : Fns) (n : Nat) (_ : List Deferred) (t : Tm) (S : St) (l : List Ent) (k : List Ent → Tm → St → Res3) : Res3 :=
  f ih t S (fun v S' => p n t v fun t' => allE S' (k (keepE bef l) t' S') (keepE bef l)) noPan
noncomputable def plGuard (g : Tm → Option Value) (w : Bool) (yes no : PlK) (ih : Fns) (n : Nat) (df : List Deferred) (t : Tm) (S : St) (l : List Ent) (k : List Ent → Tm → St → Res3) : Res3 :=
  Bool.rec (motive := fun _ => Res3) (no ih n df t S l k) (yes ih n df t S l k) (isB (g t) w)
noncomputable def plOp (bef : Nat) (o : Oper) (i : Nat) (f : OpK) : PlK := match kindOf o.op with
  | .read => bif looks o.op then plLook i (putOf o.dst) f else plPlain (putOf o.dst) f
  | .fresh => plFresh P i (putOf o.dst) f
  | .heavy => plHeavy bef (putOf o.dst) f
noncomputable def plGuardW (g : GW Value 8) (w : Bool) (y n : PlK) : PlW := match g with
  | ⟨g⟩ => ⟨plGuard g w y n⟩
noncomputable def plOpW (full : List Oper) (bef : Nat) (o : Oper) (i : Nat) (w : OpW) : PlW := match w with
  | ⟨f⟩ => match o.guard with
    | none => ⟨plOp P bef o i f⟩
    | some (j, w) => match nth full j with
      | some oj => match oj.dst with
        | some d => plGuardW (getK 8 d) w (plOp P bef o i f) (plPlain (putOf o.dst) undefF)
        | none => ⟨plPlain (putOf o.dst) undefF⟩
      | none => ⟨plPlain (putOf o.dst) undefF⟩
noncomputable def compP (full : List Oper) (bef : List Nat) (l : List (Oper × Nat)) : List PlW :=
  List.rec (motive := fun _ => List PlW) [] (fun x _ ih => plOpW P full ((nth bef x.2).getD 0) x.1 x.2 (opW P x.1.op) :: ih) l
noncomputable def plRun (w : PlW) : PlK := PlW.rec (motive := fun _ => PlK) (fun f => f) w
noncomputable def runPl (ih : Fns) (n : Nat) (df : List Deferred) (l : List PlW) : List Ent → Tm → St → Res3 :=
  List.rec (motive := fun _ => List Ent → Tm → St → Res3) (fun _ t S => some (.normal, ⟨n, t, df⟩, S)) (fun c _ rest e t S => plRun c ih n df t S e rest) l

/-! ### Code -/
structure CodeW where
  run : Fns → Option Nat → Ca → St → Res3
noncomputable def regionF (l : List StepW) (ih : Fns) (_ : Option Nat) (a : Ca) (S : St) : Res3 := Ca.rec (motive := fun _ => Res3) (fun n t df => runC ih n df l t S) a
noncomputable def drawF (l : List PlW) (ih : Fns) (_ : Option Nat) (a : Ca) (S : St) : Res3 := Ca.rec (motive := fun _ => Res3) (fun n t df => runPl ih n df l [] t S) a
def constF (e : Exit) (_ : Fns) (_ : Option Nat) (a : Ca) (S : St) : Res3 := some (e, a, S)
def seqK (y : Code) (ih : Fns) (ro : Option Nat) (r : Res3) : Res3 := match r with
  | some (.normal, a', S') => ih.exec ro y a' S'
  | r => r
def seqF (x y : Code) (ih : Fns) (ro : Option Nat) (a : Ca) (S : St) : Res3 := seqK y ih ro (ih.exec ro x a S)
noncomputable def condK (x y : Res3) (o : Option Bool) : Res3 := withO o fun b => Bool.rec (motive := fun _ => Res3) y x b
noncomputable def condF (g : Tm → Value) (x y : Code) (ih : Fns) (ro : Option Nat) (a : Ca) (S : St) : Res3 := condK (ih.exec ro x a S) (ih.exec ro y a S) (asBoolF (g a.t))
noncomputable def condW (e : EvW) (x y : Code) : CodeW := match e with
  | ⟨g⟩ => ⟨condF g x y⟩
def blockK (id : Nat) (r : Res3) : Res3 := match r with
  | some (.exit j, a', S') => bif Nat.beq j id then some (.normal, a', S') else some (.exit j, a', S')
  | r => r
def blockF (id : Nat) (c : Code) (ih : Fns) (ro : Option Nat) (a : Ca) (S : St) : Res3 := blockK id (ih.exec ro c a S)
def loopF (c : Code) (ih : Fns) (ro : Option Nat) (a : Ca) (S : St) : Res3 := seqK (.loop c) ih ro (ih.exec ro c a S)
def elseF (code : Code) (ih : Fns) (ro : Option Nat) (a : Ca) (S : St) : Res3 := execF P ih ro code a S
def noCode (_ : Fns) (_ : Option Nat) (_ : Ca) (_ : St) : Res3 := none
noncomputable def drawW (full : List Oper) (o : Option (List Nat × List (Oper × Nat))) : CodeW := match o with
  | some (bef, pl) => ⟨drawF (compP P full bef pl)⟩
  | none => ⟨noCode⟩
noncomputable def regionW (ops : List Oper) (draw : Bool) : CodeW := bif constsOk P ops then (bif draw then drawW P ops (planW ops) else ⟨regionF (compL P ops ops)⟩) else ⟨noCode⟩
noncomputable def codeW (code : Code) : CodeW := match code with
  | .skip => ⟨constF .normal⟩
  | .label _ => ⟨constF .normal⟩
  | .exit id => ⟨constF (.exit id)⟩
  | .ret => ⟨constF .ret⟩
  | .region _ ops draw => regionW P ops.toList draw
  | .seq x y => ⟨seqF x y⟩
  | .cond c x y => condW (evW c) x y
  | .block id c => ⟨blockF id c⟩
  | .loop c => ⟨loopF c⟩
  | code => ⟨elseF P code⟩
noncomputable def execW (w : CodeW) (ih : Fns) (ro : Option Nat) (a : Ca) (S : St) : Res3 := CodeW.rec (motive := fun _ => Res3) (fun f => f ih ro a S) w
noncomputable def execG (ih : Fns) (ro : Option Nat) (code : Code) (a : Ca) (S : St) : Res3 := execW (codeW P code) ih ro a S

/-! ### Calls -/
inductive EntW where
  | bad
  | ext
  | go (n : Nat) (c : Code) (rs : List ResultVar)
def entW (f : FuncId) : EntW := match P.funcs[f]? with
  | some fn => match fn.body with
    | some c => bif fn.name == "runtime.NumGoroutine" then .bad else .go fn.ntmps c fn.results.toList
    | none => .ext
  | none => .bad
noncomputable def setArgs (i : Nat) (l : List Value) : Tm → Tm := List.rec (motive := fun _ => Nat → Tm → Tm) (fun _ t => t) (fun v _ ih i t => ih (Nat.succ i) (appS (setK 8 i) (some v) t)) l i
noncomputable def resG (t : Tm) (S : St) : List ResultVar → Option (List Value)
  | [] => some []
  | .tmp x :: r => match resG t S r with
    | some l => some (evA t (.tmp x) :: l)
    | none => none
  | .cell x e :: r => match loadV P e (evA t (.tmp x)) S, resG t S r with
    | some v, some l => some (v :: l)
    | _, _ => none
abbrev Res2 := Option (Ending × St)
def retV (S : St) (l : Option (List Value)) : Res2 := match l with
  | some [v] => some (.returned v, S)
  | some vs => some (.returned (.tuple vs.toArray), S)
  | none => none
noncomputable def retG (rs : List ResultVar) (t : Tm) (S : Option St) : Res2 := Option.rec (motive := fun _ => Res2) none (fun S => retV S (resG P t S rs)) S
def panG (ch : List PanicEntry) (S : Option St) : Res2 := match S with
  | some S => some (.panicked ch, S)
  | none => none
noncomputable def leave1 (rs : List ResultVar) (S : St) (e : Exit) (t : Tm) (df : List Deferred) : Res2 := match e with
  | .normal => retG P rs t (takeMarks df S)
  | .ret => retG P rs t (takeMarks df S)
  | .panic ch => panG ch (takeMarks df S)
  | _ => none
noncomputable def leaveG (rs : List ResultVar) (r : Res3) : Res2 := match r with
  | some (e, ⟨_, t, df⟩, S) => leave1 P rs S e t df
  | none => none
noncomputable def goG (ih : Fns) (n : Nat) (c : Code) (rs : List ResultVar) (args : List Value) (S : St) : Res2 :=
  bif Nat.blt 256 n then none else leaveG P rs (ih.exec none c ⟨n, setArgs 0 args (PT.nil 8), []⟩ S)
def extG (r : Option (Value × St)) : Res2 := match r with
  | some (v, S) => some (.returned v, S)
  | none => none
noncomputable def enterG (K : Known) (ih : Fns) (f : FuncId) (args : List Value) (S : St) (w : EntW) : Res2 := match w with
  | .bad => none
  | .ext => extG (K.ext f args S)
  | .go n c rs => goG P ih (maxN n args.length) c rs args S
noncomputable def callG (K : Known) (ih : Fns) (target : Target) (args : List Value) (S : St) : Res2 := match target with
  | .fn (.func f) ⟨[]⟩ => match K.call f args S with
    | some v => some (.returned v, S)
    | none => bif K.defers f then enterD P ih f args S else enterG P K ih f args S (entW P f)
  | t => callF P K ih t args S

noncomputable def fnsG (K : Known) (n : Nat) : Fns :=
  Nat.rec (motive := fun _ => Fns) ⟨fun _ _ _ _ => none, fun _ _ _ => none⟩ (fun _ ih => ⟨execG P ih, callG P K ih⟩) n
end Go.Cm

namespace Go.Cm
open Go

/-! ### tables -/
theorem getW_eq {α : Type} : ∀ (d k : Nat) (t : PT α d), (getW d k : GW α d).f t = PT.at_ d t k
  | 0, _, _ => rfl
  | d + 1, k, t => by
    have e : (getW (d + 1) k : GW α (d + 1)) = Bool.rec (motive := fun _ => GW α _) (consR (getW d (Nat.div k 2))) (consL (getW d (Nat.div k 2))) (Nat.beq (Nat.mod k 2) 0) := rfl
    rw [e]
    have hL : ∀ w : GW α d, (consL w).f t = w.f t.1 := fun w => by cases w; rfl
    have hR : ∀ w : GW α d, (consR w).f t = w.f t.2 := fun w => by cases w; rfl
    cases hb : Nat.beq (Nat.mod k 2) 0 with
    | true =>
      rw [PT.at_tt (show Nat.beq (k % 2) 0 = true from hb)]
      show (consL (getW d (Nat.div k 2))).f t = _
      rw [hL]; exact getW_eq d _ _
    | false =>
      rw [PT.at_ff (show Nat.beq (k % 2) 0 = false from hb)]
      show (consR (getW d (Nat.div k 2))).f t = _
      rw [hR]; exact getW_eq d _ _
theorem getK_eq {α : Type} (d k : Nat) (t : PT α d) : (getK d k : GW α d).f t = t.get k := by
  unfold getK PT.get
  cases Nat.blt k (2 ^ d) with
  | true => exact getW_eq d k t
  | false => rfl
theorem setW_eq {α : Type} : ∀ (d k : Nat) (v : Option α) (t : PT α d), (setW d k : SW α d).f v t = PT.upd v d t k
  | 0, _, _, _ => rfl
  | d + 1, k, v, t => by
    have e : (setW (d + 1) k : SW α (d + 1)) = Bool.rec (motive := fun _ => SW α _) (sconsR (setW d (k / 2))) (sconsL (setW d (k / 2))) (Nat.beq (k % 2) 0) := rfl
    rw [e]
    have hL : ∀ w : SW α d, (sconsL w).f v t = ((w.f v t.1, t.2) : PT α d × PT α d) := fun w => by cases w; cases t; rfl
    have hR : ∀ w : SW α d, (sconsR w).f v t = ((t.1, w.f v t.2) : PT α d × PT α d) := fun w => by cases w; cases t; rfl
    cases hb : Nat.beq (k % 2) 0 with
    | true =>
      rw [PT.upd_tt hb]
      show (sconsL (setW d (k / 2))).f v t = _
      rw [hL, setW_eq d]
    | false =>
      rw [PT.upd_ff hb]
      show (sconsR (setW d (k / 2))).f v t = _
      rw [hR, setW_eq d]
theorem setK_eq {α : Type} (d k : Nat) (v : Option α) (t : PT α d) : (setK d k : SW α d).f v t = t.set k v := by
  unfold setK PT.set
  cases Nat.blt k (2 ^ d) with
  | true => exact setW_eq d k v t
  | false => rfl
theorem appS_eq {α : Type} {d : Nat} (w : SW α d) (v : Option α) (t : PT α d) : appS w v t = w.f v t := by cases w; rfl
theorem atG_eq {α : Type} : ∀ (d : Nat) (t : PT α d) (k : Nat), atG d t k = PT.at_ d t k
  | 0, _, _ => rfl
  | d + 1, t, k => by
    have e : atG (d + 1) t k = Bool.rec (motive := fun _ => Option α) (atG d t.2 (Nat.div k 2)) (atG d t.1 (Nat.div k 2)) (Nat.beq (Nat.mod k 2) 0) := rfl
    rw [e]
    cases hb : Nat.beq (Nat.mod k 2) 0 with
    | true => rw [PT.at_tt (show Nat.beq (k % 2) 0 = true from hb)]; exact atG_eq d _ _
    | false => rw [PT.at_ff (show Nat.beq (k % 2) 0 = false from hb)]; exact atG_eq d _ _
theorem updG_eq {α : Type} (v : Option α) : ∀ (d : Nat) (t : PT α d) (k : Nat), updG v d t k = PT.upd v d t k
  | 0, _, _ => rfl
  | d + 1, t, k => by
    obtain ⟨l, r⟩ := t
    have e : updG v (d + 1) ((l, r) : PT α d × PT α d) k = Bool.rec (motive := fun _ => PT α d × PT α d) (l, updG v d r (Nat.div k 2)) (updG v d l (Nat.div k 2), r) (Nat.beq (Nat.mod k 2) 0) := rfl
    rw [e]
    cases hb : Nat.beq (Nat.mod k 2) 0 with
    | true =>
      refine Eq.trans ?_ (PT.upd_tt (show Nat.beq (k % 2) 0 = true from hb)).symm
      show (updG v d l (Nat.div k 2), r) = _
      rw [updG_eq v d l]; rfl
    | false =>
      refine Eq.trans ?_ (PT.upd_ff (show Nat.beq (k % 2) 0 = false from hb)).symm
      show (l, updG v d r (Nat.div k 2)) = _
      rw [updG_eq v d r]; rfl
theorem hget_eq (S : St) (b : Nat) : hget S b = S.get b := by
  obtain ⟨⟨t, more⟩, z⟩ := S
  show Bool.rec (motive := fun _ => Option Blk) (more b) (atG 18 t b) (Nat.blt b 262144) = bif Nat.blt b 262144 then PT.at_ 18 t b else more b
  cases Nat.blt b 262144 with
  | true => exact atG_eq 18 _ _
  | false => rfl
theorem hset_eq (h : Hp) (b : Nat) (x : Option Blk) : hset h b x = Heap.set h b x := by
  obtain ⟨t, more⟩ := h
  show Bool.rec (motive := fun _ => Hp) ⟨t, fun j => bif Nat.beq j b then x else more j⟩ ⟨updG x 18 t b, more⟩ (Nat.blt b 262144) = bif Nat.blt b 262144 then (⟨PT.upd x 18 t b, more⟩ : Heap) else ⟨t, fun j => bif Nat.beq j b then x else more j⟩
  cases Nat.blt b 262144 with
  | true => exact congrArg (fun y => (⟨y, more⟩ : Heap)) (updG_eq x 18 _ _)
  | false => rfl

/-! ### looking into a value -/
theorem withO_eq {α : Type} (o : Option α) (k : α → Res3) : withO o k = match o with | some v => k v | none => none := by cases o <;> rfl
theorem with2_eq {α β : Type} (o : Option (α × β)) (k : α → β → Res3) : with2 o k = match o with | some (a, b) => k a b | none => none := by cases o <;> rfl
theorem with3_eq {α β γ : Type} (o : Option (α × β × γ)) (k : α → β → γ → Res3) : with3 o k = match o with | some (a, b, c) => k a b c | none => none := by cases o <;> rfl
theorem asBoolF_eq (v : Value) : asBoolF v = match v with | .bool b => some b | _ => none := by cases v <;> rfl
theorem asIntF_eq (v : Value) : asIntF v = match v with | .int k n => some (k, n) | _ => none := by cases v <;> rfl
theorem asPtrF_eq (v : Value) : asPtrF v = match v with | .pointer a => addrOf a | _ => none := by cases v <;> rfl
theorem asSliceF_eq (v : Value) : asSliceF v = match v with | .slice a n c => sliceOf a n c | _ => none := by cases v <;> rfl
theorem asTupF_eq (v : Value) : asTupF v = match v with | .tuple l => some l.toList | _ => none := by cases v <;> rfl
theorem cellsF_eq (v : Value) : cellsF v = cellsL v := by cases v <;> rfl

/-! ### operands -/
theorem evW_eq (x : Operand) (t : Tm) : (evW x).get t = evT t x := by
  cases x with
  | tmp i =>
    show (tmpW (getK 8 i)).get t = _
    have h : ∀ w : GW Value 8, (tmpW w).get t = unO (w.f t) := fun w => by cases w; rfl
    rw [h, getK_eq]
    show unO (t.get i) = match t.get i with | some v => v | none => undef
    cases t.get i <;> rfl
  | const v => rfl
  | global g => rfl
  | func f => rfl
theorem evA_eq (t : Tm) : evA t = evT t := by
  funext x
  rw [← evW_eq]
  show evF (evW x) t = _
  cases evW x; rfl
theorem ca_ev (n : Nat) (t : Tm) (df : List Deferred) : Ca.ev ⟨n, t, df⟩ = evT t := by
  funext x; cases x <;> rfl
theorem evW_get {x : Operand} {g : Tm → Value} (h : evW x = ⟨g⟩) (t : Tm) : g t = evT t x := by
  rw [← evW_eq, h]

/-! ### integers -/
theorem kindNo_inj : ∀ j k : IntKind, kindNo j = kindNo k → j = k := by intro j k h; cases j <;> cases k <;> first | rfl | (simp [kindNo] at h)
theorem sameK_eq (j k : IntKind) : sameK j k = decide (j = k) := by
  unfold sameK
  by_cases h : j = k
  · subst h; simp
  · rw [nbeq_ff (fun e => h (kindNo_inj _ _ e))]; simp [h]
theorem eqI_eq : ∀ a b : Int, eqI a b = (a == b)
  | .ofNat a, .ofNat b => by
    show Nat.beq a b = _
    by_cases h : a = b
    · subst h; simp
    · have h2 : ¬ (Int.ofNat a = Int.ofNat b) := fun e => h (Int.ofNat.inj e)
      rw [nbeq_ff h, beq_eq_false_iff_ne.2 h2]
  | .negSucc a, .negSucc b => by
    show Nat.beq a b = _
    by_cases h : a = b
    · subst h; simp
    · rw [nbeq_ff h]; simp [h]
  | .ofNat a, .negSucc b => by simp [eqI]
  | .negSucc a, .ofNat b => by simp [eqI]
theorem ltI_eq : ∀ a b : Int, ltI a b = decide (a < b)
  | .ofNat a, .ofNat b => by
    show Nat.blt a b = _
    rw [PT.blt_iff]
    refine decide_eq_decide.2 ?_
    show a < b ↔ (a : Int) < (b : Int)
    omega
  | .negSucc a, .negSucc b => by
    show Nat.blt b a = _
    rw [PT.blt_iff]
    refine decide_eq_decide.2 ?_
    omega
  | .ofNat a, .negSucc b => by
    show false = _
    symm; rw [decide_eq_false_iff_not]
    show ¬ ((a : Int) < Int.negSucc b)
    omega
  | .negSucc a, .ofNat b => by
    show true = _
    symm; rw [decide_eq_true_eq]
    show Int.negSucc a < (b : Int)
    omega
theorem bif_eq {α : Type} {c : Bool} {x y : α} (h : c = true → x = y) : (bif c then x else y) = y := by
  cases c with
  | false => rfl
  | true => exact h rfl
theorem wrapF_eq (k : IntKind) (n : Int) : wrapF k n = k.wrap n := by
  unfold wrapF
  split
  · rename_i m
    refine bif_eq fun h => ?_
    have h := nblt_tt h
    rw [IntKind.wrap_i64]
    show (m : Int) = _
    have e : (Int.ofNat m) = (m : Int) := rfl
    rw [e]
    omega
  · rename_i m
    refine bif_eq fun h => ?_
    have h := nblt_tt h
    rw [IntKind.wrap_i64]
    omega
  · rename_i m
    refine bif_eq fun h => ?_
    have h := nblt_tt h
    rw [IntKind.wrap_u64]
    have e : (Int.ofNat m) = (m : Int) := rfl
    rw [e]
    omega
  · rfl

/-! ### operations -/
section
variable {P : Program} {ih : Fns} {t : Tm} {S : St} {ok : OkK} {pan : PanK}

theorem useR_read {f : Operand → Value} {op : Op} (hk : kindOf op = .read) : useR (stepOp P ih f op S) ok pan = match readOp P f op S with | some v => ok v S | none => none := by
  unfold stepOp
  rw [hk]
  simp only
  cases readOp P f op S <;> rfl
theorem useR_new {f : Operand → Value} {op : Op} (hk : kindOf op = .fresh) : useR (stepOp P ih f op S) ok pan = match newOp P f op S with | some (v, S') => ok v S' | none => none := by
  unfold stepOp
  rw [hk]
  simp only
  cases newOp P f op S <;> rfl

abbrev Eqv (P : Program) (op : Op) (w : OpW) : Prop := ∀ (ih : Fns) (t : Tm) (S : St) (ok : OkK) (pan : PanK), w.run ih t S ok pan = useR (stepOp P ih (evT t) op S) ok pan

theorem slow_eq (op : Op) : Eqv P op ⟨slowF P op⟩ := fun _ _ _ _ _ => rfl

theorem moveW_eq (x : Operand) (ih : Fns) (t : Tm) (S : St) (ok : OkK) (pan : PanK) : (moveW x).run ih t S ok pan = ok (evT t x) S := by
  have hE : ∀ w : EvW, (moveEW w).run ih t S ok pan = ok (w.get t) S := fun w => by cases w; rfl
  cases x with
  | tmp i =>
    show (movePW (getK 8 i)).run ih t S ok pan = _
    have hP : ∀ w : GW Value 8, (movePW w).run ih t S ok pan = Option.rec (motive := fun _ => Res3) (ok undef S) (fun v => ok v S) (w.f t) := fun w => by cases w; rfl
    rw [hP, getK_eq]
    show _ = ok (match t.get i with | some v => v | none => undef) S
    cases t.get i <;> rfl
  | const v => exact hE (evW (.const v))
  | global g => exact hE (evW (.global g))
  | func f => exact hE (evW (.func f))

theorem pickW_eq (c a b : Operand) : Eqv P (.pick c a b) (pickW (evW c) (evW a) (evW b)) := by
  intro ih t S ok pan
  rw [useR_read rfl]
  cases hc : evW c with | mk f =>
  cases ha : evW a with | mk g =>
  cases hb : evW b with | mk h =>
  show pickF f g h ih t S ok pan = _
  unfold pickF
  rw [withO_eq, asBoolF_eq, evW_get hc, evW_get ha, evW_get hb]
  simp only [readOp, pureOp]
  cases evT t c <;> first
    | rfl
    | (rename_i x; cases x <;> rfl)

theorem cellsOfB_eq (b : Option Blk) : cellsOfB b = match b with | some (.cells c _ _ _ _) => some c | _ => none := rfl

theorem loadW_eq (ty : TypeId) (x : Operand) : Eqv P (.load ty x) (loadW P ty x) := by
  intro ih t S ok pan
  rw [useR_read rfl]
  unfold loadW
  cases hx : evW x with | mk g =>
  have hg := evW_get hx t
  simp only [readOp, loadV]
  cases ha : aggOf P ty with
  | none =>
    have e : loadW1 (none : Option Bool) (szOf P ty) ⟨g⟩ = ⟨noOp⟩ := rfl
    rw [e]
    show none = _
    split
    · rename_i v hv
      split at hv
      · split at hv
        · simp [partL, ha] at hv
        · cases hv
      · cases hv
    · rfl
  | some y =>
    cases y with
    | true =>
      cases hn : szOf P ty with
      | none =>
        have e : loadW1 (some true) none ⟨g⟩ = ⟨noOp⟩ := rfl
        rw [e]
        show none = _
        split
        · rename_i v hv
          split at hv
          · split at hv
            · simp [partL, ha, hn] at hv
            · cases hv
          · cases hv
        · rfl
      | some n =>
        show loadAgg n g ih t S ok pan = _
        unfold loadAgg
        rw [with2_eq, asPtrF_eq, hg]
        cases evT t x <;> try rfl
        rename_i a
        cases a with
        | none => rfl
        | some a =>
          obtain ⟨b, o, p⟩ := a
          cases p with
          | some p => rfl
          | none =>
            simp only [addrOf]
            unfold loadAggK
            rw [withO_eq, hget_eq]
            cases hb : S.get b with
            | none => rfl
            | some B =>
              cases B <;> try rfl
              simp only [cellsOfB, withO_eq, partL, ha, hn]
              cases takeN n (dropN o _) <;> rfl
    | false =>
      have e : loadW1 (some false) (szOf P ty) ⟨g⟩ = ⟨loadOne g⟩ := by cases szOf P ty <;> rfl
      rw [e]
      show loadOne g ih t S ok pan = _
      unfold loadOne
      rw [with2_eq, asPtrF_eq, hg]
      cases evT t x <;> try rfl
      rename_i a
      cases a with
      | none => rfl
      | some a =>
        obtain ⟨b, o, p⟩ := a
        cases p with
        | some p => rfl
        | none =>
          simp only [addrOf]
          unfold loadOneK
          rw [withO_eq, hget_eq]
          cases hb : S.get b with
          | none => rfl
          | some B =>
            cases B <;> try rfl
            simp only [cellsOfB, withO_eq, partL, ha]
            cases nth _ o <;> rfl

theorem ptr_none {x : Value} {k : Nat → Nat → Res3} (h : ∀ b o, x ≠ .pointer (some ⟨b, o, none⟩)) : with2 (asPtrF x) k = none := by
  rw [with2_eq, asPtrF_eq]
  cases x <;> try rfl
  rename_i a
  cases a with
  | none => rfl
  | some a =>
    obtain ⟨b, o, p⟩ := a
    cases p with
    | some p => rfl
    | none => exact absurd rfl (h b o)
theorem ptr_some (b o : Nat) (k : Nat → Nat → Res3) : with2 (asPtrF (.pointer (some ⟨b, o, none⟩))) k = k b o := rfl

theorem fieldAddrW_eq (s : TypeId) (x : Operand) (i : Nat) : Eqv P (.fieldAddr s x i) (fieldAddrW P s x i) := by
  intro ih t S ok pan
  rw [useR_read rfl]
  have hno : ∀ (h : fieldAddrV P s (evT t x) i = none), (noOp ih t S ok pan) = match readOp P (evT t) (.fieldAddr s x i) S with | some v => ok v S | none => none := by
    intro h; simp only [readOp, pureOp, h]; rfl
  unfold fieldAddrW
  split
  · rename_i fields hu
    split
    · rename_i f hf
      split
      · rename_i m hsz
        cases hx : evW x with | mk g =>
        have hg := evW_get hx t
        show fieldAddrF f.offset g ih t S ok pan = _
        unfold fieldAddrF
        rw [hg]
        simp only [readOp, pureOp, fieldAddrV, hu]
        cases hv : evT t x
        case pointer a =>
          cases a with
          | none => rfl
          | some a =>
            obtain ⟨b, o, p⟩ := a
            cases p with
            | some p => rfl
            | none => simp only [hf, hsz]; rfl
        all_goals rfl
      · rename_i hne
        refine hno ?_
        simp only [fieldAddrV, hu]
        split
        · rename_i h1 h2; cases h1
          simp only [hf]
          first
            | done
            | (cases hm : szOf P f.type with
               | none => rfl
               | some m =>
                 cases m with
                 | zero => rfl
                 | succ m => exact absurd hm (hne m))
        · rfl
    · rename_i hf
      refine hno ?_
      simp only [fieldAddrV, hu]
      split
      · rename_i h1 h2; cases h1; simp [hf]
      · rfl
  · rename_i hne
    refine hno ?_
    unfold fieldAddrV
    split
    · rename_i h1 _; exact absurd h1 (hne _)
    · rfl

end
end Go.Cm

