/-
  CM, part 12: what is asked of the evaluator of a smaller fuel; one operation of a region, calls and all.
-/
import Derived.Test.YtfoonohjjeofhaaGreatDoorCmRun
namespace Go.Cm
open Go
variable {P : Program} {w0 : Base} {K : Known}

def FW (r : Option Nat) : Fence := { Fence.wide with round := r }
theorem FW_none : FW none = Fence.wide := rfl
theorem FW_some (l : Nat) : FW (some l) = Fence.wide.inRound l := rfl

inductive PanR (ρ : Rmap) : List PanicEntry → List PanicEntry → Prop
  | nil : PanR ρ [] []
  | cons {v v' : Value} {l l' : List PanicEntry} (r g : Bool) (h : VR ρ v v') (k : PanR ρ l l') : PanR ρ (⟨v, r, g⟩ :: l) (⟨v', r, g⟩ :: l')
theorem PanR.mono {ρ ρ' : Rmap} (e : Ext ρ ρ') {l l' : List PanicEntry} (h : PanR ρ l l') : PanR ρ' l l' := by
  induction h with
  | nil => exact .nil
  | cons r g h _ ih => exact .cons r g (h.mono e) ih

inductive EndR (ρ : Rmap) : Ending → Ending → Prop
  | ret {v v' : Value} (h : VR ρ v v') : EndR ρ (.returned v) (.returned v')
  | pan {c c' : List PanicEntry} (h : PanR ρ c c') : EndR ρ (.panicked c) (.panicked c')
inductive ExitR (ρ : Rmap) : Exit → Exit → Prop
  | normal : ExitR ρ .normal .normal
  | exit (id : Nat) : ExitR ρ (.exit id) (.exit id)
  | ret : ExitR ρ .ret .ret
  | pan {c c' : List PanicEntry} (h : PanR ρ c c') : ExitR ρ (.panic c) (.panic c')

def TarR (ρ : Rmap) (t t' : Target) : Prop := ∃ fn fn' cap cap', t = .fn fn cap ∧ t' = .fn fn' cap' ∧ VR ρ (.func fn #[] cap) (.func fn' #[] cap')
theorem TarR.mono {ρ ρ' : Rmap} (e : Ext ρ ρ') {t t' : Target} (h : TarR ρ t t') : TarR ρ' t t' := by
  obtain ⟨a, b, c, d, x, y, z⟩ := h; exact ⟨a, b, c, d, x, y, z.mono e⟩

theorem nil_all {ρ : Rmap} : ∀ (i : Nat) (v v' : Value), ([] : List Value)[i]? = some v → ([] : List Value)[i]? = some v' → VR ρ v v' := fun i v v' h => by simp at h

theorem VR.func_inv {ρ : Rmap} {fn : Fn} {first cap : Array Value} {x : Value} (h : VR ρ (.func fn first cap) x) :
    ∃ fn' first' cap', x = .func fn' first' cap' ∧ VR ρ (.func fn #[] cap) (.func fn' #[] cap') ∧ VRs ρ first.toList first'.toList := by
  cases h with
  | func f ha h hc k => exact ⟨_, _, _, rfl, .func f rfl nil_all hc k, ha, h⟩
  | method f ha h hc k => exact ⟨_, _, _, rfl, .method f rfl nil_all hc k, ha, h⟩
  | via t p f q ha h hc k => exact ⟨_, _, _, rfl, .via t p f q rfl nil_all hc k, ha, h⟩
  | yield h => exact ⟨_, _, _, rfl, .yield h, VRs.nil⟩

def RoR (ρ : Rmap) (r r' : Option Nat) : Prop := (r = none ∧ r' = none) ∨ ∃ l L, r = some l ∧ ρ l = some L ∧ r' = some L.r
theorem RoR.mono {ρ ρ' : Rmap} (e : Ext ρ ρ') {r r' : Option Nat} (h : RoR ρ r r') : RoR ρ' r r' := by
  rcases h with h | ⟨l, L, a, b, c⟩
  · exact .inl h
  · exact .inr ⟨l, L, a, e _ _ b, c⟩

/-- what an invocation must lead to -/
def NextUp (P : Program) (R : Ending → World → Prop) : Result Next → Prop
  | .ok (.value v) w => R (.returned v) w
  | .ok (.enter f args) w => CallsIn Fence.wide 0 P f args w R
  | .ok (.round l f tmps x y) w => RoundIn Fence.wide 0 P l f tmps x y w R
  | _ => False

def EndGood (P : Program) (w0 : Base) (ρ : Rmap) (e : Ending) (S' : St) : Ending → World → Prop := fun e' w' => ∃ ρ', Ext ρ ρ' ∧ EndR ρ' e e' ∧ Sim P w0 ρ' S' w'
def ExitGood (P : Program) (w0 : Base) (ρ : Rmap) (e : Exit) (a' : Ca) (S' : St) : Exit → Act → World → Prop := fun e' ar' w' => ∃ ρ', Ext ρ ρ' ∧ ExitR ρ' e e' ∧ ActR ρ' a' ar' ∧ Sim P w0 ρ' S' w'
theorem ExitGood.mono {ρ ρ1 : Rmap} (h : Ext ρ ρ1) {e : Exit} {a' : Ca} {S' : St} {e' : Exit} {ar' : Act} {w' : World} (k : ExitGood P w0 ρ1 e a' S' e' ar' w') : ExitGood P w0 ρ e a' S' e' ar' w' := by
  obtain ⟨r, a, b, c, d⟩ := k; exact ⟨r, h.trans a, b, c, d⟩

structure FnsSound (P : Program) (w0 : Base) (ih : Fns) : Prop where
  call : ∀ t args S e S', ih.call t args S = some (e, S') → ∀ ρ w t' args', Sim P w0 ρ S w → TarR ρ t t' → VRs ρ args args'.toList → NextUp P (EndGood P w0 ρ e S') ((invoke t' args').run P w)
  exec : ∀ ro c a S e a' S', ih.exec ro c a S = some (e, a', S') → ∀ ρ w ar ro', Sim P w0 ρ S w → ActR ρ a ar → RoR ρ ro ro' → c.wpIn (FW ro') 0 P (ExitGood P w0 ρ e a' S') ar w

theorem about_wide {r : Option Nat} {o : Oper} {w : World} {g : Operand → Value} : ∀ f, o.about P w g = some f → (FW r).fn f := fun _ _ => trivial

/-- what an operation's outcome must lead to -/
structure Leads (P : Program) (w0 : Base) (ρ : Rmap) (x : OpR) (S' : St) (o : Oper) (ar : Act) (next : Act → World → Prop) (Q : Exit → Act → World → Prop) : Prop where
  val : ∀ v, x = .val v → ∀ ρ' v' w', Ext ρ ρ' → VR ρ' v v' → Sim P w0 ρ' S' w' → next (ar.put o.dst v') w'
  pan : ∀ c, x = .pan c → ∀ ρ' c' w', Ext ρ ρ' → PanR ρ' c c' → Sim P w0 ρ' S' w' → Q (.panic c') ar w'

theorem upon_of_next {ρ : Rmap} {S' : St} {o : Oper} {ar : Act} {next : Act → World → Prop} {Q : Exit → Act → World → Prop} {r : Option Nat} {v : Value} {res : Result Next}
    (h : NextGood P w0 ρ v S' res) (hl : Leads P w0 ρ (.val v) S' o ar next Q) : o.uponIn (FW r) 0 P ar next Q res := by
  obtain ⟨ρ', v', w', hr, a, b, c⟩ := h
  rcases hr with rfl | ⟨rfl, rfl⟩
  · exact hl.val v rfl ρ' v' w' a b c
  · exact hl.val v rfl ρ' undef w' a b c

theorem CallsIn.to_FW {r : Option Nat} {f : FuncId} {args : Array Value} {w : World} {R : Ending → World → Prop} (h : CallsIn Fence.wide 0 P f args w R) : CallsIn (FW r) 0 P f args w R := h
theorem RoundIn.to_FW {r : Option Nat} {l : Nat} {f : FuncId} {tmps : Array Value} {x y : Code} {w : World} {R : Ending → World → Prop} (h : RoundIn Fence.wide 0 P l f tmps x y w R) : RoundIn (FW r) 0 P l f tmps x y w R := h

theorem upon_of_up {ρ : Rmap} {S' : St} {o : Oper} {ar : Act} {next : Act → World → Prop} {Q : Exit → Act → World → Prop} {r : Option Nat} {e : Ending} {x : OpR} {res : Result Next}
    (h : NextUp P (EndGood P w0 ρ e S') res) (hx : (∃ v, e = .returned v ∧ x = .val v) ∨ (∃ c, e = .panicked c ∧ x = .pan c)) (hl : Leads P w0 ρ x S' o ar next Q) : o.uponIn (FW r) 0 P ar next Q res := by
  have key : ∀ e' w', EndGood P w0 ρ e S' e' w' → (match e' with
      | .returned v => next (ar.put o.dst v) w'
      | .panicked chain => Q (.panic chain) ar w'
      | .outgrown => LetsOut Q) := by
    intro e' w' hg
    obtain ⟨ρ', a, b, c⟩ := hg
    rcases hx with ⟨v, rfl, rfl⟩ | ⟨ch, rfl, rfl⟩
    · cases b with | ret hv => exact hl.val v rfl ρ' _ w' a hv c
    · cases b with | pan hv => exact hl.pan ch rfl ρ' _ w' a hv c
  unfold NextUp at h
  split at h
  · exact key _ _ h
  · exact ⟨fun h => by simp [FW, Fence.wide] at h, CallsIn.to_FW (CallsIn.mono h fun e' w' hg => by have := key e' w' hg; cases e' <;> exact this)⟩
  · exact ⟨fun h => by simp [FW, Fence.wide] at h, RoundIn.to_FW (RoundIn.mono h fun e' w' hg => by have := key e' w' hg; cases e' <;> exact this)⟩
  · exact h.elim

theorem run_call {o : Oper} (g : Operand → Value) {c : Call} (ho : o.op = .call c) (w : World) {d : Deferred} (hr : (resolve g c o.type).run P w = .ok d w) :
    (execOp g o).run P w = (invoke d.target d.args).run P w := by
  simp only [execOp, ho, Sem.run_bind, hr, Result.andThen_ok]

theorem callOp_sound {ih : Fns} (hih : FnsSound P w0 ih) {ρ : Rmap} {S S' : St} {w : World} (hs : Sim P w0 ρ S w) {o : Oper} {f g : Operand → Value} {c : Call} (ho : o.op = .call c)
    (hev : ∀ x, x ∈ o.op.operands → VR ρ (f x) (g x)) {e : Ending} (h : callOp ih f c S = some (e, S')) : NextUp P (EndGood P w0 ρ e S') ((execOp g o).run P w) := by
  unfold callOp at h
  have hargs : (∀ x, x ∈ c.args → VR ρ (f x) (g x)) := by
    intro x hx
    refine hev x ?_
    rw [ho]
    cases hc : c.callee <;> simp [Op.operands, Call.operands, hc, hx]
  split at h
  · cases h
  · rename_i r name hc
    rw [run_call (P := P) g ho w (d := { target := .fn (.method name) #[], args := #[g r] ++ c.args.map g }) (by simp [resolve, hc])]
    refine hih.call _ _ _ _ _ h ρ w _ _ hs ⟨_, _, _, _, rfl, rfl, .method name rfl nil_all rfl nil_all⟩ ?_
    simp only [Array.toList_append, Array.toList_map]
    exact VRs.cons (hev r (by rw [ho]; simp [Op.operands, Call.operands, hc])) (VRs.mapOps _ fun x hx => hargs x (by simpa using hx))
  · rename_i fv hc
    split at h
    · rename_i fn first cap hf
      have hv := hev fv (by rw [ho]; simp [Op.operands, Call.operands, hc])
      rw [hf] at hv
      obtain ⟨fn', first', cap', hg, h1, h2⟩ := hv.func_inv
      rw [run_call (P := P) g ho w (d := { target := .fn fn' cap', args := first' ++ c.args.map g }) (by simp [resolve, hc, hg, Deferred.ofValue])]
      refine hih.call _ _ _ _ _ h ρ w _ _ hs ⟨_, _, _, _, rfl, rfl, h1⟩ ?_
      rw [Array.toList_append]
      exact h2.append (args_vr hargs)
    · cases h

theorem step_sound {ih : Fns} (hih : FnsSound P w0 ih) {ρ : Rmap} {S S' : St} {w : World} (hs : Sim P w0 ρ S w) {o : Oper} {f g : Operand → Value}
    (hev : ∀ x, x ∈ o.op.operands → VR ρ (f x) (g x)) {x : OpR} (h : stepOp P ih f o.op S = some (x, S')) {ar : Act} {next : Act → World → Prop} {Q : Exit → Act → World → Prop} {r : Option Nat}
    (hl : Leads P w0 ρ x S' o ar next Q) : o.uponIn (FW r) 0 P ar next Q ((o.semAt r g).run P w) := by
  have hd : ∀ c, o.op ≠ .defer c := by
    intro c hc
    rw [hc] at h
    simp [stepOp, kindOf, heavyOp] at h
  rw [Oper.semAt_eq _ _ _ hd]
  unfold stepOp at h
  split at h
  · split at h
    · rename_i v hv
      cases h
      obtain ⟨v', a, b⟩ := read_sound hs hev hv
      rw [a]
      exact hl.val v rfl ρ v' w (Ext.refl _) b hs
    · cases h
  · split at h
    · rename_i v S1 hv
      cases h
      exact upon_of_next (new_sound hs hev hv) hl
    · cases h
  · split at h
    · rename_i b args ts ho
      split at h
      · rename_i v S1 hv
        cases h
        exact upon_of_next (builtin_sound hs ho (fun y hy => hev y (by rw [ho]; simp [Op.operands, Call.operands]; exact hy)) hv) hl
      · cases h
    · rename_i c _ ho
      split at h
      · rename_i v S1 hv
        cases h
        exact upon_of_up (callOp_sound hih hs ho hev hv) (.inl ⟨_, rfl, rfl⟩) hl
      · rename_i ch S1 hv
        cases h
        exact upon_of_up (callOp_sound hih hs ho hev hv) (.inr ⟨_, rfl, rfl⟩) hl
      · cases h
    · rename_i y ho
      split at h
      · rename_i t v hy
        cases h
        have hv := hev y (by rw [ho]; simp [Op.operands])
        rw [hy] at hv
        generalize hg : g y = gy at hv
        cases hv with
        | iface _ hv' =>
          rename_i v'
          have e : (execOp g o).run P w = .halt (.panic (.iface t v')) w := by
            simp [execOp, ho, Instr.panic, hg]
          rw [e]
          exact hl.pan _ rfl ρ _ w (Ext.refl _) (.cons false false (.iface t hv') .nil) hs
      · cases h
    · split at h
      · rename_i v S1 hv
        cases h
        exact upon_of_next (heavy_sound hs hev hv) hl
      · cases h

end Go.Cm
