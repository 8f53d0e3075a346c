/-
  The evaluator of the model, and that it is sound: part 3.
-/
import Derived.TacticsIn
import Derived.Scope
import Derived.RangeFuncNested
import Derived.RecoverIn
import Derived.Test.YtnhalpkekpehpaaGreatDoorCm2
namespace Go.Cm
open Go
variable {P : Program} {w0 : Bn} {K : A1}
def FW (r : Option Nat) : Fence := { Fence.wide with round := r }
inductive IX (ρ : AF) : List PanicEntry → List PanicEntry → Prop
 | nil : IX ρ [] []
 | cons {v v' : Value} {l l' : List PanicEntry} (r g : Bool) (h : VR ρ v v') (k : IX ρ l l') : IX ρ (⟨v, r, g⟩ :: l) (⟨v', r, g⟩ :: l')
theorem IX.mono {ρ ρ' : AF} (e : Ext ρ ρ') {l l' : List PanicEntry} (h : IX ρ l l') : IX ρ' l l' := by
 induction h with
 | nil => exact .nil
 | cons r g h _ ih => exact .cons r g (h.mono e) ih
inductive W9 (ρ : AF) : Ending → Ending → Prop
 | ret {v v' : Value} (h : VR ρ v v') : W9 ρ (.returned v) (.returned v')
 | A6 {c c' : List PanicEntry} (h : IX ρ c c') : W9 ρ (.panicked c) (.panicked c')
inductive RH (ρ : AF) : Exit → Exit → Prop
 | normal : RH ρ .normal .normal
 | exit (id : Nat) : RH ρ (.exit id) (.exit id)
 | ret : RH ρ .ret .ret
 | A6 {c c' : List PanicEntry} (h : IX ρ c c') : RH ρ (.panic c) (.panic c')
def RM (ρ : AF) (t t' : Target) : Prop := ∃ fn Ik cap BD, t = .fn fn cap ∧ t' = .fn Ik BD ∧ VR ρ (.func fn #[] cap) (.func Ik #[] BD)
theorem RM.mono {ρ ρ' : AF} (e : Ext ρ ρ') {t t' : Target} (h : RM ρ t t') : RM ρ' t t' := by
 obtain ⟨a, b, c, d, x, y, z⟩ := h; exact ⟨a, b, c, d, x, y, z.mono e⟩
theorem MQ {ρ : AF} : ∀ (i : Nat) (v v' : Value), ([] : List Value)[i]? = some v → ([] : List Value)[i]? = some v' → VR ρ v v' := fun i v v' h => by simp at h
theorem VR.iH {ρ : AF} {fn : Fn} {first cap : Array Value} {x : Value} (h : VR ρ (.func fn first cap) x) :
  ∃ Ik H2 BD, x = .func Ik H2 BD ∧ VR ρ (.func fn #[] cap) (.func Ik #[] BD) ∧ AI ρ first.toList H2.toList := by
 cases h with
 | func f ha h hc k => exact ⟨_, _, _, rfl, .func f rfl MQ hc k, ha, h⟩
 | method f ha h hc k => exact ⟨_, _, _, rfl, .method f rfl MQ hc k, ha, h⟩
 | via t p f q ha h hc k => exact ⟨_, _, _, rfl, .via t p f q rfl MQ hc k, ha, h⟩
 | yield h => exact ⟨_, _, _, rfl, .yield h, AI.nil⟩
def PY (ρ : AF) (r r' : Option Nat) : Prop := (r = none ∧ r' = none) ∨ ∃ l L, r = some l ∧ ρ l = some L ∧ r' = some L.r
theorem PY.mono {ρ ρ' : AF} (e : Ext ρ ρ') {r r' : Option Nat} (h : PY ρ r r') : PY ρ' r r' := by
 rcases h with h | ⟨l, L, a, b, c⟩
 ·exact .inl h
 exact .inr ⟨l, L, a, e _ _ b, c⟩
def Kr (P : Program) (R : Ending → World → Prop) : Result Next → Prop
 | .ok (.value v) w => R (.returned v) w
 | .ok (.enter f args) w => CallsIn Fence.wide 0 P f args w R
 | .ok (.round l f tmps x y) w => RoundIn Fence.wide 0 P l f tmps x y w R
 | _ => False
def GQ (P : Program) (w0 : Bn) (ρ : AF) (e : Ending) (S' : St) : Ending → World → Prop := fun e' w' => ∃ ρ', Ext ρ ρ' ∧ W9 ρ' e e' ∧ AO P w0 ρ' S' w'
def Hr (P : Program) (w0 : Bn) (ρ : AF) (e : Exit) (a' : Ca) (S' : St) : Exit → Act → World → Prop := fun e' CQ w' => ∃ ρ', Ext ρ ρ' ∧ RH ρ' e e' ∧ CP ρ' a' CQ ∧ AO P w0 ρ' S' w'
theorem Hr.mono {ρ ρ1 : AF} (h : Ext ρ ρ1) {e : Exit} {a' : Ca} {S' : St} {e' : Exit} {CQ : Act} {w' : World} (k : Hr P w0 ρ1 e a' S' e' CQ w') : Hr P w0 ρ e a' S' e' CQ w' := by
 obtain ⟨r, a, b, c, d⟩ := k; exact ⟨r, h.trans a, b, c, d⟩
structure Eo (P : Program) (w0 : Bn) (ih : Bo) : Prop where
 call : ∀ t args S e S', ih.call t args S = some (e, S') → ∀ ρ w t' args', AO P w0 ρ S w → RM ρ t t' → AI ρ args args'.toList → Kr P (GQ P w0 ρ e S') ((invoke t' args').run P w)
 exec : ∀ ro c a S e a' S', ih.exec ro c a S = some (e, a', S') → ∀ ρ w ar ro', AO P w0 ρ S w → CP ρ a ar → PY ρ ro ro' → c.wpIn (FW ro') 0 P (Hr P w0 ρ e a' S') ar w
theorem Mo {r : Option Nat} {o : Oper} {w : World} {g : Operand → Value} : ∀ f, o.about P w g = some f → (FW r).fn f := fun _ _ => trivial
structure XF (P : Program) (w0 : Bn) (ρ : AF) (x : N8) (S' : St) (o : Oper) (ar : Act) (next : Act → World → Prop) (Q : Exit → Act → World → Prop) : Prop where
 val : ∀ v, x = .val v → ∀ ρ' v' w', Ext ρ ρ' → VR ρ' v v' → AO P w0 ρ' S' w' → next (ar.put o.dst v') w'
 A6 : ∀ c, x = .A6 c → ∀ ρ' c' w', Ext ρ ρ' → IX ρ' c c' → AO P w0 ρ' S' w' → Q (.panic c') ar w'
theorem dR {ρ : AF} {S' : St} {o : Oper} {ar : Act} {next : Act → World → Prop} {Q : Exit → Act → World → Prop} {r : Option Nat} {v : Value} {res : Result Next}
  (h : La P w0 ρ v S' res) (hl : XF P w0 ρ (.val v) S' o ar next Q) : o.uponIn (FW r) 0 P ar next Q res := by
 obtain ⟨ρ', v', w', hr, a, b, c⟩ := h
 rcases hr with rfl | ⟨rfl, rfl⟩
 ·exact hl.val v rfl ρ' v' w' a b c
 exact hl.val v rfl ρ' undef w' a b c
theorem CallsIn.UB {r : Option Nat} {f : FuncId} {args : Array Value} {w : World} {R : Ending → World → Prop} (h : CallsIn Fence.wide 0 P f args w R) : CallsIn (FW r) 0 P f args w R := h
theorem RoundIn.UB {r : Option Nat} {l : Nat} {f : FuncId} {tmps : Array Value} {x y : Code} {w : World} {R : Ending → World → Prop} (h : RoundIn Fence.wide 0 P l f tmps x y w R) : RoundIn (FW r) 0 P l f tmps x y w R := h
theorem o6 {ρ : AF} {S' : St} {o : Oper} {ar : Act} {next : Act → World → Prop} {Q : Exit → Act → World → Prop} {r : Option Nat} {e : Ending} {x : N8} {res : Result Next}
  (h : Kr P (GQ P w0 ρ e S') res) (hx : (∃ v, e = .returned v ∧ x = .val v) ∨ (∃ c, e = .panicked c ∧ x = .A6 c)) (hl : XF P w0 ρ x S' o ar next Q) : o.uponIn (FW r) 0 P ar next Q res := by
 have key : ∀ e' w', GQ P w0 ρ e S' e' w' → (match e' with
   | .returned v => next (ar.put o.dst v) w'
   | .panicked chain => Q (.panic chain) ar w'
   | .outgrown => LetsOut Q) := by
  intro e' w' hg
  obtain ⟨ρ', a, b, c⟩ := hg
  rcases hx with ⟨v, rfl, rfl⟩ | ⟨ch, rfl, rfl⟩
  ·cases b with | ret hv => exact hl.val v rfl ρ' _ w' a hv c
  cases b with | A6 hv => exact hl.A6 ch rfl ρ' _ w' a hv c
 unfold Kr at h
 split at h
 ·exact key _ _ h
 ·exact ⟨fun h => by simp [FW, Fence.wide] at h, CallsIn.UB (CallsIn.mono h fun e' w' hg => by have := key e' w' hg; cases e' <;> exact this)⟩
 ·exact ⟨fun h => by simp [FW, Fence.wide] at h, RoundIn.UB (RoundIn.mono h fun e' w' hg => by have := key e' w' hg; cases e' <;> exact this)⟩
 exact h.elim
theorem nQ {o : Oper} (g : Operand → Value) {c : Call} (ho : o.op = .call c) (w : World) {d : Deferred} (hr : (resolve g c o.type).run P w = .ok d w) :
  (execOp g o).run P w = (invoke d.target d.args).run P w := by
 simp only [execOp, ho, Sem.run_bind, hr, Result.andThen_ok]
theorem fV {ih : Bo} (Ao : Eo P w0 ih) {ρ : AF} {S S' : St} {w : World} (hs : AO P w0 ρ S w) {o : Oper} {f g : Operand → Value} {c : Call} (ho : o.op = .call c)
  (Aa : ∀ x, x ∈ o.op.operands → VR ρ (f x) (g x)) {e : Ending} (h : Kw ih f c S = some (e, S')) : Kr P (GQ P w0 ρ e S') ((execOp g o).run P w) := by
 unfold Kw at h
 have P' : (∀ x, x ∈ c.args → VR ρ (f x) (g x)) := by
  intro x hx
  refine Aa x ?_
  rw [ho]
  cases hc : c.callee <;> simp [Op.operands, Call.operands, hc, hx]
 split at h
 ·cases h
 ·rename_i r name hc
  rw [nQ (P := P) g ho w (d := { target := .fn (.method name) #[], args := #[g r] ++ c.args.map g }) (by simp [resolve, hc])]
  refine Ao.call _ _ _ _ _ h ρ w _ _ hs ⟨_, _, _, _, rfl, rfl, .method name rfl MQ rfl MQ⟩ ?_
  simp only [Array.toList_append, Array.toList_map]
  exact AI.cons (Aa r (by rw [ho]; simp [Op.operands, Call.operands, hc])) (AI.Ng _ fun x hx => P' x (by simpa using hx))
 rename_i fv hc
 split at h
 ·rename_i fn first cap hf
  have hv := Aa fv (by rw [ho]; simp [Op.operands, Call.operands, hc])
  rw [hf] at hv
  obtain ⟨Ik, H2, BD, hg, h1, h2⟩ := hv.iH
  rw [nQ (P := P) g ho w (d := { target := .fn Ik BD, args := H2 ++ c.args.map g }) (by simp [resolve, hc, hg, Deferred.ofValue])]
  refine Ao.call _ _ _ _ _ h ρ w _ _ hs ⟨_, _, _, _, rfl, rfl, h1⟩ ?_
  rw [Array.toList_append]
  exact h2.append (ep P')
 cases h
theorem Q8 {ih : Bo} (Ao : Eo P w0 ih) {ρ : AF} {S S' : St} {w : World} (hs : AO P w0 ρ S w) {o : Oper} {f g : Operand → Value}
  (Aa : ∀ x, x ∈ o.op.operands → VR ρ (f x) (g x)) {x : N8} (h : CF P ih f o.op S = some (x, S')) {ar : Act} {next : Act → World → Prop} {Q : Exit → Act → World → Prop} {r : Option Nat}
  (hl : XF P w0 ρ x S' o ar next Q) : o.uponIn (FW r) 0 P ar next Q ((o.semAt r g).run P w) := by
 have hd : ∀ c, o.op ≠ .defer c := by
  intro c hc
  rw [hc] at h
  simp [CF, kindOf, JW] at h
 rw [Oper.semAt_eq _ _ _ hd]
 unfold CF at h
 split at h
 ·split at h
  ·rename_i v hv
   cases h
   obtain ⟨v', a, b⟩ := m6 hs Aa hv
   rw [a]
   exact hl.val v rfl ρ v' w (Ext.refl _) b hs
  cases h
 ·split at h
  ·rename_i v S1 hv
   cases h
   exact dR (ll hs Aa hv) hl
  cases h
 split at h
 ·rename_i b args ts ho
  split at h
  ·rename_i v S1 hv
   cases h
   exact dR (fN hs ho (fun y hy => Aa y (by rw [ho]; simp [Op.operands, Call.operands]; exact hy)) hv) hl
  cases h
 ·rename_i c _ ho
  split at h
  ·rename_i v S1 hv
   cases h
   exact o6 (fV Ao hs ho Aa hv) (.inl ⟨_, rfl, rfl⟩) hl
  ·rename_i ch S1 hv
   cases h
   exact o6 (fV Ao hs ho Aa hv) (.inr ⟨_, rfl, rfl⟩) hl
  cases h
 ·rename_i y ho
  split at h
  ·rename_i t v hy
   cases h
   have hv := Aa y (by rw [ho]; simp [Op.operands])
   rw [hy] at hv
   generalize hg : g y = gy at hv
   cases hv with
   | iface _ F0 =>
    rename_i v'
    have e : (execOp g o).run P w = .halt (.panic (.iface t v')) w := by
     simp [execOp, ho, Instr.panic, hg]
    rw [e]
    exact hl.A6 _ rfl ρ _ w (Ext.refl _) (.cons false false (.iface t F0) .nil) hs
  cases h
 split at h
 ·rename_i v S1 hv
  cases h
  exact dR (jN hs Aa hv) hl
 cases h
def Ml (P : Program) (o : Oper) : Prop := ∀ x, x ∈ o.op.operands → (match x with
    | .const v => DM Lu v
    | .global g => Nat.blt g P.globals.size
    | _ => true) = true
theorem RZ {l : List Oper} (h : DZ P l = true) : ∀ o, o ∈ l → Ml P o := by
 intro o ho x hx
 unfold DZ at h
 rw [List.all_eq_true] at h
 have h1 := h o ho
 rw [List.all_eq_true] at h1
 exact h1 x (by simpa using hx)
theorem CP.DE {ρ : AF} {S : St} {w : World} (hs : AO P w0 ρ S w) {a : Ca} {ar : Act} (h : CP ρ a ar) {o : Oper} (hc : Ml P o) : ∀ x, x ∈ o.op.operands → VR ρ (a.ev x) (ar.eval x) :=
 fun x hx => tb hs h (hc x hx)
theorem bX {ih : Bo} (Ao : Eo P w0 ih) {ops : Array Oper} {ro : Option Nat} {e : Exit} {a1 : Ca} {S1 : St} {Q : Exit → Act → World → Prop} :
  ∀ (rest : List Oper) (a : Ca) (S : St), E1 P ih ops.toList rest a S = some (e, a1, S1) → (∀ o, o ∈ rest → Ml P o) → ∀ (ρ : AF) (w : World) (ar : Act), AO P w0 ρ S w → CP ρ a ar →
   (∀ e' CQ w', Hr P w0 ρ e a1 S1 e' CQ w' → Q e' CQ w') → wpListIn (FW ro) 0 P ops Q rest ar w
 | [], a, S, h, _, ρ, w, ar, hs, ha, hQ => by
  simp only [E1, Option.some.injEq, Prod.mk.injEq] at h
  obtain ⟨rfl, rfl, rfl⟩ := h
  exact hQ _ _ _ ⟨ρ, Ext.refl _, .normal, ha, hs⟩
 | o :: rest, a, S, h, hc, ρ, w, ar, hs, ha, hQ => by
  unfold E1 at h
  have Zc := UF ha (ops := ops) (o := o)
  unfold wpListIn
  rw [← Zc]
  cases hw : CY ops.toList a o with
  | false =>
   rw [hw] at h
   simp only [cond_false] at h
   split at h
   ·rename_i a2 hp
    simp only [Bool.false_eq_true, if_false]
    exact ⟨Mo, bX Ao rest a2 S h (fun o ho => hc o (by simp [ho])) ρ w _ hs (ha.put hp (VR.undef _)) hQ⟩
   cases h
  | true =>
   rw [hw] at h
   simp only [cond_true] at h
   simp only [if_true]
   refine ⟨Mo, ?_⟩
   split at h
   ·rename_i v S2 Ag
    split at h
    ·rename_i a2 hp
     refine Q8 Ao hs (ha.DE hs (hc o (by simp))) Ag ⟨?_, ?_⟩
     ·intro v2 e2 ρ' v' w' h1 h2 h3
      cases e2
      exact bX Ao rest a2 S2 h (fun o ho => hc o (by simp [ho])) ρ' w' _ h3 ((ha.mono h1).put hp h2) (fun e' CQ w' hg => hQ _ _ _ (hg.mono h1))
     intro c e2; cases e2
    cases h
   ·rename_i ch S2 Ag
    simp only [Option.some.injEq, Prod.mk.injEq] at h
    obtain ⟨rfl, rfl, rfl⟩ := h
    refine Q8 Ao hs (ha.DE hs (hc o (by simp))) Ag ⟨?_, ?_⟩
    ·intro v2 e2; cases e2
    intro c e2 ρ' c' w' h1 h2 h3
    cases e2
    exact hQ _ _ _ ⟨ρ', h1, .A6 h2, ha.mono h1, h3⟩
   cases h
theorem ABm {ih : Bo} (Ao : Eo P w0 ih) {id : Nat} {ops : Array Oper} {ro : Option Nat} {e : Exit} {a a1 : Ca} {S S1 : St} (h : E1 P ih ops.toList ops.toList a S = some (e, a1, S1)) (hc : DZ P ops.toList = true)
  {ρ : AF} {w : World} {ar : Act} (hs : AO P w0 ρ S w) (ha : CP ρ a ar) : (Code.region id ops false).wpIn (FW ro) 0 P (Hr P w0 ρ e a1 S1) ar w :=
 wpIn_region_list (bX Ao ops.toList a S h (RZ hc) ρ w ar hs ha fun _ _ _ h => h)
section
variable {F : Fence} {n : Nat} {b : Frame} {a : Act} {k : List Item} {cs : List Frame} {w : World} {Q : Exit → Act → World → Prop}
theorem Q6 {c : Code} : step P (lone (b.atR a (.code (.scope c) :: k)) cs w) = .next (lone (b.atR a (.code c :: .inScope c :: k)) cs w) :=
 step_lone_go (by simp [stepG, stepG.exec, Frame.atR])
theorem AEW {c : Code} : step P (lone (b.atR a (.inScope c :: k)) cs w) = .next (lone (b.atR a k) cs w) :=
 step_lone_go (by simp [stepG, stepG.exec, Frame.atR])
theorem AFD {c : Code} (h : c.wpIn F n P (Exit.noGoto Q) a w) : (Code.scope c).wpIn F n P Q a w := by
 intro b k cs Gk hb hr
 have h0 : (lone (b.atR a (.code (.scope c) :: k)) cs w).fenced P F := fenced_calm hb hr rfl
 obtain ⟨e, a₁, w₁, hq, NF⟩ := h b (.inScope c :: k) cs Gk hb hr
 cases e with
 | normal => exact ⟨.normal, a₁, w₁, hq, .head h0 Q6 (StepsIn.trans NF (.one (fenced_calm hb hr rfl) AEW))⟩
 | exit id =>
  have hx : exitTo id (.inScope c :: k) = exitTo id k := by simp [exitTo]
  exact ⟨_, a₁, w₁, hq, fun k' hk => .head h0 Q6 (NF.1 k' (by rw [hx]; exact hk)),
   fun EL hk => let ⟨k₁, h1, h2⟩ := NF.2 EL (by rw [hx]; exact hk); ⟨k₁, h1, .head h0 Q6 h2⟩⟩
 | goto l => exact hq.elim
 | ret => exact ⟨_, a₁, w₁, hq, .of_steps (.one h0 Q6) NF⟩
 | panic ch => exact ⟨_, a₁, w₁, hq, .of_steps (.one h0 Q6) NF⟩
 | outgrown => exact ⟨_, a₁, w₁, hq, .of_steps (.one h0 Q6) NF⟩
end
def dt (P : Program) (w0 : Bn) (ih : Bo) : Prop :=
 ∀ (id : Nat) (ops : Array Oper) (a : Ca) (S : St) (e : Exit) (a1 : Ca) (S1 : St), Nw P ih ops.toList a S = some (e, a1, S1) → DZ P ops.toList = true →
  ∀ (ro : Option Nat) (ρ : AF) (w : World) (ar : Act), AO P w0 ρ S w → CP ρ a ar → (Code.region id ops true).wpIn (FW ro) 0 P (Hr P w0 ρ e a1 S1) ar w
def eB (P : Program) (w0 : Bn) (ih : Bo) : Prop :=
 ∀ (ro : Option Nat) (g : Operand) (ps : Array Tmp) (x y : Code) (a : Ca) (S : St) (e : Exit) (a1 : Ca) (S1 : St), Aq P ih ro (.rangeFunc g ps x y) a S = some (e, a1, S1) →
  ∀ (ρ : AF) (w : World) (ar : Act) (ro' : Option Nat), AO P w0 ρ S w → CP ρ a ar → PY ρ ro ro' → (Code.rangeFunc g ps x y).wpIn (FW ro') 0 P (Hr P w0 ρ e a1 S1) ar w
theorem Xd {ρ : AF} {a : Ca} {ar : Act} (h : CP ρ a ar) {c : Operand} {t : Bool} (hc : a.ev c = .bool t) : ar.eval c = .bool t := by
 cases c with
 | tmp i =>
  have hv := h.get i
  have FV : a.get i = .bool t := hc
  rw [FV] at hv
  show ar.tmps.getD i undef = .bool t
  generalize ar.tmps.getD i undef = u at hv
  cases hv; rfl
 | const v => exact hc
 | global g => cases hc
 | func f => cases hc
theorem ti {n : Nat} (Dm : ∀ m, m ≤ n → Eo P w0 (fns P K m)) (hd : dt P w0 (fns P K n)) (hr : eB P w0 (fns P K n)) :
  ∀ ro c a S e a' S', Aq P (fns P K n) ro c a S = some (e, a', S') → ∀ ρ w ar ro', AO P w0 ρ S w → CP ρ a ar → PY ρ ro ro' → c.wpIn (FW ro') 0 P (Hr P w0 ρ e a' S') ar w := by
 intro ro c a S e a1 S1 h ρ w ar ro' hs ha Gk
 have Ao := Dm n (Nat.le_refl _)
 cases c with
 | skip =>
  simp only [Aq, Option.some.injEq, Prod.mk.injEq] at h
  obtain ⟨rfl, rfl, rfl⟩ := h
  exact wpIn_skip ⟨ρ, Ext.refl _, .normal, ha, hs⟩
 | label l =>
  simp only [Aq, Option.some.injEq, Prod.mk.injEq] at h
  obtain ⟨rfl, rfl, rfl⟩ := h
  exact wpIn_label ⟨ρ, Ext.refl _, .normal, ha, hs⟩
 | exit id =>
  simp only [Aq, Option.some.injEq, Prod.mk.injEq] at h
  obtain ⟨rfl, rfl, rfl⟩ := h
  exact wpIn_exit ⟨ρ, Ext.refl _, .exit id, ha, hs⟩
 | ret =>
  simp only [Aq, Option.some.injEq, Prod.mk.injEq] at h
  obtain ⟨rfl, rfl, rfl⟩ := h
  exact wpIn_ret ⟨ρ, Ext.refl _, .ret, ha, hs⟩
 | region id ops draw =>
  simp only [Aq] at h
  cases hc : DZ P ops.toList with
  | false => rw [hc] at h; cases h
  | true =>
   rw [hc] at h
   cases draw with
   | false => exact ABm Ao h hc hs ha
   | true => exact hd id ops a S e a1 S1 h hc ro' ρ w ar hs ha
 | seq x y =>
  simp only [Aq] at h
  refine wpIn_seq ?_
  split at h
  ·rename_i a2 S2 hx
   refine wpIn_mono (Ao.exec _ _ _ _ _ _ _ hx ρ w ar ro' hs ha Gk) ?_
   rintro e2 DB w2 ⟨ρ2, h1, h2, h3, h4⟩
   cases h2
   exact wpIn_mono (Ao.exec _ _ _ _ _ _ _ h ρ2 w2 DB ro' h4 h3 (Gk.mono h1)) fun _ _ _ hg => hg.mono h1
  rename_i AR
  refine wpIn_mono (Ao.exec _ _ _ _ _ _ _ h ρ w ar ro' hs ha Gk) ?_
  rintro e2 DB w2 ⟨ρ2, h1, h2, h3, h4⟩
  cases h2 with
  | normal => exact absurd h (AR _ _)
  | exit id => exact ⟨ρ2, h1, .exit id, h3, h4⟩
  | ret => exact ⟨ρ2, h1, .ret, h3, h4⟩
  | A6 hp => exact ⟨ρ2, h1, .A6 hp, h3, h4⟩
 | cond c x y =>
  simp only [Aq] at h
  split at h
  ·rename_i t hc
   refine wpIn_cond (Xd ha hc) ?_
   cases t <;> exact Ao.exec _ _ _ _ _ _ _ h ρ w ar ro' hs ha Gk
  cases h
 | block id c =>
  simp only [Aq] at h
  refine wpIn_block ?_
  split at h
  ·rename_i j a2 S2 hx
   refine wpIn_mono (Ao.exec _ _ _ _ _ _ _ hx ρ w ar ro' hs ha Gk) ?_
   rintro e2 DB w2 ⟨ρ2, h1, h2, h3, h4⟩
   cases h2
   unfold Exit.inBlock
   cases hj : Nat.beq j id with
   | true =>
    rw [hj] at h
    simp only [cond_true, Option.some.injEq, Prod.mk.injEq] at h
    obtain ⟨rfl, rfl, rfl⟩ := h
    have : j = id := Nat.eq_of_beq_eq_true hj
    simp only [this, if_true]
    exact ⟨ρ2, h1, .normal, h3, h4⟩
   | false =>
    rw [hj] at h
    simp only [cond_false, Option.some.injEq, Prod.mk.injEq] at h
    obtain ⟨rfl, rfl, rfl⟩ := h
    have : j ≠ id := Nat.ne_of_beq_eq_false hj
    simp only [this, if_false]
    exact ⟨ρ2, h1, .exit j, h3, h4⟩
  rename_i AR
  refine wpIn_mono (Ao.exec _ _ _ _ _ _ _ h ρ w ar ro' hs ha Gk) ?_
  rintro e2 DB w2 ⟨ρ2, h1, h2, h3, h4⟩
  cases h2 with
  | normal => exact ⟨ρ2, h1, .normal, h3, h4⟩
  | exit id => exact absurd h (AR _ _ _)
  | ret => exact ⟨ρ2, h1, .ret, h3, h4⟩
  | A6 hp => exact ⟨ρ2, h1, .A6 hp, h3, h4⟩
 | loop c =>
  refine wpIn_loop_ghost (fun m ar w => m ≤ n ∧ ∃ a S ρ1, Ext ρ ρ1 ∧ Aq P (fns P K m) ro (.loop c) a S = some (e, a1, S1) ∧ AO P w0 ρ1 S w ∧ CP ρ1 a ar) n ⟨Nat.le_refl _, a, S, ρ, Ext.refl _, h, hs, ha⟩ ?_
  rintro m ar w ⟨hm, a, S, ρ1, GG, h, hs, ha⟩
  have Ao := Dm m hm
  have j6 := Gk.mono GG
  simp only [Aq] at h
  split at h
  ·rename_i a2 S2 hx
   refine wpIn_mono (Ao.exec _ _ _ _ _ _ _ hx ρ1 w ar ro' hs ha j6) ?_
   rintro e2 DB w2 ⟨ρ2, h1, h2, h3, h4⟩
   cases h2
   cases m with
   | zero => cases h
   | succ m => exact ⟨m, Nat.lt_succ_self _, by omega, a2, S2, ρ2, GG.trans h1, h, h4, h3⟩
  rename_i AR
  refine wpIn_mono (Ao.exec _ _ _ _ _ _ _ h ρ1 w ar ro' hs ha j6) ?_
  rintro e2 DB w2 ⟨ρ2, h1, h2, h3, h4⟩
  cases h2 with
  | normal => exact absurd h (AR _ _)
  | exit id => exact ⟨ρ2, GG.trans h1, .exit id, h3, h4⟩
  | ret => exact ⟨ρ2, GG.trans h1, .ret, h3, h4⟩
  | A6 hp => exact ⟨ρ2, GG.trans h1, .A6 hp, h3, h4⟩
 | scope c =>
  simp only [Aq] at h
  refine AFD ?_
  split at h
  ·cases h
  refine wpIn_mono (Ao.exec _ _ _ _ _ _ _ h ρ w ar ro' hs ha Gk) ?_
  rintro e2 DB w2 ⟨ρ2, h1, h2, h3, h4⟩
  cases h2 with
  | normal => exact ⟨ρ2, h1, .normal, h3, h4⟩
  | exit id => exact ⟨ρ2, h1, .exit id, h3, h4⟩
  | ret => exact ⟨ρ2, h1, .ret, h3, h4⟩
  | A6 hp => exact ⟨ρ2, h1, .A6 hp, h3, h4⟩
 | rangeFunc g ps x y => exact hr ro g ps x y a S e a1 S1 h ρ w ar ro' hs ha Gk
 | goto l => cases h
 | refuse r => cases h
theorem dX {w : World} {r : Nat} {o o' : Obj} (h : w.heap[r]? = some o) : J2 r o' w (w.putObj r o') := by
 have AJ : r < w.heap.size := (Array.getElem?_eq_some_iff.1 h).1
 refine ⟨fun k hk => ?_, ?_, ?_, rfl, rfl⟩
 ·simp only [World.putObj]
  rw [Array.getElem?_setIfInBounds, if_neg (fun e => hk e.symm)]
 ·simp [World.putObj, AJ]
 simp [World.putObj]
theorem O3 {S : St} {l : Nat} {st : LoopState} {p : Option Code} {n : Nat} {t : Tm} {ps : List Tmp} {x y : Code} {d : Nat} (h : EN S l = some (st, p, n, t, ps, x, y, d)) : S.get l = some (.loop st p n t ps x y d) := by
 unfold EN at h
 split at h
 ·rename_i hg
  simp only [Option.some.injEq, Prod.mk.injEq] at h
  obtain ⟨rfl, rfl, rfl, rfl, rfl, rfl, rfl, rfl⟩ := h
  exact hg
 cases h
theorem AO.Ta {ρ : AF} {S : St} {w : World} (hs : AO P w0 ρ S w) {l : Nat} {L : Loc} (hl : ρ l = some L) {st st' : LoopState} {p p' : Option Code} {n : Nat} {t : Tm} {ps : List Tmp} {x y : Code} {d : Nat}
  (hB : S.get l = some (.loop st p n t ps x y d)) : ∃ (r : Loop), w.heap[L.r]? = some (.loop r) ∧ r.state = st ∧ r.pending = p ∧
   AO P w0 ρ (S.set l (.loop st' p' n t ps x y d)) (w.putObj L.r (.loop { r with state := st', pending := p' })) := by
 obtain ⟨fn, tmps, D, h1, h2, h3⟩ := hs.CR _ _ _ hl hB
 refine ⟨_, h1, rfl, rfl, ?_⟩
 have := AO.put hs (B' := .loop st' p' n t ps x y d) hl hB rfl (dX h1 (o' := .loop { state := st', pending := p', fn := fn, tmps := tmps, params := ps.toArray, assign := x, body := y, defers := D.r })) ⟨fn, tmps, D, rfl, h2, h3⟩
 exact this
theorem Xc {fn : Fn} (h : J4 P fn = true) (cap args : Array Value) (w : World) : ∃ f, fn = .func f ∧ (invoke (.fn fn cap) args).run P w = .ok (.enter f (args ++ cap)) w := by
 unfold J4 at h
 split at h
 ·rename_i f
  split at h
  ·rename_i F hF
   simp only [Bool.and_eq_true, Bool.not_eq_true'] at h
   refine ⟨f, rfl, ?_⟩
   have h1 : F.name ≠ "runtime.NumGoroutine" := by simpa using h.1
   have hb : F.body ≠ none := by
    intro hb; rw [hb] at h; simp at h
   simp [invoke, callFunc, hF, h1, hb]
  cases h
 cases h
theorem ml {ih : Bo} (Ao : Eo P w0 ih) {ro' : Option Nat} {g : Operand} {ps : Array Tmp} {x y : Code} {a a1 : Ca} {S S1 : St} {e : Exit} {ρ ρ1 : AF} {w1 : World} {ar : Act} {f0 : FuncId} {d : Nat} {D : Loc} {mark mark' : List Deferred}
  {fn Ik : Fn} {first cap H2 BD : Array Value} (hx : Ext ρ ρ1) (hs : AO P w0 ρ1 S w1) (ha : CP ρ1 a ar) (hd : ρ1 d = some D) (hm : Ho ρ1 mark mark') (hg : ar.eval g = .func Ik H2 BD)
  (hf : VR ρ1 (.func fn #[] cap) (.func Ik #[] BD)) (hv : AI ρ1 first.toList H2.toList) (hb : J4 P fn = true)
  (h : (match S.new (.loop .ready none a.n a.t ps.toList x y d) with
    | (l, S2) => match ih.call (.fn fn cap) (first.toList ++ [.func (.yield l) #[] #[]]) S2 with
     | some (.returned _, S3) => match EN S3 l with
      | some (st, p, n, t, ps, x, y, d) => bif (st == LoopState.busy) then none else
       match { a with defers := mark ++ a.defers }, S3.set l (.loop .exhausted p n t ps x y d) with
       | a', S4 => match p with
        | none => some (Exit.normal, a', S4)
        | some .ret => some (.ret, a', S4)
        | some (.exit id) => some (.exit id, a', S4)
        | _ => none
      | none => none
     | some (.panicked ch, S3) => some (.panic ch, { a with defers := mark ++ a.defers }, S3)
     | _ => none) = some (e, a1, S1)) :
  ∃ (d' : Deferred) (w₁' : World) (f : FuncId) (args : Array Value) (w₂ : World),
   (resolve ar.eval (rangeCall g w1.heap.size) 0).run P (w1.alloc (.loop { state := .ready, pending := none, fn := f0, tmps := ar.tmps, params := ps, assign := x, body := y, defers := D.r })) = .ok d' w₁' ∧
   (invoke d'.target d'.args).run P w₁' = .ok (.enter f args) w₂ ∧
   CallsIn (FW ro') 0 P f args w₂ (rangePost (FW ro') 0 P w1.heap.size (Hr P w0 ρ e a1 S1) { ar with defers := mark' ++ ar.defers }) := by
 obtain ⟨DU, DI⟩ := hs.add (B := .loop .ready none a.n a.t ps.toList x y d) (o := .loop { state := .ready, pending := none, fn := f0, tmps := ar.tmps, params := ps, assign := x, body := y, defers := D.r }) (L := ⟨w1.heap.size, 0, 0, 0⟩) rfl
  ⟨f0, ar.tmps, D, rfl, ha.tm.mono (M1 _ (by
   cases hx : ρ1 S.size with
   | none => rfl
   | some M => exact absurd (hs.DC _ _ hx).1 (Nat.lt_irrefl _))), M1 _ (by
   cases hx : ρ1 S.size with
   | none => rfl
   | some M => exact absurd (hs.DC _ _ hx).1 (Nat.lt_irrefl _)) _ _ hd⟩
 generalize KP : w1.alloc (.loop { state := .ready, pending := none, fn := f0, tmps := ar.tmps, params := ps, assign := x, body := y, defers := D.r }) = w2 at DI ⊢
 generalize hρ2 : BB ρ1 S.size ⟨w1.heap.size, 0, 0, 0⟩ = ρ2 at DU DI
 have Bu : ρ2 S.size = some ⟨w1.heap.size, 0, 0, 0⟩ := by rw [← hρ2]; exact JB _ _ _
 simp only [St.new] at h
 have SO : ∃ f, fn = .func f ∧ Ik = .func f := by
  obtain ⟨f, e1, _⟩ := Xc hb #[] #[] w1
  subst e1
  cases hf with
  | func f _ _ _ _ => exact ⟨f, rfl, rfl⟩
 obtain ⟨f, rfl, rfl⟩ := SO
 refine ⟨{ target := .fn (.func f) BD, args := H2 ++ #[.func (.yield w1.heap.size) #[] #[]] }, w2, f, (H2 ++ #[.func (.yield w1.heap.size) #[] #[]]) ++ BD, w2, ?_, ?_, ?_⟩
 ·have e1 : ar.eval (.const (.func (.yield w1.heap.size) #[] #[])) = .func (.yield w1.heap.size) #[] #[] := rfl
  simp [resolve, hg, Deferred.ofValue, e1]
 ·obtain ⟨f', e1, e2⟩ := Xc hb BD (H2 ++ #[.func (.yield w1.heap.size) #[] #[]]) w2
  cases e1
  exact e2
 have key : ∀ E S3, ih.call (.fn (.func f) cap) (first.toList ++ [.func (.yield S.size) #[] #[]]) ⟨S.heap.set S.size (some (.loop .ready none a.n a.t ps.toList x y d)), S.size + 1⟩ = some (E, S3) →
   CallsIn Fence.wide 0 P f ((H2 ++ #[.func (.yield w1.heap.size) #[] #[]]) ++ BD) w2 (GQ P w0 ρ2 E S3) := by
  intro E S3 HX
  have := Ao.call _ _ _ _ _ HX ρ2 w2 (.fn (.func f) BD) (H2 ++ #[.func (.yield w1.heap.size) #[] #[]]) DI ⟨_, _, _, _, rfl, rfl, hf.mono DU⟩ (by
   rw [Array.toList_append]
   exact (hv.mono DU).append (AI.cons (.yield Bu) AI.nil))
  obtain ⟨f', e1, e2⟩ := Xc hb BD (H2 ++ #[.func (.yield w1.heap.size) #[] #[]]) w2
  cases e1
  rw [e2] at this
  exact this
 split at h
 ·rename_i v S3 HX
  refine CallsIn.UB (CallsIn.mono (key _ _ HX) ?_)
  rintro e' w3 ⟨ρ3, h1, h2, h3⟩
  cases h2 with
  | ret Na =>
   split at h
   ·rename_i st p n t Ke x2 y2 d2 FG
    have hB := O3 FG
    obtain ⟨r, hr, Ag, hp, Oo⟩ := AO.Ta (st' := .exhausted) (p' := p) h3 (h1 _ _ Bu) hB
    cases VM : (st == LoopState.busy) with
    | true => rw [VM] at h; cases h
    | false =>
     rw [VM] at h
     simp only [cond_false] at h
     have NU : r.state ≠ .busy := by
      rw [Ag]; intro e; rw [e] at VM; exact absurd VM (by decide)
     have QD := run_endLoop (P := P) hr NU
     rw [hp] at QD
     have L5 : CP ρ3 { a with defers := mark ++ a.defers } { ar with defers := mark' ++ ar.defers } :=
      ⟨ha.le, (ha.tm.mono DU).mono h1, ((hm.mono DU).mono h1).append ((ha.df.mono DU).mono h1)⟩
     have MJ : Ext ρ ρ3 := hx.trans (DU.trans h1)
     refine ⟨p, _, QD, ?_⟩
     split at h
     ·simp only [Option.some.injEq, Prod.mk.injEq] at h
      obtain ⟨rfl, rfl, rfl⟩ := h
      exact ⟨ρ3, MJ, .normal, L5, Oo⟩
     ·simp only [Option.some.injEq, Prod.mk.injEq] at h
      obtain ⟨rfl, rfl, rfl⟩ := h
      exact wpIn_ret ⟨ρ3, MJ, .ret, L5, Oo⟩
     ·simp only [Option.some.injEq, Prod.mk.injEq] at h
      obtain ⟨rfl, rfl, rfl⟩ := h
      exact wpIn_exit ⟨ρ3, MJ, .exit _, L5, Oo⟩
     cases h
   cases h
 ·rename_i ch S3 HX
  simp only [Option.some.injEq, Prod.mk.injEq] at h
  obtain ⟨rfl, rfl, rfl⟩ := h
  refine CallsIn.UB (CallsIn.mono (key _ _ HX) ?_)
  rintro e' w3 ⟨ρ3, h1, h2, h3⟩
  cases h2 with
  | A6 hp => exact ⟨ρ3, hx.trans (DU.trans h1), .A6 hp, ⟨ha.le, (ha.tm.mono DU).mono h1, ((hm.mono DU).mono h1).append ((ha.df.mono DU).mono h1)⟩, h3⟩
 cases h
theorem ABG {ih : Bo} (Ao : Eo P w0 ih) : eB P w0 ih := by
 intro ro g ps x y a S e a1 S1 h ρ w ar ro' hs ha Gk
 simp only [Aq] at h
 split at h
 ·rename_i fn first cap Aa
  cases hc : (isConst g || !J4 P fn) with
  | true => rw [hc] at h; cases h
  | false =>
   rw [hc] at h
   simp only [cond_false] at h
   rw [Bool.or_eq_false_iff] at hc
   have hb : J4 P fn = true := by simpa using hc.2
   have hv : VR ρ (a.ev g) (ar.eval g) := by
    cases g with
    | tmp t => exact ha.get t
    | const v => exact absurd hc.1 (by simp [isConst])
    | global k => cases Aa
    | func f => exact (Flat.func f).refl ρ
   rw [Aa] at hv
   obtain ⟨Ik, H2, BD, Ey, h1, h2⟩ := hv.iH
   refine wpIn_rangeFunc fun f0 _ => ?_
   rcases Gk with ⟨rfl, rfl⟩ | ⟨l, L, rfl, hl, rfl⟩
   ·simp only [St.new] at h
    obtain ⟨GG, DO⟩ := hs.add (B := .defs false) (o := .deferred (some [])) (L := ⟨w.heap.size, 0, 0, 0⟩) rfl rfl
    have hd : BB ρ S.size ⟨w.heap.size, 0, 0, 0⟩ S.size = some ⟨w.heap.size, 0, 0, 0⟩ := JB _ _ _
    obtain ⟨d', dW, f, args, w2, r1, r2, r3⟩ := ml (ro' := none) (f0 := f0) (mark' := [{ target := .collected w.heap.size, args := #[] }]) Ao GG DO (ha.mono GG) hd (.cons (.inl ⟨_, _, rfl, hd, rfl⟩) .nil) Ey (h1.mono GG) (h2.mono GG) hb h
    refine ⟨_, _, _, d', dW, f, args, w2, run_enterLoop_outer _ _ _ _ _, ?_, fun _ _ => trivial, r2, fun h => by simp [FW, Fence.wide] at h, ?_⟩
    ·rw [World.size_alloc] at r1
     exact r1
    rw [World.size_alloc] at r3
    exact r3
   simp only at h
   cases FG : EN S l with
   | none => rw [FG] at h; cases h
   | some q =>
    obtain ⟨st, p, n, t, Ke, x2, y2, d⟩ := q
    rw [FG] at h
    simp only at h
    obtain ⟨fn2, AGI, D, q1, q2, q3⟩ := hs.CR _ _ _ hl (O3 FG)
    obtain ⟨d', dW, f, args, w2, r1, r2, r3⟩ := ml (ro' := some L.r) (f0 := f0) (mark' := []) Ao (Ext.refl ρ) hs ha q3 .nil Ey h1 h2 hb h
    exact ⟨_, _, _, d', dW, f, args, w2, run_enterLoop_inner q1 _ _ _ _ _, r1, fun _ _ => trivial, r2, fun h => by simp [FW, Fence.wide] at h, r3⟩
 cases h
theorem od {F : Fence} {fn : Func} {tmps : Array Value} {R : Ending → World → Prop} {u : FrameMode} (hu : u ≠ .run) {ρ : AF} {S2 : St} (Yt : ∀ w2, AO P w0 ρ S2 w2 → LeavesIn F 0 P fn tmps R [] u w2) :
  ∀ (ds : List Deferred) (S : St) (Lr : List Deferred) (w : World), Fj ds S = some S2 → Ho ρ ds Lr → AO P w0 ρ S w → LeavesInM F 0 P fn tmps R Lr u w := by
 intro ds
 induction ds with
 | nil =>
  intro S Lr w h hd hs
  cases hd
  simp only [Fj, Option.some.injEq] at h
  subst h
  exact Yt w hs
 | cons d ds ih =>
  intro S Lr w h hd hs
  cases hd with
  | cons h1 h2 =>
   rename_i d' l'
   obtain ⟨tg, as⟩ := d
   rcases h1 with ⟨r, L, hr, hL, EL⟩ | ⟨f, cap, BD, hr, _⟩
   case inr =>
    simp only at hr
    subst hr
    simp only [Fj] at h
    cases h
   simp only at hr
   subst hr
   simp only [Fj] at h
   split at h
   ·rename_i hB
    have hh : w.heap[L.r]? = some (.deferred (some [])) := hs.CR _ _ _ hL hB
    have hp := AO.put hs (B' := .defs true) hL hB rfl (dX hh (o' := .deferred none)) rfl
    exact ⟨hu, .inl ⟨L.r, _, EL, run_takeDeferred hh, ih _ _ _ h h2 hp⟩⟩
   cases h
theorem ABr {ρ : AF} {S : St} {w : World} (hs : AO P w0 ρ S w) {a : Ca} {ar : Act} (ha : CP ρ a ar) : ∀ (rs : List ResultVar) (vs : List Value), Dq P a S rs = some vs →
  ∃ CU, (rs.mapM (m := Sem) fun | .tmp t => pure (ar.tmps.getD t undef) | .cell x t => do loadVar t (← asAddr (ar.tmps.getD x undef))).run P w = .ok CU w ∧ AI ρ vs CU := by
 intro rs
 induction rs with
 | nil => intro vs h; simp only [Dq, Option.some.injEq] at h; subst h; exact ⟨[], by simp, AI.nil⟩
 | cons r rs ih =>
  intro vs h
  cases r with
  | tmp x =>
   simp only [Dq] at h
   split at h
   ·rename_i l hl
    cases h
    obtain ⟨CU, p, q⟩ := ih l hl
    exact ⟨ar.tmps.getD x undef :: CU, by simp only [List.mapM_cons, Sem.run_bind, Sem.run_pure, Result.andThen_ok, p], AI.cons (ha.get x) q⟩
   cases h
  | cell x e =>
   simp only [Dq] at h
   split at h
   ·rename_i v l hv hl
    cases h
    obtain ⟨CU, p, q⟩ := ih l hl
    obtain ⟨v', p1, q1⟩ := Zz hs hv (ha.get x)
    refine ⟨v' :: CU, ?_, AI.cons q1 q⟩
    have hp : ∃ ad, ar.tmps.getD x undef = .pointer (some ad) := by
     have hx := ha.get x
     unfold DJ at hv
     split at hv
     ·rename_i b o hb
      rw [hb] at hx
      generalize ar.tmps.getD x undef = u at hx
      cases hx with
      | ptr _ => exact ⟨_, rfl⟩
     cases hv
    obtain ⟨ad, hp⟩ := hp
    rw [hp] at p1
    have p2 : (loadVar e ad).run P w = .ok v' w := by simpa [Instr.loadAt, Instr.sureAddr] using p1
    have p3 : (asAddr (.pointer (some ad))).run P w = .ok ad w := by simp [asAddr]
    simp only [List.mapM_cons, Sem.run_bind, Sem.run_pure, hp, p3, p2, Result.andThen_ok, p]
   cases h
def XB (P : Program) (K : A1) : Prop :=
 ∀ (w0 : Bn) f args v fn S S', K.ext f args S = some (v, S') → P.funcs[f]? = some fn → fn.body = none → ∀ (ρ : AF) (w : World) (args' : Array Value), AO P w0 ρ S w → AI ρ args args'.toList →
  ∃ ρ' v' w', (callFunc f args').run P w = .ok (.value v') w' ∧ Ext ρ ρ' ∧ VR ρ' v v' ∧ AO P w0 ρ' S' w'
structure Kept (W w : World) : Prop where
 size : W.heap.size ≤ w.heap.size
 old : ∀ i, i < W.heap.size → w.heap[i]? = W.heap[i]?
 os : w.os = W.os
 out : w.output = W.output
theorem Kept.refl (W : World) : Kept W W := ⟨Nat.le_refl _, fun _ _ => rfl, rfl, rfl⟩
theorem Kept.trans {a b c : World} (h : Kept a b) (k : Kept b c) : Kept a c :=
 ⟨Nat.le_trans h.size k.size, fun i hi => (k.old i (Nat.lt_of_lt_of_le hi h.size)).trans (h.old i hi), k.os.trans h.os, k.out.trans h.out⟩
theorem AO.kept {ρ : AF} {S : St} {w : World} (h : AO P w0 ρ S w) : Kept w0.toWorld w := ⟨h.size, h.old, h.os, h.out⟩
theorem AO.later {ρ : AF} {S : St} {w w' : World} (h : AO P w0 ρ S w) (k : Kept w w') : AO P w0 ρ S w' := by
 refine ⟨Nat.le_trans h.size k.size, fun i hi => (k.old i (Nat.lt_of_lt_of_le hi h.size)).trans (h.old i hi), k.os.trans h.os, k.out.trans h.out, fun b L hb => ⟨(h.DC b L hb).1, Nat.lt_of_lt_of_le (h.DC b L hb).2 k.size⟩, fun b L B hb hB => ?_, h.own, h.J', h.no⟩
 rw [k.old _ (h.DC b L hb).2]
 exact h.CR b L B hb hB
structure N6 (P : Program) (K : A1) (W : World) : Prop where
 ext : XB P K
 call : ∀ f args S v, K.call f args S = some v → (∀ ρ : AF, VR ρ v v) ∧ ∃ fn c, P.funcs[f]? = some fn ∧ fn.body = some c ∧ (fn.name == "runtime.NumGoroutine") = false ∧
  ∀ (w0 : Bn) (ρ : AF) (w : World) (args' : Array Value), w0.toWorld = W → AO P w0 ρ S w → AI ρ args args'.toList → Calls P f args' w fun e w' => e = .returned v ∧ Kept w w'
theorem Qt {f : FuncId} {fn : Func} {c : Code} (hf : P.funcs[f]? = some fn) (hb : fn.body = some c) (hn : (fn.name == "runtime.NumGoroutine") = false) (args : Array Value) (w : World) :
  (callFunc f args).run P w = .ok (.enter f args) w := by
 have h1 : fn.name ≠ "runtime.NumGoroutine" := by simpa using hn
 simp [callFunc, hf, h1, hb]
theorem AAA {w : World} {rs : List ResultVar} {vs : List Value} (g g' : ResultVar → Sem Value) (h1 : ∀ t, g (.tmp t) = g' (.tmp t)) (h2 : ∀ x t, g (.cell x t) = g' (.cell x t))
  (h : (rs.mapM g').run P w = .ok vs w) : (rs.mapM g).run P w = .ok vs w := by
 have : g = g' := by
  funext x
  cases x with
  | tmp t => exact h1 t
  | cell x t => exact h2 x t
 rw [this]; exact h
theorem bQ {ρ : AF} {S : St} {w : World} (hs : AO P w0 ρ S w) {a : Ca} {ar : Act} (ha : CP ρ a ar) {fn : Func} {vs : List Value} (h : Dq P a S fn.results.toList = some vs) :
  ∃ CU : List Value, AI ρ vs CU ∧ (results fn ar.tmps).run P w = .ok (if h : CU.toArray.size = 1 then CU.toArray[0] else .tuple CU.toArray) w := by
 obtain ⟨CU, p, q⟩ := ABr hs ha _ _ h
 refine ⟨CU, q, ?_⟩
 unfold results
 rw [Array.mapM_eq_mapM_toList, Sem.run_bind, Sem.run_map]
 have key : ∀ r : Result (List Value), r = .ok CU w → ((r.andThen fun a w' => .ok a.toArray w').andThen fun a w' => Sem.run P (pure (if h : a.size = 1 then a[0] else Value.tuple a)) w') =
   .ok (if h : CU.toArray.size = 1 then CU.toArray[0] else .tuple CU.toArray) w := by
  rintro _ rfl
  simp only [Result.andThen_ok, Sem.run_pure]
 exact key _ (AAA _ _ (fun _ => rfl) (fun _ _ => rfl) p)
theorem km {fn : Func} {a1 : Ca} {S1 S' : St} {e : Ending} (h : (match Fj a1.defers S1 with
    | some Ks => match Dq P a1 Ks fn.results.toList with
     | some [v] => some (Ending.returned v, Ks)
     | some vs => some (.returned (.tuple vs.toArray), Ks)
     | none => none
    | none => none) = some (e, S')) {ρ ρ2 : AF} (h1 : Ext ρ ρ2) {ar : Act} {w2 : World} (h3 : CP ρ2 a1 ar) (h4 : AO P w0 ρ2 S1 w2) :
  LeavesInM Fence.wide 0 P fn ar.tmps (GQ P w0 ρ e S') ar.defers .returning w2 := by
 split at h
 ·rename_i S2 Ou
  have key : ∀ vs, Dq P a1 S2 fn.results.toList = some vs → S2 = S' → e = .returned (match vs with | [v] => v | vs => .tuple vs.toArray) →
    LeavesInM Fence.wide 0 P fn ar.tmps (GQ P w0 ρ e S') ar.defers .returning w2 := by
   intro vs F1 hS he
   refine od (ρ := ρ2) (S2 := S2) (by simp) (fun w3 QR => ?_) a1.defers S1 ar.defers w2 Ou h3.df h4
   obtain ⟨CU, hv, hr⟩ := bQ QR h3 F1
   refine ⟨_, hr, ρ2, h1, ?_, by rw [← hS]; exact QR⟩
   rw [he]
   have hl := hv.1
   match vs, CU, hv, hl with
   | [v], [v'], hv, _ => simp only [List.size_toArray, List.length_singleton, dite_true]; exact .ret hv.head
   | [], [], hv, _ => exact .ret (VR.tuple' hv)
   | v :: u :: r, v' :: u' :: r', hv, _ => simp only [List.size_toArray, List.length_cons, Nat.add_eq_right]; exact .ret (VR.tuple' hv)
   | [], _ :: _, _, hl => simp at hl
   | _ :: _, [], _, hl => simp at hl
   | [_], _ :: _ :: _, _, hl => simp at hl
   | _ :: _ :: _, [_], _, hl => simp at hl
  split at h
  ·rename_i v F1
   simp only [Option.some.injEq, Prod.mk.injEq] at h
   exact key _ F1 h.2 h.1.symm
  ·rename_i vs AR F1
   simp only [Option.some.injEq, Prod.mk.injEq] at h
   refine key _ F1 h.2 ?_
   rw [← h.1]
   match vs, AR with
   | [v], AR => exact absurd rfl (AR v)
   | [], _ => rfl
   | _ :: _ :: _, _ => rfl
  cases h
 cases h
theorem AAF (a b : Nat) : DK a b = max a b := by
 unfold DK
 cases h : Nat.ble a b with
 | true => have := Nat.le_of_ble_eq_true h; simp only [cond_true]; omega
 | false =>
  have : ¬ a ≤ b := fun e => by rw [Nat.ble_eq_true_of_le e] at h; cases h
  simp only [cond_false]; omega
theorem Xw {ρ : AF} {args : List Value} {args' : Array Value} (hv : AI ρ args args'.toList) {n : Nat} (hn : DK n args.length ≤ 256) :
  CP ρ { n := DK n args.length, t := PT.ofList 0 (PT.nil 8) args, defers := [] } { tmps := args' ++ Array.replicate (n - args'.size) undef, defers := [] } := by
 have hl : args.length = args'.size := by have := hv.1; simpa using this
 have hm := AAF n args.length
 refine ⟨hn, ⟨by simp only [Array.size_append, Array.size_replicate]; omega, fun i => ?_⟩, .nil⟩
 have hg : M6 (PT.ofList 0 (PT.nil 8) args) i = (args[i]?).getD undef := by
  unfold M6
  rw [PT.YL args 0 _ i (by omega)]
  by_cases h : i < args.length
  ·rw [if_pos (by omega)]
   simp [h]
  rw [if_neg (by omega), PT.get_nil]
  simp [List.getElem?_eq_none (Nat.le_of_not_lt h)]
 rw [hg, Array.getD_eq_getD_getElem?]
 by_cases h : i < args.length
 ·obtain ⟨v', h1, h2⟩ := hv.get (List.getElem?_eq_getElem h)
  rw [Array.getElem?_append_left (by omega), ← Array.getElem?_toList, h1, List.getElem?_eq_getElem h]
  exact h2
 rw [List.getElem?_eq_none (Nat.le_of_not_lt h), Array.getElem?_append_right (by omega)]
 have : ((Array.replicate (n - args'.size) undef)[i - args'.size]?).getD undef = undef := by
  rw [Array.getElem?_replicate]; split <;> rfl
 rw [this]
 exact VR.undef ρ
theorem tV {ih : Bo} (Ao : Eo P w0 ih) (hK : XB P K) {f : FuncId} {args : List Value} {S S' : St} {e : Ending} (h : Lt P K ih f args S = some (e, S'))
  {ρ : AF} {w : World} {args' : Array Value} (hs : AO P w0 ρ S w) (hv : AI ρ args args'.toList) : Kr P (GQ P w0 ρ e S') ((callFunc f args').run P w) := by
 unfold Lt at h
 split at h
 ·rename_i fn hf
  split at h
  ·rename_i c hb
   cases hc : ((fn.name == "runtime.NumGoroutine") || Nat.blt 256 (DK fn.ntmps args.length)) with
   | true => rw [hc] at h; cases h
   | false =>
    rw [hc] at h
    simp only [cond_false] at h
    rw [Bool.or_eq_false_iff] at hc
    rw [Qt hf hb hc.1]
    have hle : DK fn.ntmps args.length ≤ 256 := by
     have := hc.2
     rw [PT.FQ] at this
     simpa using this
    show CallsIn Fence.wide 0 P f args' w (GQ P w0 ρ e S')
    split at h
    ·rename_i e1 a1 S1 hx
     refine callsIn_of_wp_marks hf hb trivial ?_
     refine wpIn_mono (Ao.exec none c _ _ _ _ _ hx ρ w _ none hs (Xw hv hle) (.inl ⟨rfl, rfl⟩)) ?_
     rintro e2 DB w2 ⟨ρ2, h1, h2, h3, h4⟩
     cases h2 with
     | normal => exact km h h1 h3 h4
     | ret => exact km h h1 h3 h4
     | exit id => cases h
     | A6 hp =>
      simp only at h
      split at h
      ·rename_i S2 Ou
       simp only [Option.some.injEq, Prod.mk.injEq] at h
       obtain ⟨rfl, rfl⟩ := h
       exact od (ρ := ρ2) (S2 := S2) (by simp) (fun w3 QR => by exact ⟨ρ2, h1, .A6 hp, QR⟩) a1.defers S1 DB.defers w2 Ou h3.df h4
      cases h
    cases h
  rename_i hb
  split at h
  ·rename_i v S1 hk
   simp only [Option.some.injEq, Prod.mk.injEq] at h
   obtain ⟨rfl, rfl⟩ := h
   obtain ⟨ρ', v', w', a, b, c, d⟩ := hK w0 f args v fn S _ hk hf hb ρ w args' hs hv
   rw [a]
   exact ⟨ρ', b, .ret c, d⟩
  cases h
 cases h
inductive D1 (ρ : AF) : Mode → FrameMode → Prop
 | ret : D1 ρ .ret .returning
 | A6 {c c' : List PanicEntry} (h : IX ρ c c') : D1 ρ (.A6 c) (.panicking c')
theorem D1.mono {ρ ρ' : AF} (e : Ext ρ ρ') {m : Mode} {u : FrameMode} (h : D1 ρ m u) : D1 ρ' m u := by
 cases h with
 | ret => exact .ret
 | A6 h => exact .A6 (h.mono e)
theorem D1.ne {ρ : AF} {m : Mode} {u : FrameMode} (h : D1 ρ m u) : u ≠ .run := by
 cases h <;> (intro h; cases h)
theorem IX.drop {ρ : AF} {c c' : List PanicEntry} (h : IX ρ c c') : IX ρ (c.dropWhile (!·.goexit)) (c'.dropWhile (!·.goexit)) := by
 induction h with
 | nil => exact .nil
 | cons r g h k ih =>
  cases g with
  | true => exact .cons r true h k
  | false => exact ih
theorem D1.settle {ρ : AF} {m : Mode} {u : FrameMode} (h : D1 ρ m u) : D1 ρ (Wc m) (settle u) := by
 cases h with
 | ret => exact .ret
 | A6 h =>
  cases h with
  | nil => exact .A6 .nil
  | cons r g h k =>
   cases r with
   | false => exact .A6 (.cons false g h k)
   | true =>
    have hd := k.drop
    simp only [Wc, Go.settle]
    revert hd
    generalize List.dropWhile _ _ = a
    generalize List.dropWhile _ _ = b
    intro hd
    cases hd with
    | nil => exact .ret
    | cons r g h k => exact .A6 (.cons r g h k)
theorem D1.recover {ρ : AF} {m : Mode} {u : FrameMode} (h : D1 ρ m u) (c : Frame) (cs : List Frame) :
  (∃ v' u', recoverD ({ c with mode := u } :: cs) = some (v', { c with mode := u' } :: cs) ∧ VR ρ (MZ m).1 v' ∧ D1 ρ (MZ m).2 u') ∨
  (recoverD ({ c with mode := u } :: cs) = none ∧ (MZ m).1 = .nilIface ∧ D1 ρ (MZ m).2 u) := by
 cases h with
 | ret => exact .inr ⟨rfl, rfl, .ret⟩
 | A6 h =>
  cases h with
  | nil => exact .inr ⟨rfl, rfl, .A6 .nil⟩
  | cons r g h k =>
   cases r <;> cases g
   ·exact .inl ⟨_, _, rfl, h, .A6 (.cons true false h k)⟩
   ·exact .inr ⟨rfl, rfl, .A6 (.cons false true h k)⟩
   ·exact .inr ⟨rfl, rfl, .A6 (.cons true false h k)⟩
   exact .inr ⟨rfl, rfl, .A6 (.cons true true h k)⟩
theorem AEV {ρ : AF} {S S' : St} {w : World} (hs : AO P w0 ρ S w) {o : Oper} {f g : Operand → Value} (Aa : ∀ x, x ∈ o.op.operands → VR ρ (f x) (g x)) {v : Value} (h : Q5 P f o.op S = some (v, S')) :
  La P w0 ρ v S' ((execOp g o).run P w) := by
 unfold Q5 at h
 split at h
 ·split at h
  ·rename_i v hv
   cases h
   obtain ⟨v', a, b⟩ := m6 hs Aa hv
   exact ⟨ρ, v', w, .inl a, Ext.refl _, b, hs⟩
  cases h
 ·exact ll hs Aa h
 split at h
 ·cases h
 ·cases h
 ·cases h
 exact jN hs Aa h
theorem yi {o : Oper} (h : isRec o = true) (g : Operand → Value) (w : World) : (execOp g o).run P w = .ok .recover w := by
 unfold isRec at h
 split at h
 ·rename_i c hc
  split at h
  ·rename_i hb
   obtain ⟨cal, as, ts⟩ := c
   simp only at hb
   subst hb
   obtain ⟨cs, e⟩ := bY (P := P) g hc w
   rw [e]
   simp [builtin]
  cases h
 cases h
theorem ABF (ops : Array Oper) : (List.range ops.size).map (fun i => ops[i]?) = ops.toList.map some := by
 apply List.ext_getElem?
 intro i
 simp only [List.getElem?_map, Array.getElem?_toList]
 by_cases h : i < ops.size
 ·simp [h]
 rw [List.getElem?_eq_none (by simpa using h), Array.getElem?_eq_none (by simpa using h)]; rfl
theorem Qr {ops : Array Oper} {a1 : Ca} {S1 : St} {m1 : Mode} {c0 : Frame} {cs : List Frame} {ρ0 : AF} {Q : Exit → Act → List Frame → World → Prop}
  (hQ : ∀ ρ' CQ u' w', Ext ρ0 ρ' → CP ρ' a1 CQ → AO P w0 ρ' S1 w' → D1 ρ' m1 u' → Q .normal CQ ({ c0 with mode := u' } :: cs) w') :
  ∀ (rest : List Oper) (idx : List Nat), idx.map (fun i => ops[i]?) = rest.map some → ∀ (a : Ca) (S : St) (m : Mode), I' P ops.toList rest a S m = some (a1, S1, m1) → (∀ o, o ∈ rest → Ml P o) →
   ∀ (ρ : AF) (w : World) (ar : Act) (u : FrameMode), Ext ρ0 ρ → AO P w0 ρ S w → CP ρ a ar → D1 ρ m u → wpOpsSIn Fence.wide 0 P ops Q idx ar ({ c0 with mode := u } :: cs) w
 | [], idx, hi, a, S, m, h, _, ρ, w, ar, u, hx, hs, ha, hm => by
  simp only [I', Option.some.injEq, Prod.mk.injEq] at h
  obtain ⟨rfl, rfl, rfl⟩ := h
  have : idx = [] := by simpa using hi
  subst this
  exact hQ ρ ar u w hx ha hs hm
 | o :: rest, [], hi, a, S, m, h, _, ρ, w, ar, u, hx, hs, ha, hm => by simp at hi
 | o :: rest, i :: idx, hi, a, S, m, h, hc, ρ, w, ar, u, hx, hs, ha, hm => by
  simp only [List.map_cons, List.cons.injEq] at hi
  obtain ⟨hi, Dn⟩ := hi
  have FV : ∀ o, o ∈ rest → Ml P o := fun o ho => hc o (by simp [ho])
  unfold I' at h
  unfold wpOpsSIn
  simp only [hi]
  refine ⟨fun _ _ => trivial, ?_⟩
  rw [← UF ha (ops := ops) (o := o)]
  cases hw : CY ops.toList a o with
  | false =>
   rw [hw] at h
   simp only [cond_false] at h
   simp only [Bool.false_eq_true, if_false]
   split at h
   ·rename_i a2 hp
    exact Qr hQ rest idx Dn a2 S m h FV ρ w _ u hx hs (ha.put hp (VR.undef _)) hm
   cases h
  | true =>
   rw [hw] at h
   simp only [cond_true] at h
   simp only [if_true]
   cases hr : isRec o with
   | true =>
    rw [hr] at h
    simp only [cond_true] at h
    rw [yi hr]
    simp only
    split at h
    ·rename_i a2 hp
     rcases hm.recover c0 cs with ⟨v', u', e1, e2, e3⟩ | ⟨e1, e2, e3⟩
     ·rw [e1]
      simp only
      exact Qr hQ rest idx Dn a2 S _ h FV ρ w _ u' hx hs (ha.put hp e2) e3
     rw [e1]
     simp only
     refine Qr hQ rest idx Dn a2 S _ h FV ρ w _ u hx hs (ha.put hp ?_) e3
     rw [e2]; exact .nilIface
    cases h
   | false =>
    rw [hr] at h
    simp only [cond_false] at h
    split at h
    ·rename_i v S2 Ag
     split at h
     ·rename_i a2 hp
      obtain ⟨ρ', v', w', e1, e2, e3, e4⟩ := AEV hs (ha.DE hs (hc o (by simp))) Ag
      rcases e1 with e1 | ⟨e1, rfl⟩
      ·rw [e1]
       simp only
       exact Qr hQ rest idx Dn a2 S2 m h FV ρ' w' _ u (hx.trans e2) e4 ((ha.mono e2).put hp e3) (hm.mono e2)
      rw [e1]
      simp only
      exact Qr hQ rest idx Dn a2 S2 m h FV ρ' w' _ u (hx.trans e2) e4 ((ha.mono e2).put hp e3) (hm.mono e2)
     cases h
    cases h
def pf (P : Program) (w0 : Bn) (ρ : AF) (c0 : Frame) (cs : List Frame) (e : Exit) (a1 : Ca) (S1 : St) (m1 : Mode) : Exit → Act → List Frame → World → Prop := fun e' CQ J9 w' =>
 ∃ ρ' u', Ext ρ ρ' ∧ e' = e ∧ (e = .normal ∨ e = .ret) ∧ CP ρ' a1 CQ ∧ AO P w0 ρ' S1 w' ∧ D1 ρ' m1 u' ∧ J9 = { c0 with mode := u' } :: cs
theorem W3 {F : Fence} {n : Nat} {c : Code} {Q R : Exit → Act → List Frame → World → Prop} {a : Act} {cs : List Frame} {w : World} (h : c.wpSIn F n P Q a cs w) (k : ∀ e a cs w, Q e a cs w → R e a cs w) : c.wpSIn F n P R a cs w :=
 fun b i hb hr hF Vc => let ⟨e, a', J9, w', hl, hq, NF⟩ := h b i hb hr hF Vc; ⟨e, a', J9, w', hl, k _ _ _ _ hq, NF⟩
theorem Ro {ih : Bo} (Ao : Eo P w0 ih) {c0 : Frame} {cs : List Frame} : ∀ (n : Nat) (code : Code) (a : Ca) (S : St) (m : Mode) (e : Exit) (a1 : Ca) (S1 : St) (m1 : Mode), Gz P ih n code a S m = some (e, a1, S1, m1) →
  ∀ (ρ : AF) (w : World) (ar : Act) (u : FrameMode), AO P w0 ρ S w → CP ρ a ar → D1 ρ m u → code.wpSIn Fence.wide 0 P (pf P w0 ρ c0 cs e a1 S1 m1) ar ({ c0 with mode := u } :: cs) w
 | 0, _, _, _, _, _, _, _, _, h, _, _, _, _, _, _, _ => by cases h
 | n + 1, code, a, S, m, e, a1, S1, m1, h, ρ, w, ar, u, hs, ha, hm => by
  unfold Gz at h
  split at h
  ·simp only [Option.some.injEq, Prod.mk.injEq] at h
   obtain ⟨rfl, rfl, rfl, rfl⟩ := h
   exact wpSIn_of_wpIn rfl (wpIn_skip ⟨ρ, u, Ext.refl _, rfl, .inl rfl, ha, hs, hm, rfl⟩)
  ·simp only [Option.some.injEq, Prod.mk.injEq] at h
   obtain ⟨rfl, rfl, rfl, rfl⟩ := h
   exact wpSIn_of_wpIn rfl (wpIn_ret ⟨ρ, u, Ext.refl _, rfl, .inr rfl, ha, hs, hm, rfl⟩)
  ·rename_i id ops
   cases hc : (!DZ P ops.toList) with
   | true => rw [hc] at h; cases h
   | false =>
    rw [hc] at h
    simp only [cond_false] at h
    simp only [Bool.not_eq_false'] at hc
    split at h
    ·rename_i a2 S2 m2 hr
     simp only [Option.some.injEq, Prod.mk.injEq] at h
     obtain ⟨rfl, rfl, rfl, rfl⟩ := h
     exact wpSIn_region (Qr (ρ0 := ρ) (fun ρ' CQ u' w' h1 h2 h3 h4 => ⟨ρ', u', h1, rfl, .inl rfl, h2, h3, h4, rfl⟩) ops.toList _ (ABF ops) a S m hr (RZ hc) ρ w ar u (Ext.refl _) hs ha hm)
    cases h
  ·rename_i x y
   refine wpSIn_seq ?_
   split at h
   ·rename_i a2 S2 m2 hx
    refine W3 (Ro Ao n x a S m _ _ _ _ hx ρ w ar u hs ha hm) ?_
    rintro e2 DB Hy w2 ⟨ρ2, u2, h1, rfl, _, h3, h4, h5, rfl⟩
    refine W3 (Ro Ao n y a2 S2 m2 _ _ _ _ h ρ2 w2 DB u2 h4 h3 h5) ?_
    rintro e3 ar3 Po w3 ⟨ρ3, u3, k1, k2, k3, k4, k5, k6, k7⟩
    exact ⟨ρ3, u3, h1.trans k1, k2, k3, k4, k5, k6, k7⟩
   rename_i AR
   refine W3 (Ro Ao n x a S m _ _ _ _ h ρ w ar u hs ha hm) ?_
   rintro e2 DB Hy w2 ⟨ρ2, u2, h1, rfl, h2, h3, h4, h5, rfl⟩
   rcases h2 with rfl | rfl
   ·exact absurd h (AR _ _ _)
   exact ⟨ρ2, u2, h1, rfl, .inr rfl, h3, h4, h5, rfl⟩
  ·rename_i c x y
   split at h
   ·rename_i t hc
    refine wpSIn_cond (Xd ha hc) ?_
    cases t <;> exact Ro Ao n _ a S m _ _ _ _ h ρ w ar u hs ha hm
   cases h
  split at h
  ·rename_i a2 S2 hx
   simp only [Option.some.injEq, Prod.mk.injEq] at h
   obtain ⟨rfl, rfl, rfl, rfl⟩ := h
   refine wpSIn_of_wpIn rfl (wpIn_mono (Ao.exec none _ _ _ _ _ _ hx ρ w ar none hs ha (.inl ⟨rfl, rfl⟩)) ?_)
   rintro e2 DB w2 ⟨ρ2, h1, h2, h3, h4⟩
   cases h2
   exact ⟨ρ2, u, h1, rfl, .inl rfl, h3, h4, hm.mono h1, rfl⟩
  cases h
theorem uI (c : Frame) {u : FrameMode} (h : c.mode = u) : ({ c with mode := u } : Frame) = c := by subst h; rfl
theorem sS {ih : Bo} (Ao : Eo P w0 ih) {f : FuncId} {args : List Value} {args' : Array Value} {m m1 : Mode} {S S1 : St} (h : Ms P ih f args m S = some (m1, S1)) {ρ : AF} {w : World} {u : FrameMode} (hs : AO P w0 ρ S w) (hv : AI ρ args args'.toList)
  (hm : D1 ρ m u) : (callFunc f args').run P w = .ok (.enter f args') w ∧
   CallsDIn Fence.wide 0 P f args' u w fun e u' w' => ∃ v ρ', e = .returned v ∧ Ext ρ ρ' ∧ D1 ρ' m1 u' ∧ AO P w0 ρ' S1 w' := by
 unfold Ms at h
 split at h
 ·rename_i fn hf
  split at h
  ·rename_i c hb
   cases hc : ((fn.name == "runtime.NumGoroutine") || Nat.blt 256 (DK fn.ntmps args.length)) with
   | true => rw [hc] at h; cases h
   | false =>
    rw [hc] at h
    simp only [cond_false] at h
    rw [Bool.or_eq_false_iff] at hc
    have hle : DK fn.ntmps args.length ≤ 256 := by
     have := hc.2
     rw [PT.FQ] at this
     simpa using this
    refine ⟨Qt hf hb hc.1 args' w, callsDIn_of_wpSIn hf hb trivial fun c0 cs HW => ?_⟩
    split at h
    ·rename_i e1 a1 S2 m2 hx
     have := Ro (P := P) (w0 := w0) Ao (c0 := c0) (cs := cs) 1000 c _ _ _ _ _ _ _ hx ρ w _ u hs (Xw hv hle) hm
     rw [uI c0 HW] at this
     refine W3 this ?_
     rintro e2 DB Hy w2 ⟨ρ2, u2, h1, rfl, h2, h3, h4, h5, rfl⟩
     have fin : (match a1.defers, Dq P a1 S2 fn.results.toList with
      | [], some _ => some (m2, S2)
      | _, _ => none) = some (m1, S1) → bodyPostS P fn c0 cs (fun e u' w' => ∃ v ρ', e = .returned v ∧ Ext ρ ρ' ∧ D1 ρ' m1 u' ∧ AO P w0 ρ' S1 w') .normal DB ({ c0 with mode := u2 } :: cs) w2 := by
      intro h
      split at h
      ·rename_i vs hd hr
       simp only [Option.some.injEq, Prod.mk.injEq] at h
       obtain ⟨rfl, rfl⟩ := h
       obtain ⟨CU, _, QM⟩ := bQ h4 h3 hr
       have Fy := h3.df
       rw [hd] at Fy
       refine ⟨by generalize DB.defers = x at Fy; cases Fy; rfl, u2, rfl, _, QM, _, ρ2, rfl, h1, h5, h4⟩
      cases h
     rcases h2 with rfl | rfl
     ·exact fin h
     exact fin h
    cases h
  cases h
 cases h
theorem zT {ih : Bo} (Ao : Eo P w0 ih) {fn : Func} {tmps : Array Value} {R : Ending → World → Prop} {S2 : St} {m2 : Mode} {ρ0 : AF}
  (Yt : ∀ ρ2 u2 w2, Ext ρ0 ρ2 → D1 ρ2 m2 u2 → AO P w0 ρ2 S2 w2 → LeavesIn Fence.wide 0 P fn tmps R [] u2 w2) :
  ∀ (ds : List Deferred) (m : Mode) (S : St) (Lr : List Deferred) (u : FrameMode) (ρ : AF) (w : World), GH P ih ds m S = some (m2, S2) → Ext ρ0 ρ → Ho ρ ds Lr → D1 ρ m u → AO P w0 ρ S w → LeavesInM Fence.wide 0 P fn tmps R Lr u w := by
 intro ds
 induction ds with
 | nil =>
  intro m S Lr u ρ w h hx hd hm hs
  cases hd
  simp only [GH, Option.some.injEq, Prod.mk.injEq] at h
  obtain ⟨rfl, rfl⟩ := h
  exact Yt ρ u w hx hm hs
 | cons d ds ih =>
  intro m S Lr u ρ w h hx hd hm hs
  cases hd with
  | cons h1 h2 =>
   rename_i d' l'
   simp only [GH] at h
   rcases h1 with ⟨r, L, hr, hL, EL⟩ | ⟨f, cap, BD, hr, EL, SL, P'⟩
   ·rw [hr] at h
    simp only at h
    split at h
    ·rename_i hB
     have hh : w.heap[L.r]? = some (.deferred (some [])) := hs.CR _ _ _ hL hB
     have hp := AO.put hs (B' := .defs true) hL hB rfl (dX hh (o' := .deferred none)) rfl
     exact ⟨hm.ne, .inl ⟨L.r, _, EL, run_takeDeferred hh, ih _ _ _ _ _ _ h hx h2 hm hp⟩⟩
    cases h
   rw [hr] at h
   simp only at h
   split at h
   ·rename_i m3 S3 vY
    obtain ⟨c1, c2⟩ := sS Ao (args' := d'.args ++ BD) vY hs (by rw [Array.toList_append]; exact P'.append SL) hm
    refine ⟨hm.ne, .inr ⟨fun h => by simp [Fence.wide] at h, .func f, BD, f, d'.args ++ BD, EL, ?_, fun _ _ => trivial, ?_⟩⟩
    ·rw [EL]; exact c1
    refine CallsDIn.mono c2 ?_
    rintro e u' w' ⟨v, ρ', rfl, k1, k2, k3⟩
    exact ih _ _ _ _ ρ' w' h (hx.trans k1) (h2.mono k1) k2.settle k3
   cases h
theorem tT {fn : Func} {a1 : Ca} {m2 : Mode} {S2 S' : St} {e : Ending} (h : K2 P a1 fn.results.toList (some (m2, S2)) = some (e, S')) {ρ ρ2 : AF} (h1 : Ext ρ ρ2) {ar : Act} {w2 : World} {u2 : FrameMode} (h3 : CP ρ2 a1 ar)
  (hm : D1 ρ2 m2 u2) (h4 : AO P w0 ρ2 S2 w2) : LeavesIn Fence.wide 0 P fn ar.tmps (GQ P w0 ρ e S') [] u2 w2 := by
 cases hm with
 | A6 hp =>
  simp only [K2, Option.some.injEq, Prod.mk.injEq] at h
  obtain ⟨rfl, rfl⟩ := h
  exact ⟨ρ2, h1, .A6 hp, h4⟩
 | ret =>
  simp only [K2] at h
  have key : ∀ vs, Dq P a1 S2 fn.results.toList = some vs → S2 = S' → e = .returned (match vs with | [v] => v | vs => .tuple vs.toArray) →
    LeavesIn Fence.wide 0 P fn ar.tmps (GQ P w0 ρ e S') [] .returning w2 := by
   intro vs F1 hS he
   obtain ⟨CU, hv, hr⟩ := bQ h4 h3 F1
   refine ⟨_, hr, ρ2, h1, ?_, by rw [← hS]; exact h4⟩
   rw [he]
   have hl := hv.1
   match vs, CU, hv, hl with
   | [v], [v'], hv, _ => simp only [List.size_toArray, List.length_singleton, dite_true]; exact .ret hv.head
   | [], [], hv, _ => exact .ret (VR.tuple' hv)
   | v :: u :: r, v' :: u' :: r', hv, _ => simp only [List.size_toArray, List.length_cons, Nat.add_eq_right]; exact .ret (VR.tuple' hv)
   | [], _ :: _, _, hl => simp at hl
   | _ :: _, [], _, hl => simp at hl
   | [_], _ :: _ :: _, _, hl => simp at hl
   | _ :: _ :: _, [_], _, hl => simp at hl
  split at h
  ·rename_i v F1
   simp only [Option.some.injEq, Prod.mk.injEq] at h
   exact key _ F1 h.2 h.1.symm
  ·rename_i vs AR F1
   simp only [Option.some.injEq, Prod.mk.injEq] at h
   refine key _ F1 h.2 ?_
   rw [← h.1]
   match vs, AR with
   | [v], AR => exact absurd rfl (AR v)
   | [], _ => rfl
   | _ :: _ :: _, _ => rfl
  cases h
theorem yf {o : Oper} {c : Call} (ho : o.op = .defer c) (g : Operand → Value) (w : World) {d : Deferred} (hr : (resolve g c o.type).run P w = .ok d w) : (execOp g o).run P w = .ok (.defer d) w := by
 simp [execOp, ho, hr]
theorem WN {ih : Bo} (Ao : Eo P w0 ih) {ops : Array Oper} {e : Exit} {a1 : Ca} {S1 : St} {Q : Exit → Act → World → Prop} :
  ∀ (rest : List Oper) (a : Ca) (S : St), Hi P ih ops.toList rest a S = some (e, a1, S1) → (∀ o, o ∈ rest → Ml P o) → ∀ (ρ : AF) (w : World) (ar : Act), AO P w0 ρ S w → CP ρ a ar →
   (∀ e' CQ w', Hr P w0 ρ e a1 S1 e' CQ w' → Q e' CQ w') → wpListIn (FW none) 0 P ops Q rest ar w
 | [], a, S, h, _, ρ, w, ar, hs, ha, hQ => by
  simp only [Hi, Option.some.injEq, Prod.mk.injEq] at h
  obtain ⟨rfl, rfl, rfl⟩ := h
  exact hQ _ _ _ ⟨ρ, Ext.refl _, .normal, ha, hs⟩
 | o :: rest, a, S, h, hc, ρ, w, ar, hs, ha, hQ => by
  unfold Hi at h
  have Zc := UF ha (ops := ops) (o := o)
  unfold wpListIn
  rw [← Zc]
  cases hw : CY ops.toList a o with
  | false =>
   rw [hw] at h
   simp only [cond_false] at h
   split at h
   ·rename_i a2 hp
    simp only [Bool.false_eq_true, if_false]
    exact ⟨Mo, WN Ao rest a2 S h (fun o ho => hc o (by simp [ho])) ρ w _ hs (ha.put hp (VR.undef _)) hQ⟩
   cases h
  | true =>
   rw [hw] at h
   simp only [cond_true] at h
   simp only [if_true]
   refine ⟨Mo, ?_⟩
   split at h
   ·rename_i c ho
    split at h
    ·rename_i d hd
     split at h
     ·rename_i a2 hp
      unfold Xp at hd
      split at hd
      ·rename_i fv Yk
       split at hd
       ·rename_i fn first cap hf
        cases hd
        have ju : ∀ x, x ∈ o.op.operands → VR ρ (a.ev x) (ar.eval x) := ha.DE hs (hc o (by simp))
        have hv := ju fv (by rw [ho]; simp [Op.operands, Call.operands, Yk])
        rw [hf] at hv
        generalize hg : ar.eval fv = gv at hv
        cases hv with
        | func _ LC wA Cd ve =>
         rename_i OB a' b b'
         have CM : (resolve ar.eval c o.type).run P w = .ok { target := .fn (.func fn) ⟨b'⟩, args := ⟨a'⟩ ++ c.args.map ar.eval } w := by
          simp [resolve, Yk, hg, Deferred.ofValue]
         show o.uponIn (FW none) 0 P ar _ Q ((execOp ar.eval o).run P w)
         rw [yf ho _ _ CM]
         show wpListIn (FW none) 0 P ops Q rest _ w
         have L5 : CP ρ { a with defers := { target := .fn (.func fn) ⟨b⟩, args := ((⟨OB⟩ : Array Value).toList ++ c.args.toList.map a.ev).toArray } :: a.defers } { ar with defers := { target := .fn (.func fn) ⟨b'⟩, args := ⟨a'⟩ ++ c.args.map ar.eval } :: ar.defers } := by
          refine ⟨ha.le, ha.tm, .cons (.inr ⟨fn, ⟨b⟩, ⟨b'⟩, rfl, rfl, ⟨Cd, ve⟩, ?_⟩) ha.df⟩
          simp only [Array.toList_append]
          exact AI.append ⟨LC, wA⟩ (by
           have := AI.Ng (ρ := ρ) (f := a.ev) (g := ar.eval) c.args.toList (fun x hx => ju x (by rw [ho]; simp [Op.operands, Call.operands, Yk]; exact .inr (by simpa using hx)))
           simpa using this)
         exact WN Ao rest a2 S h (fun o ho => hc o (by simp [ho])) ρ w _ hs (L5.put hp (VR.undef _)) hQ
       cases hd
      cases hd
     cases h
    cases h
   split at h
   ·rename_i v S2 Ag
    split at h
    ·rename_i a2 hp
     refine Q8 Ao hs (ha.DE hs (hc o (by simp))) Ag ⟨?_, ?_⟩
     ·intro v2 e2 ρ' v' w' h1 h2 h3
      cases e2
      exact WN Ao rest a2 S2 h (fun o ho => hc o (by simp [ho])) ρ' w' _ h3 ((ha.mono h1).put hp h2) (fun e' CQ w' hg => hQ _ _ _ (hg.mono h1))
     intro c e2; cases e2
    cases h
   ·rename_i ch S2 Ag
    simp only [Option.some.injEq, Prod.mk.injEq] at h
    obtain ⟨rfl, rfl, rfl⟩ := h
    refine Q8 Ao hs (ha.DE hs (hc o (by simp))) Ag ⟨?_, ?_⟩
    ·intro v2 e2; cases e2
    intro c e2 ρ' c' w' h1 h2 h3
    cases e2
    exact hQ _ _ _ ⟨ρ', h1, .A6 h2, ha.mono h1, h3⟩
   cases h
theorem Rp {ih : Bo} (Ao : Eo P w0 ih) : ∀ (n : Nat) (code : Code) (a : Ca) (S : St) (e : Exit) (a1 : Ca) (S1 : St), Fw P ih n code a S = some (e, a1, S1) →
  ∀ (ρ : AF) (w : World) (ar : Act), AO P w0 ρ S w → CP ρ a ar → code.wpIn (FW none) 0 P (Hr P w0 ρ e a1 S1) ar w
 | 0, _, _, _, _, _, _, h, _, _, _, _, _ => by cases h
 | n + 1, code, a, S, e, a1, S1, h, ρ, w, ar, hs, ha => by
  unfold Fw at h
  split at h
  ·rename_i id ops draw
   cases hd : NG ops.toList with
   | false =>
    rw [hd] at h
    exact Ao.exec _ _ _ _ _ _ _ h ρ w ar none hs ha (.inl ⟨rfl, rfl⟩)
   | true =>
    rw [hd] at h
    simp only [cond_true] at h
    cases hc : (draw || !DZ P ops.toList) with
    | true => rw [hc] at h; cases h
    | false =>
     rw [hc] at h
     simp only [cond_false] at h
     simp only [Bool.or_eq_false_iff, Bool.not_eq_false'] at hc
     obtain ⟨rfl, hc⟩ := hc
     exact wpIn_region_list (WN Ao ops.toList a S h (RZ hc) ρ w ar hs ha fun _ _ _ h => h)
  ·rename_i x y
   refine wpIn_seq ?_
   split at h
   ·rename_i a2 S2 hx
    refine wpIn_mono (Rp Ao n x _ _ _ _ _ hx ρ w ar hs ha) ?_
    rintro e2 DB w2 ⟨ρ2, h1, h2, h3, h4⟩
    cases h2
    exact wpIn_mono (Rp Ao n y _ _ _ _ _ h ρ2 w2 DB h4 h3) fun _ _ _ hg => hg.mono h1
   rename_i AR
   refine wpIn_mono (Rp Ao n x _ _ _ _ _ h ρ w ar hs ha) ?_
   rintro e2 DB w2 ⟨ρ2, h1, h2, h3, h4⟩
   cases h2 with
   | normal => exact absurd h (AR _ _)
   | exit id => exact ⟨ρ2, h1, .exit id, h3, h4⟩
   | ret => exact ⟨ρ2, h1, .ret, h3, h4⟩
   | A6 hp => exact ⟨ρ2, h1, .A6 hp, h3, h4⟩
  ·rename_i c x y
   split at h
   ·rename_i t hc
    refine wpIn_cond (Xd ha hc) ?_
    cases t <;> exact Rp Ao n _ _ _ _ _ _ h ρ w ar hs ha
   cases h
  exact Ao.exec _ _ _ _ _ _ _ h ρ w ar none hs ha (.inl ⟨rfl, rfl⟩)
theorem tX {ih : Bo} (Ao : Eo P w0 ih) {f : FuncId} {args : List Value} {S S' : St} {e : Ending} (h : OL P ih f args S = some (e, S'))
  {ρ : AF} {w : World} {args' : Array Value} (hs : AO P w0 ρ S w) (hv : AI ρ args args'.toList) : Kr P (GQ P w0 ρ e S') ((callFunc f args').run P w) := by
 unfold OL at h
 split at h
 ·rename_i fn hf
  split at h
  ·rename_i c hb
   cases hc : ((fn.name == "runtime.NumGoroutine") || Nat.blt 256 (DK fn.ntmps args.length)) with
   | true => rw [hc] at h; cases h
   | false =>
    rw [hc] at h
    simp only [cond_false] at h
    rw [Bool.or_eq_false_iff] at hc
    rw [Qt hf hb hc.1]
    have hle : DK fn.ntmps args.length ≤ 256 := by
     have := hc.2
     rw [PT.FQ] at this
     simpa using this
    show CallsIn Fence.wide 0 P f args' w (GQ P w0 ρ e S')
    split at h
    ·rename_i e1 a1 S1 hx
     refine callsIn_of_wp_marks hf hb trivial ?_
     refine wpIn_mono (Rp Ao 1000 c _ _ _ _ _ hx ρ w _ hs (Xw hv hle)) ?_
     rintro e2 DB w2 ⟨ρ2, h1, h2, h3, h4⟩
     have key : ∀ m u, D1 ρ2 m u → K2 P a1 fn.results.toList (GH P ih a1.defers m S1) = some (e, S') → LeavesInM Fence.wide 0 P fn DB.tmps (GQ P w0 ρ e S') DB.defers u w2 := by
      intro m u hm h
      cases hl : GH P ih a1.defers m S1 with
      | none => rw [hl] at h; cases h
      | some x =>
       obtain ⟨m3, S3⟩ := x
       rw [hl] at h
       refine zT Ao (ρ0 := ρ2) (fun ρ3 u3 w3 k1 k2 k3 => ?_) a1.defers m S1 DB.defers u ρ2 w2 hl (Ext.refl _) h3.df hm h4
       exact tT h (h1.trans k1) (h3.mono k1) k2 k3
     cases h2 with
     | normal => exact key _ _ .ret h
     | ret => exact key _ _ .ret h
     | exit id => cases h
     | A6 hp => exact key _ _ (.A6 hp) h
    cases h
  cases h
 cases h
theorem Rh {ih : Bo} (Ao : Eo P w0 ih) (hK : N6 P K w0.toWorld) {f : FuncId} {args : List Value} {S S' : St} {e : Ending} (h : Et P K ih f args S = some (e, S'))
  {ρ : AF} {w : World} {args' : Array Value} (hs : AO P w0 ρ S w) (hv : AI ρ args args'.toList) : Kr P (GQ P w0 ρ e S') ((callFunc f args').run P w) := by
 unfold Et at h
 split at h
 ·rename_i v hc
  cases h
  obtain ⟨LC, fn, c, hf, hb, hn, HX⟩ := hK.call f args S v hc
  rw [Qt hf hb hn]
  show CallsIn Fence.wide 0 P f args' w _
  refine callsIn_wide.2 ((HX w0 ρ w args' rfl hs hv).mono ?_)
  rintro e' w' ⟨rfl, hk⟩
  exact ⟨ρ, Ext.refl _, .ret (LC ρ), hs.later hk⟩
 cases hd : K.defers f with
 | true => rw [hd] at h; exact tX Ao h hs hv
 | false => rw [hd] at h; exact tV Ao hK.ext h hs hv
theorem ACN {ρ : AF} {n : Nat} (hn : n ≤ 256) (g : Array Value → Tmp × Value → Array Value) (hg : ∀ tm t a, g tm (t, a) = tm.setIfInBounds t a) :
  ∀ (ps : List Tmp) (vs CU : List Value) (t t' : Tm) (tmps : Array Value), PH n t ps vs = some t' → AI ρ vs CU → Kv ρ n t tmps →
   CU.length = ps.length ∧ Kv ρ n t' ((ps.zip CU).foldl g tmps) := by
 intro ps
 induction ps with
 | nil =>
  intro vs CU t t' tmps h hv ht
  cases vs with
  | nil =>
   simp only [PH, Option.some.injEq] at h
   subst h
   have := hv.Hd
   subst this
   exact ⟨rfl, ht⟩
  | cons v vs => cases h
 | cons p ps ih =>
  intro vs CU t t' tmps h hv ht
  cases vs with
  | nil => cases h
  | cons v vs =>
   obtain ⟨v', l', rfl, h1, h2⟩ := hv.cons_inv
   simp only [PH] at h
   cases hb : Nat.blt p n with
   | false => rw [hb] at h; cases h
   | true =>
    rw [hb] at h
    simp only [cond_true] at h
    obtain ⟨q1, q2⟩ := ih vs l' _ t' (tmps.setIfInBounds p v') h h2 (ht.set (HA hb) hn h1)
    refine ⟨by simp [q1], ?_⟩
    simp only [List.zip_cons_cons, List.foldl_cons, hg]
    exact q2
theorem AB1 {ih : Bo} (Ao : Eo P w0 ih) {l : Nat} {args : List Value} {S S' : St} {e : Ending} (h : Nu ih l args S = some (e, S'))
  {ρ : AF} {w : World} {args' : Array Value} {L : Loc} (hs : AO P w0 ρ S w) (hl : ρ l = some L) (hv : AI ρ args args'.toList) : Kr P (GQ P w0 ρ e S') ((Instr.yield L.r args').run P w) := by
 unfold Nu at h
 split at h
 ·rename_i p n t ps x y d FG
  cases hn : Nat.blt 256 n with
  | true => rw [hn] at h; cases h
  | false =>
   rw [hn] at h
   simp only [cond_false] at h
   rw [PT.FQ] at hn
   have hn : n ≤ 256 := by simpa using hn
   split at h
   ·rename_i t' GF
    obtain ⟨fn, tmps, D, q1, q2, q3⟩ := hs.CR _ _ _ hl (O3 FG)
    obtain ⟨hlen, hT⟩ := ACN hn (fun (tmps : Array Value) (x : Tmp × Value) => tmps.setIfInBounds x.1 x.2) (fun _ _ _ => rfl) ps args args'.toList t t' tmps GF hv q2
    rw [run_yield q1 (by simpa using hlen)]
    show RoundIn Fence.wide 0 P L.r fn _ x y w _
    have v9 : (ps.toArray.zip args').foldl (fun tmps x => match x with | (t, a) => tmps.setIfInBounds t a) tmps = (ps.zip args'.toList).foldl (fun (tmps : Array Value) (x : Tmp × Value) => tmps.setIfInBounds x.1 x.2) tmps := by
     rw [← Array.foldl_toList, Array.toList_zip]
    split at h
    ·rename_i a1 S1 hx
     refine roundIn_of_wpIn trivial ?_
     have jP := Ao.exec (some l) x _ _ _ _ _ hx ρ w { tmps := (ps.zip args'.toList).foldl (fun (tmps : Array Value) (x : Tmp × Value) => tmps.setIfInBounds x.1 x.2) tmps, defers := [] } (some L.r) hs ⟨hn, hT, .nil⟩ (.inr ⟨l, L, rfl, hl, rfl⟩)
     rw [← v9] at jP
     refine wpIn_mono jP ?_
     rintro e2 DB w2 ⟨ρ2, h1, h2, h3, h4⟩
     cases h2
     split at h
     ·rename_i p1 n1 t1 I6 x1 y1 d1 Y6
      obtain ⟨r, hr, Ag, hp, DI⟩ := AO.Ta (st' := .busy) (p' := p1) h4 (h1 _ _ hl) (O3 Y6)
      have VL := run_beginRound (P := P) hr Ag
      rw [← hp] at DI
      refine ⟨_, VL, ?_⟩
      split at h
      ·rename_i e3 a3 S3 hy
       rw [← hp] at hy
       refine wpIn_mono (Ao.exec (some l) y _ _ _ _ _ hy ρ2 _ DB (some L.r) DI h3 (.inr ⟨l, L, rfl, h1 _ _ hl, rfl⟩)) ?_
       rintro e4 ar4 w4 ⟨ρ4, k1, k2, k3, k4⟩
       split at h
       ·rename_i st2 p2 n2 t2 Ke x2 y2 d2 SV
        have Of := k1 _ _ (h1 _ _ hl)
        cases k2 with
        | normal =>
         simp only [Option.some.injEq, Prod.mk.injEq] at h
         obtain ⟨rfl, rfl⟩ := h
         obtain ⟨r, hr, Ag, hp, NY⟩ := AO.Ta (st' := .ready) (p' := none) k4 Of (O3 SV)
         exact ⟨_, _, run_endRound none hr, ρ4, h1.trans k1, .ret (.bool _), NY⟩
        | ret =>
         simp only [Option.some.injEq, Prod.mk.injEq] at h
         obtain ⟨rfl, rfl⟩ := h
         obtain ⟨r, hr, Ag, hp, NY⟩ := AO.Ta (st' := .done) (p' := some .ret) k4 Of (O3 SV)
         exact ⟨_, _, run_endRound (some .ret) hr, ρ4, h1.trans k1, .ret (.bool _), NY⟩
        | exit id =>
         simp only [Option.some.injEq, Prod.mk.injEq] at h
         obtain ⟨rfl, rfl⟩ := h
         obtain ⟨r, hr, Ag, hp, NY⟩ := AO.Ta (st' := .done) (p' := some (.exit id)) k4 Of (O3 SV)
         exact ⟨_, _, run_endRound (some (.exit id)) hr, ρ4, h1.trans k1, .ret (.bool _), NY⟩
        | A6 hp => cases h
       cases h
      cases h
     cases h
    cases h
   cases h
 cases h
theorem mn {t e : TypeId} (h : P.underlying t = some (.pointer e)) (v : Value) (wr : Option String) (w : World) : (receiverAt t (.val v) true wr).run P w = .ok v w := by
 simp [receiverAt, Aj w h, Place.get]
theorem mo {t : TypeId} {d : TypeDesc} (h : P.underlying t = some d) (hd : ∀ e, d ≠ .pointer e) (v : Value) (wr : Option String) (w : World) : (receiverAt t (.val v) false wr).run P w = .ok v w := by
 cases d <;> first
  | exact absurd rfl (hd _)
  | simp [receiverAt, Aj w h, Place.get]
theorem ACF (ts : Array TypeId) (t : TypeId) (ad : Addr) (m : String) (w : World) : (Builtin.ssaWrapNilChk_ ts t #[.pointer (some ad), strVal "", strVal m]).run P w = .ok (.pointer (some ad)) w := by
 rfl
theorem mm {ρ : AF} {S : St} {w : World} (hs : AO P w0 ρ S w) {t e : TypeId} (hu : P.underlying t = some (.pointer e)) {v v' x : Value} (h : DJ P e v S = some x) (hv : VR ρ v v') :
  ∃ x', (∀ wr : Option String, (receiverAt t (.val v') false wr).run P w = .ok x' w) ∧ VR ρ x x' := by
 obtain ⟨x', p1, q1⟩ := Zz hs h hv
 refine ⟨x', fun wr => ?_, q1⟩
 have hp : ∃ ad, v' = .pointer (some ad) := by
  unfold DJ at h
  split at h
  ·cases hv with
   | ptr _ => exact ⟨_, rfl⟩
  cases h
 obtain ⟨ad, rfl⟩ := hp
 have p2 : (loadVar e ad).run P w = .ok x' w := by simpa [Instr.loadAt, Instr.sureAddr] using p1
 have p3 : (asAddr (.pointer (some ad))).run P w = .ok ad w := by simp [asAddr]
 cases wr with
 | none => simp [receiverAt, Aj w hu, Place.get, p2, p3]
 | some m => simp [receiverAt, Aj w hu, Place.get, p2, p3, ACF]
theorem AAM {ρ : AF} {S : St} {w : World} (hs : AO P w0 ρ S w) {t : TypeId} {v x v' : Value} {name : String} {f : FuncId} (h : methodOf P t v name S = some (f, x)) (hv : VR ρ v v') :
  ∃ x', (∀ n, (method (n + 1) t v' name).run P w = .ok (f, x') w) ∧ VR ρ x x' := by
 unfold methodOf at h
 split at h
 ·rename_i i hi
  split at h
  ·rename_i m hm
   cases hp : m.path.isEmpty with
   | false => rw [hp] at h; cases h
   | true =>
    rw [hp] at h
    simp only [cond_true] at h
    have ZC : m.path.toList = [] := by simpa using hp
    split at h
    ·rename_i g ptr SO
     have key : ∀ x', (∀ wr : Option String, (receiverAt t (.val v') ptr wr).run P w = .ok x' w) → ∀ n, (method (n + 1) t v' name).run P w = .ok (g, x') w := by
      intro x' hx n
      simp [method, LY w hi, hm, ZC, follow, SO, hx]
     split at h
     ·rename_i e hu
      simp only [Option.some.injEq, Prod.mk.injEq] at h
      obtain ⟨rfl, rfl⟩ := h
      exact ⟨v', key _ (fun wr => mn hu v' wr w), hv⟩
     ·rename_i e hu
      split at h
      ·rename_i y hy
       simp only [Option.some.injEq, Prod.mk.injEq] at h
       obtain ⟨rfl, rfl⟩ := h
       obtain ⟨x', a, b⟩ := mm hs hu hy hv
       exact ⟨x', key _ a, b⟩
      cases h
     ·rename_i dd AR hu
      simp only [Option.some.injEq, Prod.mk.injEq] at h
      obtain ⟨rfl, rfl⟩ := h
      exact ⟨v', key _ (fun wr => mo hu (fun e he => AR e he) v' wr w), hv⟩
     cases h
    cases h
  cases h
 cases h
theorem ACD {t : TypeId} {v : Value} {name : String} {cap rest : Array Value} {w : World} {f : FuncId} {x : Value} (h : ∀ n, (method (n + 1) t v name).run P w = .ok (f, x) w) :
  (invoke (.fn (.method name) cap) (#[.iface t v] ++ rest)).run P w = (callFunc f (#[x] ++ rest)).run P w := by
 have e : ∃ n, P.types.size + Made.depth = n + 1 := ⟨P.types.size + Made.depth - 1, by
  have : 0 < Made.depth := by decide
  omega⟩
 obtain ⟨n, hn⟩ := e
 have h0 : (#[Value.iface t v] ++ rest)[0]? = some (.iface t v) := by rw [← Array.getElem?_toList, Array.toList_append]; rfl
 simp [invoke, h0, callMethod, hn, h n]
theorem bZ {t : TypeId} {path : Array FieldStep} {f : FuncId} {ptr : Bool} {v x : Value} {cap rest : Array Value} {w : World} (hp : path.isEmpty = true) (h : (receiverAt t (.val v) ptr none).run P w = .ok x w) :
  (invoke (.fn (.via t path f ptr) cap) (#[v] ++ rest)).run P w = (callFunc f (#[x] ++ rest)).run P w := by
 have ZC : path.toList = [] := by simpa using hp
 have h0 : (#[v] ++ rest)[0]? = some v := by rw [← Array.getElem?_toList, Array.toList_append]; rfl
 simp [invoke, h0, receiverVia, ZC, follow, h]
theorem er {l : Array Value} {v : Value} {r : List Value} (h : l.toList = v :: r) : l = #[v] ++ r.toArray := by
 apply Array.ext'; simp [h]
theorem sV {ih : Bo} (Ao : Eo P w0 ih) (hK : N6 P K w0.toWorld) : ∀ t args S e S', Mt P K ih t args S = some (e, S') → ∀ ρ w t' args', AO P w0 ρ S w → RM ρ t t' → AI ρ args args'.toList →
  Kr P (GQ P w0 ρ e S') ((invoke t' args').run P w) := by
 intro t args S e S' h ρ w t' args' hs ht hv
 obtain ⟨fn, Ik, cap, BD, rfl, rfl, hf⟩ := ht
 unfold Mt at h
 split at h
 ·rename_i f Um he
  cases he
  cases hf with
  | func f _ _ hc k =>
   rename_i a' c c'
   show Kr P _ ((callFunc f (args' ++ _)).run P w)
   refine Rh Ao hK h hs ?_
   rw [Array.toList_append]
   exact hv.append ⟨hc, k⟩
 ·rename_i l Um he
  cases he
  cases hf with
  | yield hl => exact AB1 Ao h hs hl hv
 ·rename_i name Um he
  cases he
  cases hf with
  | method _ _ _ hc k =>
   split at h
   ·rename_i t v rest
    split at h
    ·rename_i f r hm
     obtain ⟨v', l', he, Iy, BY⟩ := hv.cons_inv
     cases Iy with
     | iface _ Na =>
      rename_i u'
      rw [er he]
      obtain ⟨x', ha, hb⟩ := AAM hs hm Na
      rw [ACD ha]
      refine Rh Ao hK h hs ?_
      simp only [Array.toList_append]
      exact AI.cons hb BY
    cases h
   cases h
 ·rename_i t path f ptr Um he
  cases he
  cases hf with
  | via _ _ _ _ _ _ hc k =>
   split at h
   ·rename_i x rest
    obtain ⟨v', l', he, Iy, BY⟩ := hv.cons_inv
    cases hp : path.isEmpty with
    | false => rw [hp] at h; cases h
    | true =>
     rw [hp] at h
     simp only [cond_true] at h
     rw [er he]
     split at h
     ·rename_i e hu
      rw [bZ hp (mn hu v' none w)]
      refine Rh Ao hK h hs ?_
      simp only [Array.toList_append]
      exact AI.cons Iy BY
     ·rename_i e hu
      split at h
      ·rename_i y hy
       obtain ⟨x', a, b⟩ := mm hs hu hy Iy
       rw [bZ hp (a none)]
       refine Rh Ao hK h hs ?_
       simp only [Array.toList_append]
       exact AI.cons b BY
      cases h
     ·rename_i dd AR hu
      rw [bZ hp (mo hu (fun e he => AR e he) v' none w)]
      refine Rh Ao hK h hs ?_
      simp only [Array.toList_append]
      exact AI.cons Iy BY
     cases h
   cases h
 cases h
def Le (S S' : St) : Prop := ∀ b B, S.get b = some B → S'.get b = some B
theorem zf {S S' : St} (hl : Le S S') {t : TypeId} {x v : Value} (h : DJ P t x S = some v) : DJ P t x S' = some v := by
 unfold DJ at h ⊢
 split at h
 ·rename_i b o
  split at h
  ·rename_i c e r ow k hg
   rw [hl _ _ hg]; exact h
  cases h
 cases h
theorem AB2 {S S' : St} (hl : Le S S') {b z : Nat} (h : Jn P S b z = true) : Jn P S' b z = true := by
 unfold Jn at h ⊢
 cases hg : S.get b with
 | none => rw [hg] at h; cases h
 | some B => rw [hl _ _ hg]; rw [hg] at h; exact h
theorem AAz {S S' : St} (hl : Le S S') {b : Nat} (h : O8 S b = true) : O8 S' b = true := by
 unfold O8 at h ⊢
 cases hg : S.get b with
 | none => rw [hg] at h; cases h
 | some B => rw [hl _ _ hg]; rw [hg] at h; exact h
theorem AAB {S S' : St} (hl : Le S S') {x : Value} {es : List MapEntry} (h : mapOf S x = some es) : mapOf S' x = some es := by
 unfold mapOf at h ⊢
 split at h
 ·exact h
 ·rename_i r
  split at h
  ·rename_i Ax c hg
   rw [hl _ _ hg]; exact h
  cases h
 cases h
theorem zj {S S' : St} (hl : Le S S') {t : TypeId} {x i v : Value} {ok : Bool} (h : Ji P t x i ok S = some v) : Ji P t x i ok S' = some v := by
 unfold Ji at h ⊢
 split at h
 ·rename_i key elem hu
  split at h
  ·rename_i es hm
   rw [AAB hl hm]
   exact h
  cases h
 cases h
theorem zV {S S' : St} (hl : Le S S') {t : TypeId} {x v : Value} (h : G' P t x S = some v) : G' P t x S' = some v := by
 unfold G' at h ⊢
 split at h
 all_goals (try simp only [*])
 all_goals (try exact h)
 rename_i r hu
 split at h
 ·rename_i es c hg
  rw [hl _ _ hg]; exact h
 cases h
theorem ACS {S S' : St} (hl : Le S S') {t : TypeId} {x v : Value} {lo hi mx : Option Value} (h : Fi P t x lo hi mx S = some v) : Fi P t x lo hi mx S' = some v := by
 unfold Fi at h ⊢
 split at h
 ·exact h
 ·rename_i elem hu
  split at h
  ·rename_i a len cap
   split at h
   ·rename_i z l hh m h1 h2
    split at h
    ·exact h
    ·rename_i b o
     cases hr : Jn P S b z with
     | false => rw [hr] at h; cases h
     | true => rw [hr] at h; rw [AB2 hl hr]; exact h
    exact h
   cases h
  cases h
 ·rename_i n elem hu
  split at h
  ·rename_i b o
   split at h
   ·rename_i z l hh m h1 h2
    cases hr : O8 S b with
    | false => rw [hr] at h; cases h
    | true => rw [hr] at h; rw [AAz hl hr]; exact h
   cases h
  cases h
 cases h
theorem ABe {S S' : St} (hl : Le S S') {f : Operand → Value} {op : Op} {v : Value} (h : Cl P f op S = some v) : Cl P f op S' = some v := by
 unfold Cl at h ⊢
 split at h
 ·exact zf hl h
 ·exact ACS hl h
 ·exact zj hl h
 ·split at h
  ·rename_i x t rest ha ht
   exact zV hl h
  cases h
 exact h
theorem ABd {f : Operand → Value} {op : Op} {v : Value} {S S' : St} (hn : looks op = false) (h : Cl P f op S = some v) : Cl P f op S' = some v := by
 unfold Cl at h ⊢
 split at h <;> first
  | (simp [looks] at hn; done)
  | exact h
theorem AO.AE7 {w0 : World} {no no' : Nat → Bool} {ρ : AF} {S : St} {w : World} (h : AO P ⟨w0, no⟩ ρ S w) (B : AD) (hn : ∀ x, no' x = true → no x = true ∨ x = S.size) :
  AO P ⟨w0, no'⟩ ρ ⟨S.heap.set S.size (some B), S.size + 1⟩ w := by
 have key : ∀ c L, ρ c = some L → (⟨S.heap.set S.size (some B), S.size + 1⟩ : St).get c = S.get c := by
  intro c L hc
  have := (h.DC c L hc).1
  simp only [St.get, Cf.HQ]
  rw [if_neg (by omega)]
 refine ⟨h.size, h.old, h.os, h.out, fun b L hb => ⟨by have := (h.DC b L hb).1; show b < S.size + 1; omega, (h.DC b L hb).2⟩, fun b L C hb hC => ?_, fun b L C hb hC hm => ?_, h.J', fun b hb => ?_⟩
 ·rw [key b L hb] at hC
  exact h.CR b L C hb hC
 ·rw [key b L hb] at hC
  refine ⟨(h.own b L C hb hC hm).1, fun b' L' B' BS hr DS AR => ?_⟩
  rw [key b' L' BS] at DS
  exact (h.own b L C hb hC hm).2 b' L' B' BS hr DS AR
 rcases hn b hb with h1 | h1
 ·have := h.no b h1
  exact ⟨this.1, by show b < S.size + 1; omega⟩
 subst h1
 refine ⟨?_, by show S.size < S.size + 1; omega⟩
 cases hx : ρ S.size with
 | none => rfl
 | some M => exact absurd (h.DC _ _ hx).1 (Nat.lt_irrefl _)
theorem AO.born {w0 : World} {no no' : Nat → Bool} {ρ : AF} {S : St} {w : World} (h : AO P ⟨w0, no⟩ ρ S w) {b : Nat} {B : AD} (hb : no b = true) (hB : S.get b = some B)
  (hn : ∀ x, no' x = true → no x = true ∧ x ≠ b) {o : Obj} {L : Loc} (hr : L.r = w.heap.size) (hk : JG P ρ B (some o) L) :
  Ext ρ (BB ρ b L) ∧ AO P ⟨w0, no'⟩ (BB ρ b L) S (w.alloc o) := by
 have Ir := (h.no b hb).1
 have FX := M1 L Ir
 refine ⟨FX, ⟨by rw [World.size_alloc]; have : w0.heap.size ≤ w.heap.size := h.size; show w0.heap.size ≤ w.heap.size + 1; omega, fun i hi => ?_, h.os, h.out, fun c M hc => ?_, fun c M C hc hC => ?_, fun c M C hc hC hm => ?_, fun g hg => let ⟨M, a, b⟩ := h.J' g hg; ⟨M, FX _ _ a, b⟩, fun x hx => ?_⟩⟩
 ·rw [heap_alloc_old (by have : w0.heap.size ≤ w.heap.size := h.size; have : i < w0.heap.size := hi; omega)]; exact h.old i hi
 ·rw [World.size_alloc]
  unfold BB at hc
  split at hc
  ·rename_i e; cases hc; subst e; exact ⟨(h.no c hb).2, by omega⟩
  have := h.DC c M hc; omega
 ·unfold BB at hc
  by_cases e : c = b
  ·rw [if_pos e] at hc
   cases hc
   subst e
   rw [hB] at hC
   cases hC
   rw [hr, heap_alloc_new]
   exact hk.mono FX
  rw [if_neg e] at hc
  rw [heap_alloc_old (h.DC c M hc).2]
  exact (h.CR c M C hc hC).mono FX
 ·unfold BB at hc
  by_cases e : c = b
  ·rw [if_pos e] at hc
   cases hc
   refine ⟨by have : w0.heap.size ≤ w.heap.size := h.size; show w0.heap.size ≤ L.r; omega, fun b' L' B' BS EL DS AR => ?_⟩
   unfold BB at BS
   rw [if_neg (by rw [e] at AR; exact AR)] at BS
   have := (h.DC b' L' BS).2
   omega
  rw [if_neg e] at hc
  refine ⟨(h.own c M C hc hC hm).1, fun b' L' B' BS EL DS AR => ?_⟩
  unfold BB at BS
  by_cases e' : b' = b
  ·rw [if_pos e'] at BS
   cases BS
   have := (h.DC c M hc).2
   omega
  rw [if_neg e'] at BS
  exact (h.own c M C hc hC hm).2 b' L' B' BS EL DS AR
 have h1 := hn x hx
 have := h.no x h1.1
 refine ⟨?_, this.2⟩
 unfold BB
 rw [if_neg h1.2]
 exact this.1
def dy (P : Program) (o : Oper) (f : Operand → Value) (B : AD) (mk : Nat → Value) : Prop :=
 ∀ (ρ : AF) (g : Operand → Value) (w : World), (∀ x, x ∈ o.op.operands → VR ρ (f x) (g x)) →
  ∃ (ob : Obj) (L : Loc) (v' : Value), (execOp g o).run P w = .ok (.value v') (w.alloc ob) ∧ L.r = w.heap.size ∧ JG P ρ B (some ob) L ∧ (∀ (ρ' : AF) (b : Nat), ρ' b = some L → VR ρ' (mk b) v')
theorem fY {ρ : AF} {v v' : Value} (hv : VR ρ v v') (e : TypeId) (r : Nat) : JG P ρ (.cells (AP v) e false true []) (some (.cells v'.cells e)) ⟨r, 0, v'.cells.size, 0⟩ := by
 have hc := hv.cells
 rw [Ig v'] at hc
 refine ⟨v'.cells, e, (0, 0), rfl, rfl, fun i x hx => ?_, fun _ j _ hj => by simp at hj, (fun h => nomatch h), fun _ => ⟨rfl, rfl, by rw [hc.1]; simp⟩, fun _ _ => rfl⟩
 obtain ⟨x', a, b⟩ := hc.get hx
 exact ⟨x', by rw [← Array.getElem?_toList]; simpa using a, b⟩
theorem AAX {S S' : St} {o : Oper} {f : Operand → Value} {v : Value} (h : C1 P f o.op S = some (v, S')) :
  ∃ (B : AD) (mk : Nat → Value), v = mk S.size ∧ S' = ⟨S.heap.set S.size (some B), S.size + 1⟩ ∧ dy P o f B mk := by
 cases ho : o.op <;> rw [ho] at h
 case alloc e =>
  simp only [C1] at h
  split at h
  ·rename_i z F2
   cases h
   obtain ⟨zv, hz, rfl, hf⟩ := di F2
   refine ⟨_, fun b => ptrTo b 0, rfl, rfl, fun ρ g w Aa => ⟨.cells zv.cells e, ⟨w.heap.size, 0, zv.cells.size, 0⟩, .pointer (some ⟨w.heap.size, 0, none⟩), ?_, rfl, fY (hf.refl ρ) e _, fun ρ' b hb => VR.ptr hb⟩⟩
   simp only [execOp, ho, Instr.alloc, Sem.run_bind, Jo w hz, Result.andThen_ok]
   rfl
  cases h
 case box e x =>
  simp only [C1] at h
  cases h
  refine ⟨_, fun b => ptrTo b 0, rfl, rfl, fun ρ g w Aa => ⟨.cells (g x).cells e, ⟨w.heap.size, 0, (g x).cells.size, 0⟩, .pointer (some ⟨w.heap.size, 0, none⟩), ?_, rfl, fY (Aa x (by rw [ho]; simp [Op.operands])) e _, fun ρ' b hb => VR.ptr hb⟩⟩
  simp only [execOp, ho, Instr.box, Sem.run_bind]
  rfl
 case makeMap t r =>
  cases r with
  | some x => simp [C1] at h
  | none =>
   simp only [C1] at h
   cases h
   refine ⟨_, fun b => .map (some b), rfl, rfl, fun ρ g w Aa => ⟨.map #[] 0, ⟨w.heap.size, 0, 0, 0⟩, .map (some w.heap.size), ?_, rfl, ⟨[], rfl, rfl, fun i e e' h => by simp at h⟩, fun ρ' b hb => VR.map hb⟩⟩
   simp [execOp, ho, Instr.makeMap]
 case buildSlice t len parts =>
  simp only [C1] at h
  split at h
  ·rename_i elem hu
   split at h
   ·rename_i ei EK
    split at h
    ·rename_i z hz
     split at h
     ·rename_i hle
      split at h
      ·rename_i c hc
       cases h
       refine ⟨_, fun b => .slice (some ⟨b, 0, none⟩) len len, rfl, rfl, fun ρ g w Aa => ?_⟩
       have hp := mK (ρ := ρ) (f := f) (g := g) (parts := parts) (by rw [ho] at Aa; simpa [Op.operands] using Aa)
       have Ay : A0 P elem = some ei.size := by simp [A0, EK]
       have QT : z.cells.size = ei.size := by have := hle.2; rw [Ig] at this; simpa using this
       have KS := UI (ρ := ρ) hz len (len * ei.size) (by rw [QT])
       obtain ⟨c', f1, f2⟩ := Rr (place' := fun i => some (i * ei.size, ei.size)) (fun _ => rfl) _ _ _ _ _ hc KS hp
       have Yl : c.length = len * ei.size := by
        have := X7 _ _ _ hc
        rw [this, Tj, hle.2]
       have Ec : c'.size = len * ei.size := by rw [← Yl, f2.1]; simp
       refine ⟨.cells c' elem, ⟨w.heap.size, 0, c'.size, ei.size⟩, .slice (some ⟨w.heap.size, 0, none⟩) len len, ?_, rfl, ⟨c', elem, (0, 0), rfl, rfl, fun i x hx => ?_, fun _ j _ hj => by simp at hj, fun _ => Ay, (fun h => nomatch h), fun _ _ => rfl⟩, fun ρ' b hb => VR.slice hb (Nat.le_refl _) (Nat.le_refl _) (fun _ => by simp only; omega) (.inl rfl)⟩
       ·simp only [execOp, ho]
        unfold Instr.buildSlice
        simp only [Sem.run_bind, Aj w hu, Result.andThen_ok, Ek w Ay]
        rw [if_neg (by omega)]
        by_cases h0 : len * ei.size = 0
        ·rw [if_pos h0]
         have e1 : Array.map (fun x => (#[] : Array Value)[x % (#[] : Array Value).size]!) (Array.range (len * ei.size)) = Array.map (fun i => z.cells[i % z.cells.size]!) (Array.range (len * ei.size)) := by rw [h0]; simp
         simp only [Sem.run_bind, Sem.run_pure, Result.andThen_ok]
         rw [e1, f1]
         simp [newRow]
        rw [if_neg h0]
        simp only [Sem.run_bind, Jo w hz, Sem.run_pure, Result.andThen_ok]
        rw [f1]
        simp [newRow]
       obtain ⟨x', p1, p2⟩ := f2.get hx
       exact ⟨x', by rw [← Array.getElem?_toList]; simpa using p1, p2⟩
      cases h
     cases h
    cases h
   cases h
  cases h
 all_goals simp [C1] at h
theorem sl {S S' : St} {b : Nat} {B : AD} {c : CZ} (h : J7 S b = some c) (hB : S.get b = some B) (hk : c.ok P S' = true) : S'.get b = some B := by
 unfold J7 at h
 rw [hB] at h
 split at h
 ·rename_i cs e row he
  cases he
  cases h
  simp only [CZ.ok] at hk
  split at hk
  ·rename_i c' e' nK hg
   simp only [Bool.and_eq_true] at hk
   rw [hg, BV hk.1.1, eq_of_beq hk.1.2, Qu _ _ _ hk.2]
  cases hk
 ·rename_i he
  cases he
  cases h
  simp only [CZ.ok] at hk
  split at hk
  ·rename_i hg; exact hg
  cases hk
 cases h
def Li (acc : List Nat) (o : Oper) : Nat := o.after.toList.foldl (fun s e => if Region.binds .any e then s ||| 2 ^ e.on ||| ((nth acc e.on).getD 0) else s) 0
theorem fE : ∀ (l : List Oper) (acc : List Nat), ∃ t, Cy l acc = acc ++ t
 | [], acc => ⟨[], by simp [Cy]⟩
 | o :: l, acc => by
  obtain ⟨t, h⟩ := fE l (acc ++ [Li acc o])
  exact ⟨[Li acc o] ++ t, by rw [← List.append_assoc, ← h]; rfl⟩
theorem fD : ∀ (l : List Oper) (acc : List Nat) (k : Nat) (o : Oper), l[k]? = some o →
  ∃ OC t, OC.length = acc.length + k ∧ Cy l acc = OC ++ Li OC o :: t
 | [], acc, k, o, h => by simp at h
 | p :: l, acc, 0, o, h => by
  simp only [List.getElem?_cons_zero, Option.some.injEq] at h
  subst h
  obtain ⟨t, h⟩ := fE l (acc ++ [Li acc p])
  exact ⟨acc, t, rfl, by have : Cy (p :: l) acc = Cy l (acc ++ [Li acc p]) := rfl; rw [this, h]; simp⟩
 | p :: l, acc, k + 1, o, h => by
  simp only [List.getElem?_cons_succ] at h
  obtain ⟨OC, t, h1, h2⟩ := fD l (acc ++ [Li acc p]) k o h
  exact ⟨OC, t, by rw [h1]; simp; omega, by have : Cy (p :: l) acc = Cy l (acc ++ [Li acc p]) := rfl; rw [this, h2]⟩
theorem g0 (acc : List Nat) (b : Nat) : ∀ (l : List Edge) (s : Nat), (l.foldl (fun s e => if Region.binds .any e then s ||| 2 ^ e.on ||| ((nth acc e.on).getD 0) else s) s).testBit b = true ↔
  s.testBit b = true ∨ ∃ e ∈ l, Region.binds .any e = true ∧ (b = e.on ∨ ((nth acc e.on).getD 0).testBit b = true)
 | [], s => by simp
 | e :: l, s => by
  simp only [List.foldl_cons]
  rw [g0 acc b l]
  by_cases hb : Region.binds .any e = true
  ·simp only [hb, if_true, Nat.testBit_or, Nat.testBit_two_pow, Bool.or_eq_true, decide_eq_true_eq, List.mem_cons, exists_eq_or_imp, true_and]
   constructor
   ·rintro ((( h | h) | h) | h)
    ·exact .inl h
    ·exact .inr (.inl (.inl h.symm))
    ·exact .inr (.inl (.inr h))
    exact .inr (.inr h)
   rintro (h | (h | h) | h)
   ·exact .inl (.inl (.inl h))
   ·exact .inl (.inl (.inr h.symm))
   ·exact .inl (.inr h)
   exact .inr h
  simp [hb]
def bits (AE : List Nat) (i : Nat) : Nat := (nth AE i).getD 0
theorem pJ {full : List Oper} {i : Nat} {o : Oper} : (o, i) ∈ full.zipIdx ↔ full[i]? = some o := by
 rw [List.mem_zipIdx_iff_getElem?]
theorem Xu {full : List Oper} (hE : Rf full.zipIdx = true) {i : Nat} {o : Oper} (hi : full[i]? = some o) : ∀ e ∈ o.after.toList, Region.binds .any e = true → e.on < i := by
 intro e he hb
 unfold Rf at hE
 rw [List.all_eq_true] at hE
 have := hE (o, i) (pJ.2 hi)
 simp only [Bool.and_eq_true, List.all_eq_true] at this
 have := this.1 e he
 simpa [hb] using this
theorem rv {full : List Oper} (hE : Rf full.zipIdx = true) {i : Nat} {o : Oper} (hi : full[i]? = some o) (b : Nat) :
  (bits (Cy full []) i).testBit b = true ↔ ∃ e ∈ o.after.toList, Region.binds .any e = true ∧ (b = e.on ∨ (bits (Cy full []) e.on).testBit b = true) := by
 obtain ⟨OC, t, h1, h2⟩ := fD full [] i o hi
 simp only [List.length_nil, Nat.zero_add] at h1
 have e1 : bits (Cy full []) i = Li OC o := by
  unfold bits
  rw [CD, h2, List.getElem?_append_right (by omega)]
  simp [h1]
 rw [e1]
 unfold Li
 rw [g0]
 simp only [Nat.zero_testBit, Bool.false_eq_true, false_or]
 constructor
 ·rintro ⟨e, he, hb, hx⟩
  refine ⟨e, he, hb, ?_⟩
  have AJ := Xu hE hi e he hb
  unfold bits
  rw [CD, h2, List.getElem?_append_left (by omega), ← CD]
  exact hx
 rintro ⟨e, he, hb, hx⟩
 refine ⟨e, he, hb, ?_⟩
 have AJ := Xu hE hi e he hb
 unfold bits at hx
 rw [CD, h2, List.getElem?_append_left (by omega), ← CD] at hx
 exact hx
theorem ru {x y : Nat} (h : Ui x y = true) (b : Nat) (hb : x.testBit b = true) : y.testBit b = true := by
 unfold Ui at h
 have e : x &&& y = x := BV h
 rw [← e, Nat.testBit_and, Bool.and_eq_true] at hb
 exact hb.2
theorem Qh {full : List Oper} {AE : List Nat} {o : Oper} {i : Nat} {r : List (Oper × Nat)} {done : Nat} (h : MT full AE ((o, i) :: r) done = true) :
  done.testBit i = false ∧ (∀ b, (bits AE i).testBit b = true → done.testBit b = true) ∧ (kindOf o.op = .Ed → ∀ x ∈ r, (bits AE x.2).testBit i = true) ∧ MT full AE r (done ||| 2 ^ i) = true := by
 simp only [MT, Bool.and_eq_true, Bool.not_eq_true', Bool.or_eq_true, List.all_eq_true] at h
 refine ⟨h.1.1.1.2, ru h.1.1.2, fun hk x hx => ?_, h.2⟩
 rcases h.1.2 with h1 | h1
 ·simp [hk] at h1
 exact h1 x hx
theorem mR {full : List Oper} {AE : List Nat} : ∀ (l : List (Oper × Nat)) (done : Nat), MT full AE l done = true → ∀ i, i < full.length → done.testBit i = true ∨ ∃ o, (o, i) ∈ l
 | [], done, h, i, hi => by
  simp only [MT] at h
  rw [BV h, Nat.testBit_two_pow_sub_one]
  simp [hi]
 | (o, j) :: r, done, h, i, hi => by
  obtain ⟨_, _, _, h4⟩ := Qh h
  rcases mR r _ h4 i hi with h5 | ⟨p, h5⟩
  ·rw [Nat.testBit_or, Nat.testBit_two_pow, Bool.or_eq_true, decide_eq_true_eq] at h5
   rcases h5 with h5 | h5
   ·exact .inl h5
   subst h5; exact .inr ⟨o, by simp⟩
  exact .inr ⟨p, by simp [h5]⟩
theorem ae {full : List Oper} {AE : List Nat} : ∀ (l : List (Oper × Nat)), I3 full AE l = true → ∀ (k k' : Nat) (x y : Oper × Nat), k < k' → l[k]? = some x → l[k']? = some y → V4 full AE x.2 x.1 y.2 y.1 = true
 | [], _, k, k', x, y, _, h, _ => by simp at h
 | (o, i) :: l, h, k, k', x, y, hk, hx, hy => by
  simp only [I3, Bool.and_eq_true, List.all_eq_true] at h
  cases k' with
  | zero => omega
  | succ k' =>
   simp only [List.getElem?_cons_succ] at hy
   cases k with
   | zero =>
    simp only [List.getElem?_cons_zero, Option.some.injEq] at hx
    subst hx
    exact h.1 y (List.mem_of_getElem? hy)
   | succ k =>
    simp only [List.getElem?_cons_succ] at hx
    exact ae l h.2 k k' x y (by omega) hx hy
theorem Qf {full : List Oper} {AE : List Nat} (hP : I3 full AE full.zipIdx = true) {i j : Nat} {o p : Oper} (hi : full[i]? = some o) (hj : full[j]? = some p) (AR : i ≠ j) :
  (∀ d, o.dst = some d → d ∈ Jm full p → (bits AE j).testBit i = true ∨ (bits AE i).testBit j = true) ∧ (∀ d, o.dst = some d → p.dst ≠ some d) := by
 have kR : full.zipIdx[i]? = some (o, i) := by simp [hi]
 have kS : full.zipIdx[j]? = some (p, j) := by simp [hj]
 rcases Nat.lt_or_gt_of_ne AR with AJ | AJ
 ·have h := ae _ hP i j _ _ AJ kR kS
  simp only [V4, Bool.and_eq_true, Bool.or_eq_true] at h
  refine ⟨fun d hd hm => ?_, fun d hd he => ?_⟩
  ·rcases h.1 with h1 | h1
   ·exact .inl h1
   have := h1.1.2
   rw [hd] at this
   simp [hm] at this
  have := h.2
  rw [hd, he] at this
  simp at this
 have h := ae _ hP j i _ _ AJ kS kR
 simp only [V4, Bool.and_eq_true, Bool.or_eq_true] at h
 refine ⟨fun d hd hm => ?_, fun d hd he => ?_⟩
 ·rcases h.1 with h1 | h1
  ·exact .inr h1
  have := h1.2
  rw [hd] at this
  simp [hm] at this
 have := h.2
 rw [hd, he] at this
 simp at this
theorem V6 {AE : List Nat} : ∀ (l : List (Oper × Nat)) (done : Nat), ∀ x ∈ (O' AE l done).1, x ∈ l
 | [], done, x, h => by simp [O'] at h
 | (o, i) :: l, done, x, h => by
  simp only [O'] at h
  split at h
  ·exact List.mem_cons_of_mem _ (V6 l done x h)
  rcases List.mem_cons.1 h with h1 | h1
  ·subst h1; simp
  exact List.mem_cons_of_mem _ (V6 l _ x h1)
theorem mQ {AE : List Nat} {l : List (Oper × Nat)} : ∀ (r : List (Oper × Nat)) (done : Nat), (∀ x ∈ r, x ∈ l) → ∀ x ∈ V5 AE l r done, x ∈ l
 | [], done, _, x, h => V6 l done x h
 | (o, i) :: r, done, hr, x, h => by
  simp only [V5] at h
  rcases List.mem_append.1 h with h1 | h1
  ·exact V6 l done x h1
  rcases List.mem_cons.1 h1 with h2 | h2
  ·subst h2; exact hr _ (by simp)
  exact mQ r _ (fun y hy => hr y (by simp [hy])) x h2
theorem AA1 {full : List Oper} : ∀ x ∈ V7 full, full[x.2]? = some x.1 := by
 intro x hx
 have : x ∈ full.zipIdx := mQ _ _ (fun y hy => (List.mem_filter.1 hy).1) x hx
 exact pJ.1 this
theorem Nr {a a' : Ca} {dst : Option Tmp} {v : Value} (hn : a.n ≤ 256) (h : a.put dst v = some a') (t : Tmp) : a'.get t = if dst = some t then v else a.get t := by
 unfold Ca.put at h
 cases dst with
 | none => simp only [Option.some.injEq] at h; subst h; simp
 | some d =>
  simp only at h
  cases hb : Nat.blt d a.n with
  | false => rw [hb] at h; cases h
  | true =>
   rw [hb] at h
   simp only [cond_true, Option.some.injEq] at h
   subst h
   have hd := HA hb
   simp only [get_eq, M6, Option.some.injEq]
   rw [PT.U8 _ _ _ (by omega)]
   by_cases e : t = d
   ·subst e; simp
   rw [if_neg e, if_neg (fun h => e h.symm)]
theorem LW {a a' : Ca} {dst : Option Tmp} {v : Value} (h : a.put dst v = some a') : a'.n = a.n ∧ a'.defers = a.defers := by
 unfold Ca.put at h
 cases dst with
 | none => simp only [Option.some.injEq] at h; subst h; exact ⟨rfl, rfl⟩
 | some d =>
  simp only at h
  cases hb : Nat.blt d a.n with
  | false => rw [hb] at h; cases h
  | true =>
   rw [hb] at h
   simp only [cond_true, Option.some.injEq] at h
   subst h
   exact ⟨rfl, rfl⟩
theorem mi {a a' b : Ca} {dst : Option Tmp} {v : Value} (h : a.put dst v = some a') (hn : b.n = a.n) (v' : Value) : ∃ b', b.put dst v' = some b' := by
 unfold Ca.put at h ⊢
 cases dst with
 | none => exact ⟨_, rfl⟩
 | some d =>
  simp only at h ⊢
  cases hb : Nat.blt d a.n with
  | false => rw [hb] at h; cases h
  | true => rw [hn, hb]; exact ⟨_, rfl⟩
theorem AAI {full : List Oper} {o oj : Oper} {j : Nat} {x : Bool} {d : Tmp} (h : o.guard = some (j, x)) (h1 : nth full j = some oj) (h2 : oj.dst = some d) : d ∈ Jm full o := by
 unfold Jm
 simp only [h, h1, h2, List.append_assoc]
 exact List.mem_append_left _ (by simp)
theorem AAJ {full : List Oper} {o : Oper} {t : Tmp} (h : .tmp t ∈ o.op.operands) : t ∈ Jm full o := by
 unfold Jm
 exact List.mem_append_right _ (List.mem_filterMap.2 ⟨.tmp t, by simpa using h, rfl⟩)
theorem o9 {full : List Oper} {o : Oper} {a b : Ca} (h : ∀ t ∈ Jm full o, a.get t = b.get t) : CY full a o = CY full b o := by
 unfold CY
 cases hg : o.guard with
 | none => rfl
 | some q =>
  obtain ⟨j, x⟩ := q
  simp only
  cases hj : nth full j with
  | none => rfl
  | some oj =>
   simp only
   cases hd : oj.dst with
   | none => rfl
   | some d =>
    simp only
    have := h d (AAI hg hj hd)
    unfold Ca.get at this
    cases ha : a.t.get d with
    | none =>
     cases hb : b.t.get d with
     | none => rfl
     | some v => rw [ha, hb] at this; simp only at this; rw [← this]; rfl
    | some u =>
     cases hb : b.t.get d with
     | none => rw [ha, hb] at this; simp only at this; rw [this]; rfl
     | some v => rw [ha, hb] at this; simp only at this; rw [this]
theorem gd {full : List Oper} {o : Oper} {a b : Ca} (h : ∀ t ∈ Jm full o, a.get t = b.get t) : ∀ x, x ∈ o.op.operands → a.ev x = b.ev x := by
 intro x hx
 cases x with
 | tmp t => exact h t (AAJ hx)
 | const v => rfl
 | global g => rfl
 | func f => rfl
structure Pn where
 o : Oper
 i : Nat
 a : Ca
 v : Value
 b : Option Nat
inductive J0 (P : Program) (full : List Oper) (S : St) (AX : List (Nat × CZ)) (no : Nat → Bool) (q : Pn) : Prop
 | skip (h : CY full q.a q.o = false) (hv : q.v = undef) (hb : q.b = none)
 | read (h : CY full q.a q.o = true) (hk : kindOf q.o.op = .read) (hr : Cl P q.a.ev q.o.op S = some q.v) (hc : looks q.o.op = true → (q.i, CZ.read q.a q.o.op q.v) ∈ AX) (hb : q.b = none)
 | fresh (h : CY full q.a q.o = true) (hk : kindOf q.o.op = .fresh) {B : AD} {mk : Nat → Value} {b : Nat} {c : CZ} (hb : q.b = some b) (hv : q.v = mk b) (hB : S.get b = some B) (hc : (q.i, c) ∈ AX)
   (NI : ∀ S', c.ok P S' = true → S'.get b = some B) (Dx : no b = true) (DH : dy P q.o q.a.ev B mk)
theorem J0.grow {full : List Oper} {S S' : St} {AX Fv : List (Nat × CZ)} {no no' : Nat → Bool} {q : Pn} (h : J0 P full S AX no q) (hl : Le S S') (hc : ∀ x ∈ AX, x ∈ Fv) (hn : ∀ b, no b = true → no' b = true) : J0 P full S' Fv no' q := by
 cases h with
 | skip h hv hb => exact .skip h hv hb
 | read h hk hr Ar hb => exact .read h hk (ABe hl hr) (fun h => hc _ (Ar h)) hb
 | fresh h hk hb hv hB K' NI Dx DH => exact .fresh h hk hb hv (hl _ _ hB) (hc _ K') NI (hn _ Dx) DH
theorem J0.AEy {full : List Oper} {S S' : St} {AX Fv : List (Nat × CZ)} {no : Nat → Bool} {q : Pn} (h : J0 P full S AX no q) (VY : ∀ c, (q.i, c) ∈ AX → (q.i, c) ∈ Fv) (A3 : ∀ x ∈ Fv, x.2.ok P S' = true) : J0 P full S' Fv no q := by
 cases h with
 | skip h hv hb => exact .skip h hv hb
 | read h hk hr Ar hb =>
  refine .read h hk ?_ (fun h => VY _ (Ar h)) hb
  cases NT : looks q.o.op with
  | false => exact ABd NT hr
  | true =>
   have := A3 _ (VY _ (Ar NT))
   simp only [CZ.ok] at this
   split at this
   ·rename_i x hx
    rw [hx, PE _ _ _ this]
   cases this
 | fresh h hk hb hv hB K' NI Dx DH => exact .fresh h hk hb hv (NI _ (A3 _ (VY _ K'))) (VY _ K') NI Dx DH
theorem J0.no {full : List Oper} {S : St} {AX : List (Nat × CZ)} {no no' : Nat → Bool} {q : Pn} (h : J0 P full S AX no q) (hn : ∀ b, q.b = some b → no b = true → no' b = true) : J0 P full S AX no' q := by
 cases h with
 | skip h hv hb => exact .skip h hv hb
 | read h hk hr Ar hb => exact .read h hk hr Ar hb
 | fresh h hk hb hv hB K' NI Dx DH => exact .fresh h hk hb hv hB K' NI (hn _ hb Dx) DH
abbrev AE (full : List Oper) (i : Nat) : Nat := bits (Cy full []) i
structure Inv (P : Program) (ih : Bo) (full : List Oper) (e : Exit) (a1 : Ca) (S1 : St) (w0 : Bn) (ρ0 : AF) (Ls : Nat → Prop) (ar : Act) (w : World)
  (BG : List Pn) (rest : List (Oper × Nat)) (AX : List (Nat × CZ)) (a : Ca) (S : St) (A : Ca) (no : Nat → Bool) (ρ : AF) (done : Nat) : Prop where
 run : Ce P ih full (Cy full []) rest AX a S = some (e, a1, S1)
 I4 : MT full (Cy full []) rest done = true
 mem : ∀ x ∈ rest, full[x.2]? = some x.1
 K1 : ∀ x, done.testBit x = true ↔ Ls x ∨ ∃ q ∈ BG, q.i = x
 cls : ∀ j, Ls j → ∀ b, (AE full j).testBit b = true → Ls b
 I5 : ∀ q ∈ BG, full[q.i]? = some q.o
 Nq : ∀ q ∈ BG, ¬ Ls q.i
 Qj : ∀ q ∈ BG, ∀ q' ∈ BG, q.i = q'.i → q = q'
 O7 : ∀ q ∈ BG, ∀ b, (AE full q.i).testBit b = true → done.testBit b = true
 V9 : ∀ q ∈ BG, J0 P full S AX no q
 WA : ∀ q ∈ BG, ∃ a', q.a.put q.o.dst q.v = some a'
 pn : ∀ q ∈ BG, q.a.n = a.n
 An : A.n = a.n ∧ A.defers = a.defers
 Pa : ∀ t, (∀ q ∈ BG, q.o.dst ≠ some t) → A.get t = a.get t
 V3 : ∀ q ∈ BG, ∀ t ∈ Jm full q.o, (∀ j ∈ BG, (AE full q.i).testBit j.i = true → j.o.dst ≠ some t) → A.get t = q.a.get t
 TX : ∀ q ∈ BG, ∀ d, q.o.dst = some d → a.get d = q.v
 V' : ∀ q ∈ BG, ∀ j ∈ BG, (AE full q.i).testBit j.i = true → ∀ d, j.o.dst = some d → q.a.get d = j.v
 OF : ∀ x, no x = true ↔ w0.no x = true ∨ ∃ q ∈ BG, q.b = some x
 bw : ∀ q ∈ BG, ∀ x, q.b = some x → w0.no x = false
 RW : ∀ q ∈ BG, ∀ q' ∈ BG, ∀ x, q.b = some x → q'.b = some x → q.i = q'.i
 ext : Ext ρ0 ρ
 Kh : AO P ⟨w0.toWorld, no⟩ ρ S w
 act : CP ρ A ar
section
variable {ih : Bo} {full : List Oper} {e : Exit} {a1 : Ca} {S1 : St} {ρ0 : AF} {Ls : Nat → Prop} {ar : Act} {w : World}
 {BG : List Pn} {rest : List (Oper × Nat)} {AX : List (Nat × CZ)} {a : Ca} {S : St} {A : Ca} {no : Nat → Bool} {ρ : AF} {done : Nat}
theorem Uh {x i j : Nat} : (x ||| 2 ^ i).testBit j = true ↔ x.testBit j = true ∨ j = i := by
 rw [Nat.testBit_or, Nat.testBit_two_pow, Bool.or_eq_true, decide_eq_true_eq]
 constructor <;> (rintro (h | h) <;> first | exact .inl h | exact .inr h.symm)
theorem Inv.push (hP : I3 full (Cy full []) full.zipIdx = true) {o : Oper} {i : Nat} {r : List (Oper × Nat)} (h : Inv P ih full e a1 S1 w0 ρ0 Ls ar w BG ((o, i) :: r) AX a S A no ρ done)
  {v : Value} {b : Option Nat} {a' : Ca} {S' : St} {Fv : List (Nat × CZ)} {no' : Nat → Bool} (Be : a.put o.dst v = some a') (DH : Ce P ih full (Cy full []) r Fv a' S' = some (e, a1, S1))
  (hl : Le S S') (hc : ∀ x ∈ AX, x ∈ Fv) (Dx : ∀ x, no' x = true ↔ no x = true ∨ b = some x) (hb : ∀ x, b = some x → no x = false) (Sn : AO P ⟨w0.toWorld, no'⟩ ρ S' w)
  (hq : J0 P full S' Fv no' ⟨o, i, a, v, b⟩) : Inv P ih full e a1 S1 w0 ρ0 Ls ar w (BG ++ [⟨o, i, a, v, b⟩]) r Fv a' S' A no' ρ (done ||| 2 ^ i) := by
 obtain ⟨hd, L6, _, Cr⟩ := Qh h.I4
 have hi : full[i]? = some o := h.mem (o, i) (by simp)
 have hn : a.n ≤ 256 := by rw [← h.An.1]; exact h.act.le
 have CW : ¬ (done.testBit i = true) := by rw [hd]; simp
 have H8 : ∀ q ∈ BG, q.i ≠ i := fun q hq e => CW ((h.K1 i).2 (.inr ⟨q, hq, e⟩))
 have BU : ∀ q, q ∈ BG ++ [⟨o, i, a, v, b⟩] ↔ q ∈ BG ∨ q = ⟨o, i, a, v, b⟩ := fun q => by simp
 refine ⟨DH, Cr, fun x hx => h.mem x (by simp [hx]), fun x => ?_, h.cls, ?_, ?_, ?_, ?_, ?_, ?_, ?_, ?_, ?_, ?_, ?_, ?_, ?_, ?_, ?_, h.ext, Sn, h.act⟩
 ·rw [Uh, h.K1]
  constructor
  ·rintro ((h1 | ⟨q, hq, h1⟩) | h1)
   ·exact .inl h1
   ·exact .inr ⟨q, (BU q).2 (.inl hq), h1⟩
   exact .inr ⟨_, (BU _).2 (.inr rfl), h1.symm⟩
  rintro (h1 | ⟨q, hq, h1⟩)
  ·exact .inl (.inl h1)
  rcases (BU q).1 hq with hq | rfl
  ·exact .inl (.inr ⟨q, hq, h1⟩)
  exact .inr h1.symm
 ·intro q hq
  rcases (BU q).1 hq with hq | rfl
  ·exact h.I5 q hq
  exact hi
 ·intro q hq
  rcases (BU q).1 hq with hq | rfl
  ·exact h.Nq q hq
  exact fun hl => CW ((h.K1 i).2 (.inl hl))
 ·intro q hq q' Gj he
  rcases (BU q).1 hq with hq | rfl
  ·rcases (BU q').1 Gj with Gj | rfl
   ·exact h.Qj q hq q' Gj he
   exact absurd he (H8 q hq)
  rcases (BU q').1 Gj with Gj | rfl
  ·exact absurd he.symm (H8 q' Gj)
  rfl
 ·intro q hq x hx
  refine Uh.2 (.inl ?_)
  rcases (BU q).1 hq with hq | rfl
  ·exact h.O7 q hq x hx
  exact L6 x hx
 ·intro q Gj
  rcases (BU q).1 Gj with Gj | rfl
  ·exact (h.V9 q Gj).grow hl hc (fun x hx => (Dx x).2 (.inl hx))
  exact hq
 ·intro q hq
  rcases (BU q).1 hq with hq | rfl
  ·exact h.WA q hq
  exact ⟨_, Be⟩
 ·intro q hq
  rw [(LW Be).1]
  rcases (BU q).1 hq with hq | rfl
  ·exact h.pn q hq
  rfl
 ·rw [(LW Be).1, (LW Be).2]; exact h.An
 ·intro t ht
  rw [Nr hn Be, if_neg (ht ⟨o, i, a, v, b⟩ ((BU _).2 (.inr rfl)))]
  exact h.Pa t fun q hq => ht q ((BU q).2 (.inl hq))
 ·intro q hq t ht QK
  rcases (BU q).1 hq with hq | rfl
  ·exact h.V3 q hq t ht fun j hj => QK j ((BU j).2 (.inl hj))
  refine h.Pa t fun j hj he => ?_
  rcases (Qf hP (h.I5 j hj) hi (H8 j hj)).1 t he ht with h1 | h1
  ·exact QK j ((BU j).2 (.inl hj)) h1 he
  exact CW (h.O7 j hj i h1)
 ·intro q hq d QL
  rw [Nr hn Be]
  rcases (BU q).1 hq with hq | rfl
  ·rw [if_neg ((Qf hP (h.I5 q hq) hi (H8 q hq)).2 d QL)]
   exact h.TX q hq d QL
  rw [if_pos QL]
 ·intro q hq j hj SG d jY
  rcases (BU q).1 hq with hq | rfl
  ·rcases (BU j).1 hj with hj | rfl
   ·exact h.V' q hq j hj SG d jY
   exact absurd (h.O7 q hq i SG) CW
  rcases (BU j).1 hj with hj | rfl
  ·exact h.TX j hj d jY
  exact absurd (L6 i SG) CW
 ·intro x
  rw [Dx, h.OF]
  constructor
  ·rintro ((h1 | ⟨q, hq, h1⟩) | h1)
   ·exact .inl h1
   ·exact .inr ⟨q, (BU q).2 (.inl hq), h1⟩
   exact .inr ⟨_, (BU _).2 (.inr rfl), h1⟩
  rintro (h1 | ⟨q, hq, h1⟩)
  ·exact .inl (.inl h1)
  rcases (BU q).1 hq with hq | rfl
  ·exact .inl (.inr ⟨q, hq, h1⟩)
  exact .inr h1
 ·intro q hq x hx
  rcases (BU q).1 hq with hq | rfl
  ·exact h.bw q hq x hx
  have h1 := hb x hx
  cases h2 : w0.no x with
  | false => rfl
  | true => rw [(h.OF x).2 (.inl h2)] at h1; cases h1
 intro q hq q' Gj x hx BZ
 rcases (BU q).1 hq with hq | rfl
 ·rcases (BU q').1 Gj with Gj | rfl
  ·exact h.RW q hq q' Gj x hx BZ
  have := hb x BZ
  rw [(h.OF x).2 (.inr ⟨q, hq, hx⟩)] at this
  cases this
 rcases (BU q').1 Gj with Gj | rfl
 ·have := hb x hx
  rw [(h.OF x).2 (.inr ⟨q', Gj, BZ⟩)] at this
  cases this
 rfl
theorem zQ {S : St} (B : AD) (h : S.get S.size = none) : Le S ⟨S.heap.set S.size (some B), S.size + 1⟩ := by
 intro b C hC
 simp only [St.get, Cf.HQ] at hC h ⊢
 rw [if_neg (fun e => by rw [e, h] at hC; cases hC)]
 exact hC
theorem Inv.RO (hP : I3 full (Cy full []) full.zipIdx = true) : ∀ (rest : List (Oper × Nat)) (BG : List Pn) (AX : List (Nat × CZ)) (a : Ca) (S : St) (no : Nat → Bool) (done : Nat),
  Inv P ih full e a1 S1 w0 ρ0 Ls ar w BG rest AX a S A no ρ done →
  ∃ mL Tk Fv a' S' no' Uv, Inv P ih full e a1 S1 w0 ρ0 Ls ar w mL Tk Fv a' S' A no' ρ Uv ∧ mL.length + Tk.length = BG.length + rest.length ∧
   (∀ o i r, Tk = (o, i) :: r → CY full a' o = true ∧ kindOf o.op = .Ed)
 | [], BG, AX, a, S, no, done, h => ⟨BG, [], AX, a, S, no, done, h, rfl, fun o i r he => by cases he⟩
 | (o, i) :: r, BG, AX, a, S, no, done, h => by
  have hr := h.run
  unfold Ce at hr
  cases hw : CY full a o with
  | false =>
   rw [hw] at hr
   simp only [cond_false] at hr
   split at hr
   ·rename_i a' Be
    have h2 := h.push hP (v := undef) (b := none) (no' := no) Be hr (fun _ _ h => h) (fun _ h => h) (fun x => by simp) (fun x hx => by cases hx) h.Kh (.skip hw rfl rfl)
    obtain ⟨p', r', c', OB, S', no', d', h3, h4, h5⟩ := Inv.RO hP r _ _ _ _ _ _ h2
    exact ⟨p', r', c', OB, S', no', d', h3, by rw [h4]; simp; omega, h5⟩
   cases hr
  | true =>
   rw [hw] at hr
   simp only [cond_true] at hr
   split at hr
   ·rename_i hk
    split at hr
    ·rename_i v hv
     split at hr
     ·rename_i a' Be
      have h2 := h.push hP (v := v) (b := none) (no' := no) Be hr (fun _ _ h => h) (fun x hx => by cases looks o.op <;> simp [hx]) (fun x => by simp) (fun x hx => by cases hx) h.Kh
       (.read hw hk hv (fun NT => by simp [NT]) rfl)
      obtain ⟨p', r', c', OB, S', no', d', h3, h4, h5⟩ := Inv.RO hP r _ _ _ _ _ _ h2
      exact ⟨p', r', c', OB, S', no', d', h3, by rw [h4]; simp; omega, h5⟩
     cases hr
    cases hr
   ·rename_i hk
    split at hr
    ·rename_i v S' hv
     split at hr
     ·rename_i a' c Be HY Ir
      obtain ⟨B, mk, rfl, rfl, DH⟩ := AAX hv
      have hB : (⟨S.heap.set S.size (some B), S.size + 1⟩ : St).get S.size = some B := by
       simp only [St.get, Cf.HQ]
       rw [if_pos trivial]
      have w8 : no S.size = false := by
       cases hx : no S.size with
       | false => rfl
       | true => exact absurd (h.Kh.no _ hx).2 (Nat.lt_irrefl _)
      have Og : ∀ x, (no x || x == S.size) = true ↔ no x = true ∨ some S.size = some x := by
       intro x
       rw [Bool.or_eq_true, beq_iff_eq, Option.some.injEq]
       constructor <;> (rintro (h | h) <;> first | exact .inl h | exact .inr h.symm)
      have h2 := h.push hP (v := mk S.size) (b := some S.size) (no' := fun x => no x || x == S.size) Be hr (zQ B Ir) (fun x hx => by simp [hx]) Og
       (fun x hx => by cases hx; exact w8)
       (h.Kh.AE7 B (fun x hx => by rcases (Og x).1 hx with h1 | h1 <;> first | exact .inl h1 | exact .inr (Option.some.inj h1).symm))
       (.fresh hw hk rfl rfl hB (List.mem_cons_self ..) (fun Ks A3 => sl HY hB A3) ((Og _).2 (.inr rfl)) DH)
      obtain ⟨p', r', c', OB, S', no', d', h3, h4, h5⟩ := Inv.RO hP r _ _ _ _ _ _ h2
      exact ⟨p', r', c', OB, S', no', d', h3, by rw [h4]; simp; omega, h5⟩
     cases hr
    cases hr
   rename_i hk
   exact ⟨BG, (o, i) :: r, AX, a, S, no, done, h, rfl, fun o' i' r' he => by cases he; exact ⟨hw, hk⟩⟩
theorem Inv.drop (hP : I3 full (Cy full []) full.zipIdx = true) (h : Inv P ih full e a1 S1 w0 ρ0 Ls ar w BG rest AX a S A no ρ done) {q : Pn} (hq : q ∈ BG) (Fz : ∀ b, (AE full q.i).testBit b = true → Ls b)
  {A' : Ca} {CQ : Act} {w' : World} {ρ' : AF} {no' : Nat → Bool} (Be : A.put q.o.dst q.v = some A') (Dx : ∀ x, no' x = true ↔ no x = true ∧ q.b ≠ some x) (hx : Ext ρ ρ')
  (hs : AO P ⟨w0.toWorld, no'⟩ ρ' S w') (L5 : CP ρ' A' CQ) :
  Inv P ih full e a1 S1 w0 ρ0 (fun x => Ls x ∨ x = q.i) CQ w' (BG.filter fun x => !(x.i == q.i)) rest AX a S A' no' ρ' done := by
 have hn : A.n ≤ 256 := h.act.le
 have BU : ∀ x, x ∈ (BG.filter fun x => !(x.i == q.i)) ↔ x ∈ BG ∧ x.i ≠ q.i := fun x => by simp [List.mem_filter]
 have ZF := h.I5 q hq
 refine ⟨h.run, h.I4, h.mem, fun x => ?_, ?_, ?_, ?_, ?_, ?_, ?_, ?_, ?_, ?_, ?_, ?_, ?_, ?_, ?_, ?_, ?_, h.ext.trans hx, hs, L5⟩
 ·rw [h.K1]
  constructor
  ·rintro (h1 | ⟨p, hp, h1⟩)
   ·exact .inl (.inl h1)
   by_cases he : p.i = q.i
   ·exact .inl (.inr (h1 ▸ he))
   exact .inr ⟨p, (BU p).2 ⟨hp, he⟩, h1⟩
  rintro ((h1 | h1) | ⟨p, hp, h1⟩)
  ·exact .inl h1
  ·exact .inr ⟨q, hq, h1.symm⟩
  exact .inr ⟨p, ((BU p).1 hp).1, h1⟩
 ·rintro j (hj | hj) b hb
  ·exact .inl (h.cls j hj b hb)
  subst hj; exact .inl (Fz b hb)
 ·intro p hp; exact h.I5 p ((BU p).1 hp).1
 ·rintro p hp (h1 | h1)
  ·exact h.Nq p ((BU p).1 hp).1 h1
  exact ((BU p).1 hp).2 h1
 ·intro p hp p' Oh; exact h.Qj p ((BU p).1 hp).1 p' ((BU p').1 Oh).1
 ·intro p hp; exact h.O7 p ((BU p).1 hp).1
 ·intro p hp
  refine (h.V9 p ((BU p).1 hp).1).no fun b hb NU => (Dx b).2 ⟨NU, fun he => ?_⟩
  exact ((BU p).1 hp).2 (h.RW p ((BU p).1 hp).1 q hq b hb he)
 ·intro p hp; exact h.WA p ((BU p).1 hp).1
 ·intro p hp; exact h.pn p ((BU p).1 hp).1
 ·rw [(LW Be).1, (LW Be).2]; exact h.An
 ·intro t ht
  rw [Nr hn Be]
  by_cases he : q.o.dst = some t
  ·rw [if_pos he]; exact (h.TX q hq t he).symm
  rw [if_neg he]
  refine h.Pa t fun p hp jy => ?_
  by_cases H8 : p.i = q.i
  ·have := h.Qj p hp q hq H8
   subst this
   exact he jy
  exact ht p ((BU p).2 ⟨hp, H8⟩) jy
 ·intro p hp t ht QK
  have G8 := (BU p).1 hp
  rw [Nr hn Be]
  by_cases he : q.o.dst = some t
  ·rw [if_pos he]
   rcases (Qf hP ZF (h.I5 p G8.1) (fun e => G8.2 e.symm)).1 t he ht with h1 | h1
   ·exact (h.V' p G8.1 q hq h1 t he).symm
   exact absurd (Fz _ h1) (h.Nq p G8.1)
  rw [if_neg he]
  refine h.V3 p G8.1 t ht fun j hj SG ja => ?_
  by_cases jZ : j.i = q.i
  ·have := h.Qj j hj q hq jZ
   subst this
   exact he ja
  exact QK j ((BU j).2 ⟨hj, jZ⟩) SG ja
 ·intro p hp; exact h.TX p ((BU p).1 hp).1
 ·intro p hp j hj; exact h.V' p ((BU p).1 hp).1 j ((BU j).1 hj).1
 ·intro x
  rw [Dx, h.OF]
  constructor
  ·rintro ⟨h1 | ⟨p, hp, h1⟩, h2⟩
   ·exact .inl h1
   refine .inr ⟨p, (BU p).2 ⟨hp, fun he => ?_⟩, h1⟩
   have := h.Qj p hp q hq he
   subst this
   exact h2 h1
  rintro (h1 | ⟨p, hp, h1⟩)
  ·refine ⟨.inl h1, fun he => ?_⟩
   have := h.bw q hq x he
   rw [h1] at this; cases this
  have G8 := (BU p).1 hp
  exact ⟨.inr ⟨p, G8.1, h1⟩, fun he => G8.2 (h.RW p G8.1 q hq x h1 he)⟩
 ·intro p hp; exact h.bw p ((BU p).1 hp).1
 intro p hp p' Oh; exact h.RW p ((BU p).1 hp).1 p' ((BU p').1 Oh).1
theorem Inv.head (hP : I3 full (Cy full []) full.zipIdx = true) {o : Oper} {i : Nat} {r : List (Oper × Nat)} (h : Inv P ih full e a1 S1 w0 ρ0 Ls ar w BG ((o, i) :: r) AX a S A no ρ done)
  (Fz : ∀ b, (AE full i).testBit b = true → Ls b) {v : Value} {a' A' : Ca} {S' : St} (Be : a.put o.dst v = some a') (H9 : A.put o.dst v = some A')
  (DH : Ce P ih full (Cy full []) r (AX.filter fun x => !(AE full i).testBit x.1) a' S' = some (e, a1, S1)) (A3 : ∀ x ∈ (AX.filter fun x => !(AE full i).testBit x.1), x.2.ok P S' = true)
  {CQ : Act} {w' : World} {ρ' : AF} (hx : Ext ρ ρ') (hs : AO P ⟨w0.toWorld, no⟩ ρ' S' w') (L5 : CP ρ' A' CQ) :
  Inv P ih full e a1 S1 w0 ρ0 (fun x => Ls x ∨ x = i) CQ w' BG r (AX.filter fun x => !(AE full i).testBit x.1) a' S' A' no ρ' (done ||| 2 ^ i) := by
 obtain ⟨hd, L6, _, Cr⟩ := Qh h.I4
 have hi : full[i]? = some o := h.mem (o, i) (by simp)
 have hn : a.n ≤ 256 := by rw [← h.An.1]; exact h.act.le
 have jn : A.n ≤ 256 := h.act.le
 have CW : ¬ (done.testBit i = true) := by rw [hd]; simp
 have H8 : ∀ q ∈ BG, q.i ≠ i := fun q hq e => CW ((h.K1 i).2 (.inr ⟨q, hq, e⟩))
 have KO : ∀ q ∈ BG, ¬ ((AE full i).testBit q.i = true) := fun q hq hb => h.Nq q hq (Fz _ hb)
 refine ⟨DH, Cr, fun x hx => h.mem x (by simp [hx]), fun x => ?_, ?_, h.I5, ?_, h.Qj, ?_, ?_, h.WA, ?_, ?_, ?_, ?_, ?_, h.V', h.OF, h.bw, h.RW, h.ext.trans hx, hs, L5⟩
 ·rw [Uh, h.K1]
  constructor
  ·rintro ((h1 | h1) | h1)
   ·exact .inl (.inl h1)
   ·exact .inr h1
   exact .inl (.inr h1)
  rintro ((h1 | h1) | h1)
  ·exact .inl (.inl h1)
  ·exact .inr h1
  exact .inl (.inr h1)
 ·rintro j (hj | hj) b hb
  ·exact .inl (h.cls j hj b hb)
  subst hj; exact .inl (Fz b hb)
 ·rintro q hq (h1 | h1)
  ·exact h.Nq q hq h1
  exact H8 q hq h1
 ·intro q hq b hb; exact Uh.2 (.inl (h.O7 q hq b hb))
 ·intro q hq
  refine (h.V9 q hq).AEy (fun c hc => List.mem_filter.2 ⟨hc, ?_⟩) A3
  cases hb : (AE full i).testBit q.i with
  | false => rfl
  | true => exact absurd hb (KO q hq)
 ·intro q hq; rw [(LW Be).1]; exact h.pn q hq
 ·rw [(LW Be).1, (LW Be).2, (LW H9).1, (LW H9).2]; exact h.An
 ·intro t ht
  rw [Nr hn Be, Nr jn H9]
  by_cases he : o.dst = some t
  ·rw [if_pos he, if_pos he]
  rw [if_neg he, if_neg he]; exact h.Pa t ht
 ·intro q hq t ht QK
  rw [Nr jn H9, if_neg (fun he => ?_)]
  ·exact h.V3 q hq t ht QK
  rcases (Qf hP hi (h.I5 q hq) (fun e => H8 q hq e.symm)).1 t he ht with h1 | h1
  ·exact CW (h.O7 q hq i h1)
  exact KO q hq h1
 intro q hq d QL
 rw [Nr hn Be, if_neg ((Qf hP (h.I5 q hq) hi (H8 q hq)).2 d QL)]
 exact h.TX q hq d QL
end
end Go.Cm
