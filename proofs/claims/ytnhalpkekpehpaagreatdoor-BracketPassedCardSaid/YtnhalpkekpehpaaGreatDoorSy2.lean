/-
  The evaluator of the model, and that it is sound: part 6.
-/
import Derived.KernelRfl
import Derived.Test.YtnhalpkekpehpaaGreatDoorSy1
namespace Go.Cm
open Go
variable {P : Program} {K : A1}
def Ca.wd (a : Ca) (ds : List Deferred) : Ca := { a with defers := ds }
theorem JD {a a' : Ca} {d : Option Tmp} {v : Value} (h : a.put d v = some a') (ds : List Deferred) : (a.wd ds).put d v = some (a'.wd ds) ∧ a'.defers = a.defers := by
 cases d with
 | none => cases h; exact ⟨rfl, rfl⟩
 | some d =>
  unfold Ca.put at h ⊢
  simp only at h ⊢
  show (bif Nat.blt d a.n then _ else _) = _ ∧ _
  cases hb : Nat.blt d a.n with
  | true => rw [hb] at h; cases h; exact ⟨rfl, rfl⟩
  | false => rw [hb] at h; cases h
section
variable {ih : Bo} {full : List Oper}
theorem bW : ∀ (l : List Oper) {x x' : Ca} {S S' : St} {e : Exit}, E1 P ih full l x S = some (e, x', S') → x'.defers = x.defers ∧ ∀ ds, E1 P ih full l (x.wd ds) S = some (e, x'.wd ds, S')
 | [], x, x', S, S', e, h => by cases h; exact ⟨rfl, fun _ => rfl⟩
 | o :: l, x, x', S, S', e, h => by
  unfold E1 at h
  cases hw : CY full x o with
  | true =>
   rw [hw] at h
   simp only [cond_true] at h
   split at h
   ·rename_i v S1 hs
    split at h
    ·rename_i x1 hp
     obtain ⟨h1, h2⟩ := bW l h
     refine ⟨h1.trans (JD hp []).2, fun ds => ?_⟩
     unfold E1
     rw [show CY full (x.wd ds) o = true from hw]
     simp only [cond_true]
     rw [show CF P ih (x.wd ds).ev o.op S = some (.val v, S1) from hs]
     simp only [(JD hp ds).1]
     exact h2 ds
    cases h
   ·rename_i ch S1 hs
    cases h
    refine ⟨rfl, fun ds => ?_⟩
    unfold E1
    rw [show CY full (x.wd ds) o = true from hw]
    simp only [cond_true]
    rw [show CF P ih (x.wd ds).ev o.op S = some (.A6 ch, S') from hs]
   cases h
  | false =>
   rw [hw] at h
   simp only [cond_false] at h
   split at h
   ·rename_i x1 hp
    obtain ⟨h1, h2⟩ := bW l h
    refine ⟨h1.trans (JD hp []).2, fun ds => ?_⟩
    unfold E1
    rw [show CY full (x.wd ds) o = false from hw]
    simp only [cond_false, (JD hp ds).1]
    exact h2 ds
   cases h
def OH (ds : List Deferred) : Nat × CZ → Nat × CZ
 | (i, .read a op v) => (i, .read (a.wd ds) op v)
 | x => x
theorem sk (ds : List Deferred) (S : St) (x : Nat × CZ) : (OH ds x).2.ok P S = x.2.ok P S := by
 obtain ⟨i, c⟩ := x
 cases c <;> rfl
theorem sj (ds : List Deferred) (x : Nat × CZ) : (OH ds x).1 = x.1 := by
 obtain ⟨i, c⟩ := x
 cases c <;> rfl
theorem ff (ds : List Deferred) (m : Nat) : ∀ AX : List (Nat × CZ), (AX.map (OH ds)).filter (fun x => !m.testBit x.1) = (AX.filter fun x => !m.testBit x.1).map (OH ds)
 | [] => rfl
 | x :: l => by
  rw [List.map_cons, List.filter_cons, List.filter_cons, sj, ff ds m l]
  split <;> rfl
theorem fe (ds : List Deferred) (S : St) : ∀ AX : List (Nat × CZ), ((AX.map (OH ds)).all fun x => x.2.ok P S) = AX.all fun x => x.2.ok P S
 | [] => rfl
 | x :: l => by rw [List.map_cons, List.all_cons, List.all_cons, sk, fe ds S l]
theorem Tp {AE : List Nat} : ∀ (l : List (Oper × Nat)) {AX : List (Nat × CZ)} {x x' : Ca} {S S' : St} {e : Exit}, Ce P ih full AE l AX x S = some (e, x', S') → x'.defers = x.defers ∧ ∀ ds, Ce P ih full AE l (AX.map (OH ds)) (x.wd ds) S = some (e, x'.wd ds, S')
 | [], AX, x, x', S, S', e, h => by cases h; exact ⟨rfl, fun _ => rfl⟩
 | (o, i) :: l, AX, x, x', S, S', e, h => by
  unfold Ce at h
  cases hw : CY full x o with
  | true =>
   rw [hw] at h
   simp only [cond_true] at h
   split at h
   ·rename_i hk
    split at h
    ·rename_i v hr
     split at h
     ·rename_i x1 hp
      obtain ⟨h1, h2⟩ := Tp l h
      refine ⟨h1.trans (JD hp []).2, fun ds => ?_⟩
      unfold Ce
      rw [show CY full (x.wd ds) o = true from hw, hk]
      simp only [cond_true]
      rw [show Cl P (x.wd ds).ev o.op S = some v from hr]
      simp only [(JD hp ds).1]
      have := h2 ds
      cases hl : looks o.op with
      | true => rw [hl] at this; exact this
      | false => rw [hl] at this; exact this
     cases h
    cases h
   ·rename_i hk
    split at h
    ·rename_i v S1 hr
     split at h
     ·rename_i x1 c hp hc hn
      obtain ⟨h1, h2⟩ := Tp l h
      refine ⟨h1.trans (JD hp []).2, fun ds => ?_⟩
      unfold Ce
      rw [show CY full (x.wd ds) o = true from hw, hk]
      simp only [cond_true]
      rw [show C1 P (x.wd ds).ev o.op S = some (v, S1) from hr]
      simp only [(JD hp ds).1, hc, hn]
      have := h2 ds
      have jK : OH ds (i, c) = (i, c) := by
       unfold J7 at hc
       split at hc
       ·cases hc; rfl
       ·cases hc; rfl
       cases hc
      rw [List.map_cons, jK] at this
      exact this
     cases h
    cases h
   rename_i hk
   split at h
   ·rename_i v S1 hr
    split at h
    ·rename_i x1 hp
     cases hb : ((AX.filter fun x => !((nth AE i).getD 0).testBit x.1).all fun x => x.2.ok P S1) with
     | false => rw [hb] at h; cases h
     | true =>
      rw [hb] at h
      simp only [cond_true] at h
      obtain ⟨h1, h2⟩ := Tp l h
      refine ⟨h1.trans (JD hp []).2, fun ds => ?_⟩
      unfold Ce
      rw [show CY full (x.wd ds) o = true from hw, hk]
      simp only [cond_true]
      rw [show CF P ih (x.wd ds).ev o.op S = some (.val v, S1) from hr]
      simp only [(JD hp ds).1, ff, fe, hb, cond_true]
      exact h2 ds
    cases h
   cases h
  | false =>
   rw [hw] at h
   simp only [cond_false] at h
   split at h
   ·rename_i x1 hp
    obtain ⟨h1, h2⟩ := Tp l h
    refine ⟨h1.trans (JD hp []).2, fun ds => ?_⟩
    unfold Ce
    rw [show CY full (x.wd ds) o = false from hw]
    simp only [cond_false, (JD hp ds).1]
    exact h2 ds
   cases h
end
def dv (ih : Bo) : Prop := ∀ ro c x S e x' S', ih.exec ro c x S = some (e, x', S') → ∃ k, x'.defers = k ++ x.defers ∧ ∀ ds, ih.exec ro c (x.wd ds) S = some (e, x'.wd (k ++ ds), S')
def WC (ro : Option Nat) (S : St) : Option (Nat × List Deferred × St) := match ro with
 | none => match S.new (.defs false) with
  | (r, S1) => some (r, [{ target := .collected r, args := #[] }], S1)
 | some l => match EN S l with
  | some (_, _, _, _, _, _, _, d) => some (d, [], S)
  | none => none
def MV (a' : Ca) (l : Nat) (S3 : St) : Option (LoopState × Option Code × Nat × Tm × List Tmp × Code × Code × Nat) → Option (Exit × Ca × St)
 | some (st, p, n, t, ps, x, y, d) => bif (st == LoopState.busy) then none else match p with
  | none => some (.normal, a', S3.set l (.loop .exhausted p n t ps x y d))
  | some .ret => some (.ret, a', S3.set l (.loop .exhausted p n t ps x y d))
  | some (.exit id) => some (.exit id, a', S3.set l (.loop .exhausted p n t ps x y d))
  | _ => none
 | none => none
def PA (ih : Bo) (params : Array Tmp) (assign body : Code) (fn : Fn) (first cap : Array Value) (a : Ca) : Option (Nat × List Deferred × St) → Option (Exit × Ca × St)
 | some (d, mark, S1) => match ih.call (.fn fn cap) (first.toList ++ [.func (.yield S1.size) #[] #[]]) (S1.new (.loop .ready none a.n a.t params.toList assign body d)).2 with
  | some (.returned _, S3) => MV { a with defers := mark ++ a.defers } S1.size S3 (EN S3 S1.size)
  | some (.panicked ch, S3) => some (.panic ch, { a with defers := mark ++ a.defers }, S3)
  | _ => none
 | none => none
theorem X4 {ih : Bo} {ro : Option Nat} {f : Operand} {params : Array Tmp} {assign body : Code} {a : Ca} {S : St} : Aq P ih ro (.rangeFunc f params assign body) a S = match a.ev f with
  | .func fn first cap => bif isConst f || !J4 P fn then none else PA ih params assign body fn first cap a (WC ro S)
  | _ => none := by
 simp only [Aq]
 cases a.ev f with
 | func fn first cap =>
  simp only
  cases (isConst f || !J4 P fn) with
  | true => rfl
  | false =>
   simp only [cond_false]
   unfold WC PA
   cases ro with
   | none =>
    simp only
    show (match ih.call (.fn fn cap) (first.toList ++ [.func (.yield (S.new (.defs false)).2.size) #[] #[]]) ((S.new (.defs false)).2.new (.loop .ready none a.n a.t params.toList assign body (S.new (.defs false)).1)).2 with
     | some (.returned _, S3) => _
     | some (.panicked ch, S3) => _
     | _ => none) = _
    cases ih.call (.fn fn cap) (first.toList ++ [.func (.yield (S.new (.defs false)).2.size) #[] #[]]) ((S.new (.defs false)).2.new (.loop .ready none a.n a.t params.toList assign body (S.new (.defs false)).1)).2 with
    | none => rfl
    | some r =>
     obtain ⟨e, S3⟩ := r
     cases e with
     | returned v => rfl
     | panicked ch => rfl
     | _ => rfl
   | some l =>
    simp only
    cases EN S l with
    | none => rfl
    | some q =>
     obtain ⟨q1, q2, q3, q4, q5, q6, q7, d⟩ := q
     simp only
     show (match ih.call (.fn fn cap) (first.toList ++ [.func (.yield S.size) #[] #[]]) (S.new (.loop .ready none a.n a.t params.toList assign body d)).2 with
      | some (.returned _, S3) => _
      | some (.panicked ch, S3) => _
      | _ => none) = _
     cases ih.call (.fn fn cap) (first.toList ++ [.func (.yield S.size) #[] #[]]) (S.new (.loop .ready none a.n a.t params.toList assign body d)).2 with
     | none => rfl
     | some r =>
      obtain ⟨e, S3⟩ := r
      cases e with
      | returned v => rfl
      | panicked ch => rfl
      | _ => rfl
 | _ => rfl
theorem ABC {a' : Ca} {l : Nat} {S3 S' : St} {e : Exit} {x' : Ca} : ∀ q, MV a' l S3 q = some (e, x', S') → x' = a' ∧ ∀ b, MV b l S3 q = some (e, b, S')
 | none, h => by cases h
 | some (st, p, n, t, ps, x, y, d), h => by
  unfold MV at h ⊢
  simp only at h ⊢
  cases hb : (st == LoopState.busy) with
  | true => rw [hb] at h; cases h
  | false =>
   rw [hb] at h
   simp only [cond_false] at h
   split at h
   ·cases h; exact ⟨rfl, fun b => rfl⟩
   ·cases h; exact ⟨rfl, fun b => rfl⟩
   ·cases h; exact ⟨rfl, fun b => rfl⟩
   cases h
theorem ABD {ih : Bo} {params : Array Tmp} {assign body : Code} {fn : Fn} {first cap : Array Value} {x x' : Ca} {S' : St} {e : Exit} : ∀ q, PA ih params assign body fn first cap x q = some (e, x', S') → ∃ k, x'.defers = k ++ x.defers ∧ ∀ ds, PA ih params assign body fn first cap (x.wd ds) q = some (e, x'.wd (k ++ ds), S')
 | none, h => by cases h
 | some (d, mark, S1), h => by
  unfold PA at h ⊢
  simp only at h ⊢
  split at h
  ·rename_i v S3 hx
   obtain ⟨rfl, h2⟩ := ABC _ h
   refine ⟨mark, rfl, fun ds => ?_⟩
   show (match ih.call (.fn fn cap) (first.toList ++ [.func (.yield S1.size) #[] #[]]) (S1.new (.loop .ready none x.n x.t params.toList assign body d)).2 with
    | some (.returned _, S3) => MV { (x.wd ds) with defers := mark ++ (x.wd ds).defers } S1.size S3 (EN S3 S1.size)
    | some (.panicked ch, S3) => some (.panic ch, { (x.wd ds) with defers := mark ++ (x.wd ds).defers }, S3)
    | _ => none) = _
   rw [hx]
   exact h2 _
  ·rename_i ch S3 hx
   cases h
   refine ⟨mark, rfl, fun ds => ?_⟩
   show (match ih.call (.fn fn cap) (first.toList ++ [.func (.yield S1.size) #[] #[]]) (S1.new (.loop .ready none x.n x.t params.toList assign body d)).2 with
    | some (.returned _, S3) => MV { (x.wd ds) with defers := mark ++ (x.wd ds).defers } S1.size S3 (EN S3 S1.size)
    | some (.panicked ch, S3) => some (.panic ch, { (x.wd ds) with defers := mark ++ (x.wd ds).defers }, S3)
    | _ => none) = _
   rw [hx]
   rfl
  cases h
theorem tf {ih : Bo} (hd : dv ih) {ro : Option Nat} {code : Code} {x x' : Ca} {S S' : St} {e : Exit} (h : Aq P ih ro code x S = some (e, x', S')) : ∃ k, x'.defers = k ++ x.defers ∧ ∀ ds, Aq P ih ro code (x.wd ds) S = some (e, x'.wd (k ++ ds), S') := by
 cases code with
 | skip => cases h; exact ⟨[], rfl, fun _ => rfl⟩
 | label _ => cases h; exact ⟨[], rfl, fun _ => rfl⟩
 | exit _ => cases h; exact ⟨[], rfl, fun _ => rfl⟩
 | ret => cases h; exact ⟨[], rfl, fun _ => rfl⟩
 | goto _ => cases h
 | refuse _ => cases h
 | region i ops d =>
  simp only [Aq] at h ⊢
  cases hc : DZ P ops.toList with
  | false => rw [hc] at h; cases h
  | true =>
   rw [hc] at h
   simp only [cond_true] at h ⊢
   cases d with
   | true =>
    simp only [cond_true] at h ⊢
    unfold Nw at h ⊢
    split at h
    ·rename_i AE pl hp
     obtain ⟨h1, h2⟩ := Tp pl h
     exact ⟨[], h1, fun ds => h2 ds⟩
    cases h
   | false =>
    simp only [cond_false] at h ⊢
    obtain ⟨h1, h2⟩ := bW _ h
    exact ⟨[], h1, fun ds => h2 ds⟩
 | seq y z =>
  simp only [Aq] at h ⊢
  cases hx : ih.exec ro y x S with
  | none => rw [hx] at h; cases h
  | some r =>
   obtain ⟨e1, x1, S1⟩ := r
   rw [hx] at h
   obtain ⟨k1, a1, b1⟩ := hd _ _ _ _ _ _ _ hx
   cases e1 with
   | normal =>
    simp only at h
    obtain ⟨k2, a2, b2⟩ := hd _ _ _ _ _ _ _ h
    refine ⟨k2 ++ k1, by rw [a2, a1, List.append_assoc], fun ds => ?_⟩
    rw [b1 ds]
    simp only
    have := b2 (k1 ++ ds)
    rw [List.append_assoc]
    exact this
   | _ =>
    cases h
    exact ⟨k1, a1, fun ds => by rw [b1 ds]⟩
 | cond c y z =>
  simp only [Aq] at h ⊢
  split at h
  ·rename_i b hb
   obtain ⟨k1, a1, b1⟩ := hd _ _ _ _ _ _ _ h
   refine ⟨k1, a1, fun ds => ?_⟩
   rw [show (x.wd ds).ev c = .bool b from hb]
   exact b1 ds
  cases h
 | block i c =>
  simp only [Aq] at h ⊢
  cases hx : ih.exec ro c x S with
  | none => rw [hx] at h; cases h
  | some r =>
   obtain ⟨e1, x1, S1⟩ := r
   rw [hx] at h
   obtain ⟨k1, a1, b1⟩ := hd _ _ _ _ _ _ _ hx
   cases e1 with
   | exit j =>
    simp only at h
    cases hj : Nat.beq j i with
    | true => rw [hj] at h; cases h; exact ⟨k1, a1, fun ds => by rw [b1 ds]; simp only [hj, cond_true]⟩
    | false => rw [hj] at h; cases h; exact ⟨k1, a1, fun ds => by rw [b1 ds]; simp only [hj, cond_false]⟩
   | _ =>
    cases h
    exact ⟨k1, a1, fun ds => by rw [b1 ds]⟩
 | loop c =>
  simp only [Aq] at h ⊢
  cases hx : ih.exec ro c x S with
  | none => rw [hx] at h; cases h
  | some r =>
   obtain ⟨e1, x1, S1⟩ := r
   rw [hx] at h
   obtain ⟨k1, a1, b1⟩ := hd _ _ _ _ _ _ _ hx
   cases e1 with
   | normal =>
    simp only at h
    obtain ⟨k2, a2, b2⟩ := hd _ _ _ _ _ _ _ h
    refine ⟨k2 ++ k1, by rw [a2, a1, List.append_assoc], fun ds => ?_⟩
    rw [b1 ds]
    simp only
    have := b2 (k1 ++ ds)
    rw [List.append_assoc]
    exact this
   | _ =>
    cases h
    exact ⟨k1, a1, fun ds => by rw [b1 ds]⟩
 | scope c =>
  simp only [Aq] at h ⊢
  cases hx : ih.exec ro c x S with
  | none => rw [hx] at h; cases h
  | some r =>
   obtain ⟨e1, x1, S1⟩ := r
   rw [hx] at h
   obtain ⟨k1, a1, b1⟩ := hd _ _ _ _ _ _ _ hx
   cases e1 with
   | goto j => cases h
   | _ =>
    cases h
    exact ⟨k1, a1, fun ds => by rw [b1 ds]⟩
 | rangeFunc f params assign body =>
  rw [X4] at h
  split at h
  ·rename_i fn first cap hf
   cases hc : (isConst f || !J4 P fn) with
   | true => rw [hc] at h; cases h
   | false =>
    rw [hc] at h
    simp only [cond_false] at h
    obtain ⟨k, h1, h2⟩ := ABD _ h
    refine ⟨k, h1, fun ds => ?_⟩
    rw [X4, show (x.wd ds).ev f = .func fn first cap from hf]
    simp only [hc, cond_false]
    exact h2 ds
  cases h
theorem gx : ∀ m, dv (fns P K m)
 | 0 => fun _ _ _ _ _ _ _ h => by cases h
 | m + 1 => fun _ _ _ _ _ _ _ h => tf (gx m) h
def CT (P : Program) (K : A1) (t : Target) (args : List Value) (S : St) (Q : Ending → St → Prop) : Prop :=
 ∃ m r S', Mt P K (fns P K m) t args S = some (r, S') ∧ Q r S'
def CE (P : Program) (K : A1) (f : FuncId) (args : List Value) (S : St) (Q : Ending → St → Prop) : Prop :=
 ∃ m r S', Et P K (fns P K m) f args S = some (r, S') ∧ Q r S'
theorem Es {t : Target} {args : List Value} {S : St} {Q Q' : Ending → St → Prop} (h : CT P K t args S Q') (hq : ∀ r S', Q' r S' → Q r S') : CT P K t args S Q := by
 obtain ⟨m, r, S', h1, h2⟩ := h
 exact ⟨m, r, S', h1, hq _ _ h2⟩
theorem Lp {f : FuncId} {cap : Array Value} {args : List Value} {S : St} {Q : Ending → St → Prop} (h : CE P K f (args ++ cap.toList) S Q) : CT P K (.fn (.func f) cap) args S Q := h
theorem Mu {f : FuncId} {args : List Value} {S : St} {Q : Value → St → Prop} (h : CC P K f args S Q) : CE P K f args S fun r S' => ∃ v, r = .returned v ∧ Q v S' := by
 obtain ⟨m, v, S', h1, h2⟩ := h
 exact ⟨m, _, S', h1, v, rfl, h2⟩
def XD (P : Program) (K : A1) (n : Nat) (ro : Option Nat) (c : Code) (L : Env) (S : St) (ds : List Deferred) (Q : Exit → Env → St → List Deferred → Prop) : Prop :=
 ∀ a, Has n (a.wd []) L → a.defers = ds → ∃ m e a' S' L', (fns P K m).exec ro c a S = some (e, a', S') ∧ Has n (a'.wd []) L' ∧ Q e L' S' a'.defers
section
variable {n : Nat} {ro : Option Nat} {L : Env} {S : St} {ds : List Deferred} {Q : Exit → Env → St → List Deferred → Prop}
theorem BE {c : Code} (h : XE P K n ro c L S fun e L' S' => Q e L' S' ds) : XD P K n ro c L S ds Q := by
 intro a ha hd
 obtain ⟨m, e, a', S', L', h1, h2, h3⟩ := h _ ha
 obtain ⟨k, k1, k2⟩ := gx m _ _ _ _ _ _ _ h1
 have hk : k = [] := by
  have e1 : a'.defers = k ++ [] := k1
  rw [h2.df, List.append_nil] at e1
  exact e1.symm
 subst hk
 have := k2 ds
 have ea : (a.wd []).wd ds = a := by subst hd; rfl
 rw [ea] at this
 refine ⟨m, e, a'.wd ([] ++ ds), S', L', this, ?_, h3⟩
 have : (a'.wd ([] ++ ds)).wd [] = a' := by
  have := h2.df
  cases a'
  simp only at this
  subst this
  rfl
 rw [this]
 exact h2
def eJ (P : Program) (K : A1) (n : Nat) (ro : Option Nat) (y : Code) (Q : Exit → Env → St → List Deferred → Prop) : Exit → Env → St → List Deferred → Prop := fun e L S ds => match e with
 | .normal => XD P K n ro y L S ds Q
 | e => Q e L S ds
theorem AFG {x y : Code} (h : XD P K n ro x L S ds (eJ P K n ro y Q)) : XD P K n ro (.seq x y) L S ds Q := by
 intro a ha hd
 obtain ⟨m, e, a', S', L', h1, h2, h3⟩ := h a ha hd
 cases e with
 | normal =>
  obtain ⟨m2, e2, a2, S2, L2, k1, k2, k3⟩ := h3 a' h2 rfl
  refine ⟨max m m2 + 1, e2, a2, S2, L2, ?_, k2, k3⟩
  show Aq P (fns P K (max m m2)) ro (.seq x y) a S = _
  simp only [Aq]
  rw [K3 (Nat.le_max_left m m2) h1]
  exact K3 (Nat.le_max_right m m2) k1
 | _ =>
  refine ⟨m + 1, _, a', S', L', ?_, h2, h3⟩
  show Aq P (fns P K m) ro (.seq x y) a S = _
  simp only [Aq]
  rw [h1]
theorem BX {c : Code} (hk : pK c = 3) (h : XD P K n ro (pA c) L S ds (eJ P K n ro (pB c) Q)) : XD P K n ro c L S ds Q := by
 cases c <;> first | exact AFG h | (rename_i d; cases d <;> cases hk) | cases hk
def yh : Code → Bool
 | .rangeFunc .. => true
 | _ => false
def nG : Code → Operand
 | .rangeFunc f _ _ _ => f
 | _ => .const undef
def BO : Code → List Tmp
 | .rangeFunc _ p _ _ => p.toList
 | _ => []
def BL : Code → Code
 | .rangeFunc _ _ a _ => a
 | c => c
def BN : Code → Code
 | .rangeFunc _ _ _ b => b
 | c => c
def pw (l : Nat) (mark : List Deferred) (ds : List Deferred) (L : Env) (Q : Exit → Env → St → List Deferred → Prop) : Ending → St → Prop := fun r S3 => match r with
 | .returned _ => ∃ st p n t ps x y d, S3.get l = some (.loop st p n t ps x y d) ∧ (st == LoopState.busy) = false ∧ (match p with
  | none => Q .normal L (S3.set l (.loop .exhausted p n t ps x y d)) (mark ++ ds)
  | some .ret => Q .ret L (S3.set l (.loop .exhausted p n t ps x y d)) (mark ++ ds)
  | some (.exit id) => Q (.exit id) L (S3.set l (.loop .exhausted p n t ps x y d)) (mark ++ ds)
  | _ => False)
 | .panicked ch => Q (.panic ch) L S3 (mark ++ ds)
 | _ => False
def IH (d : Nat) : Deferred := { target := .collected d, args := #[] }
theorem Mh {c : Code} {g : FuncId} {fi ca : Array Value} (hk : yh c = true) (hf : Ae L (nG c) = some (.func (.func g) fi ca)) (hc : isConst (nG c) = false) (hb : J4 P (.func g) = true)
  (h : ∀ t, Has n ⟨n, t, []⟩ L → CT P K (.fn (.func g) ca) (fi.toList ++ [.func (.yield (S.size + 1)) #[] #[]]) ((S.new (.defs false)).2.new (.loop .ready none n t (BO c) (BL c) (BN c) S.size)).2 (pw (S.size + 1) [IH S.size] ds L Q)) :
  XD P K n none c L S ds Q := by
 cases c with
 | rangeFunc f params assign body =>
  intro a ha hd
  have hn : a.n = n := ha.nn
  have Aa : a.ev f = .func (.func g) fi ca := ha.ev hf
  have jB : Has n ⟨n, a.t, []⟩ L := by
   obtain ⟨m, t, dd⟩ := a
   obtain rfl : m = n := hn
   exact ha
  obtain ⟨m, r, S3, h1, h2⟩ := h a.t jB
  have hx : (fns P K (m + 1)).call (.fn (.func g) ca) (fi.toList ++ [.func (.yield (S.new (.defs false)).2.size) #[] #[]]) ((S.new (.defs false)).2.new (.loop .ready none a.n a.t params.toList assign body S.size)).2 = some (r, S3) := by
   rw [hn]; exact h1
  have QE : (fns P K (m + 2)).exec none (.rangeFunc f params assign body) a S = PA (fns P K (m + 1)) params assign body (.func g) fi ca a (WC none S) := by
   show Aq P (fns P K (m + 1)) none (.rangeFunc f params assign body) a S = _
   rw [X4, Aa]
   simp only
   have FV : isConst f = false := hc
   rw [FV, hb]
   rfl
  have Ag : PA (fns P K (m + 1)) params assign body (.func g) fi ca a (WC none S) = (match some (r, S3) with
   | some (.returned _, S3) => MV { a with defers := [IH S.size] ++ a.defers } (S.size + 1) S3 (EN S3 (S.size + 1))
   | some (.panicked ch, S3) => some (.panic ch, { a with defers := [IH S.size] ++ a.defers }, S3)
   | _ => none) := by
   show (match (fns P K (m + 1)).call (.fn (.func g) ca) (fi.toList ++ [.func (.yield (S.new (.defs false)).2.size) #[] #[]]) ((S.new (.defs false)).2.new (.loop .ready none a.n a.t params.toList assign body S.size)).2 with
    | some (.returned _, S3) => MV { a with defers := [IH S.size] ++ a.defers } (S.size + 1) S3 (EN S3 (S.size + 1))
    | some (.panicked ch, S3) => some (.panic ch, { a with defers := [IH S.size] ++ a.defers }, S3)
    | _ => none) = _
   rw [hx]
  rw [Ag] at QE
  have hw : ∀ x, Has n (Ca.wd { a with defers := x } []) L := fun x => ha
  cases r with
  | returned v =>
   obtain ⟨st, p, n2, t2, ps, x, y, d2, e1, e2, e3⟩ := h2
   have FG : EN S3 (S.size + 1) = some (st, p, n2, t2, ps, x, y, d2) := by unfold EN; rw [e1]
   simp only [FG, MV, e2, cond_false] at QE
   subst hd
   cases p with
   | none => exact ⟨m + 2, _, _, _, L, QE, hw _, e3⟩
   | some q =>
    cases q with
    | ret => exact ⟨m + 2, _, _, _, L, QE, hw _, e3⟩
    | exit id => exact ⟨m + 2, _, _, _, L, QE, hw _, e3⟩
    | _ => exact e3.elim
  | panicked ch =>
   subst hd
   exact ⟨m + 2, _, _, _, L, QE, hw _, h2⟩
  | _ => exact h2.elim
 | _ => cases hk
end
def pq (l : Nat) (Q : Ending → St → Prop) : Bi := fun e _ S2 => ∃ st p n t ps x y d, S2.get l = some (.loop st p n t ps x y d) ∧ (match e with
 | .normal => Q (.returned (.bool true)) (S2.set l (.loop .ready none n t ps x y d))
 | .ret => Q (.returned (.bool false)) (S2.set l (.loop .done (some .ret) n t ps x y d))
 | .exit id => Q (.returned (.bool false)) (S2.set l (.loop .done (some (.exit id)) n t ps x y d))
 | _ => False)
def aq : List Tmp → List Value → Env → Env
 | p :: ps, v :: vs, L => aq ps vs ((p, v) :: L)
 | _, _, L => L
theorem nh {n : Nat} : ∀ {ps : List Tmp} {vs : List Value} {t : Tm} {L : Env}, Has n ⟨n, t, []⟩ L → ps.length = vs.length → (ps.all fun p => Nat.blt p n) = true → ∃ t', PH n t ps vs = some t' ∧ Has n ⟨n, t', []⟩ (aq ps vs L)
 | [], [], t, L, h, _, _ => ⟨t, rfl, h⟩
 | p :: ps, v :: vs, t, L, h, hl, ha => by
  rw [List.all_cons, Bool.and_eq_true] at ha
  obtain ⟨a', h1, h2⟩ := h.put ha.1 v
  unfold Ca.put at h1
  simp only [ha.1, cond_true] at h1
  cases h1
  obtain ⟨t', k1, k2⟩ := nh (ps := ps) (vs := vs) h2 (by simpa using hl) ha.2
  refine ⟨t', ?_, k2⟩
  unfold PH
  rw [ha.1]
  exact k1
 | [], _ :: _, _, _, _, hl, _ => by simp at hl
 | _ :: _, [], _, _, _, hl, _ => by simp at hl
theorem Lq {l n d : Nat} {p : Option Code} {t : Tm} {ps : List Tmp} {x y : Code} {args : List Value} {L : Env} {S : St} {Q : Ending → St → Prop} (hg : S.get l = some (.loop .ready p n t ps x y d)) (ht : Has n ⟨n, t, []⟩ L) (hl : ps.length = args.length) (ha : (ps.all fun p => Nat.blt p n) = true)
  (h : XE P K n (some l) x (aq ps args L) S fun e L1 S1 => e = .normal ∧ ∃ p1 n1 t1 I6 x1 y1 d1, S1.get l = some (.loop .ready p1 n1 t1 I6 x1 y1 d1) ∧ XE P K n (some l) y L1 (S1.set l (.loop .busy p1 n1 t1 I6 x1 y1 d1)) (pq l Q)) :
  CT P K (.fn (.yield l) #[]) args S Q := by
 obtain ⟨t', hs, hh⟩ := nh ht hl ha
 obtain ⟨m, e, a1, S1, L1, h1, h2, rfl, p1, n1, t1, I6, x1, y1, d1, Yu, h3⟩ := h _ hh
 obtain ⟨m2, e2, a2, S2, L2, k1, _, st, p2, n2, t2, Ke, x2, y2, d2, SQ, k3⟩ := h3 _ h2
 have hn : Nat.blt 256 n = false := by rw [PT.FQ]; exact decide_eq_false (by have := ht.le; omega)
 have FG : EN S l = some (.ready, p, n, t, ps, x, y, d) := by unfold EN; rw [hg]
 have Y6 : EN S1 l = some (.ready, p1, n1, t1, I6, x1, y1, d1) := by unfold EN; rw [Yu]
 have SV : EN S2 l = some (st, p2, n2, t2, Ke, x2, y2, d2) := by unfold EN; rw [SQ]
 have key : ∀ r, (match e2 with
   | .normal => some (Ending.returned (.bool true), S2.set l (.loop .ready none n2 t2 Ke x2 y2 d2))
   | .ret => some (.returned (.bool false), S2.set l (.loop .done (some .ret) n2 t2 Ke x2 y2 d2))
   | .exit id => some (.returned (.bool false), S2.set l (.loop .done (some (.exit id)) n2 t2 Ke x2 y2 d2))
   | _ => none) = some r → Mt P K (fns P K (max m m2)) (.fn (.yield l) #[]) args S = some r := by
  intro r hr
  show Nu (fns P K (max m m2)) l args S = some r
  unfold Nu
  simp only [FG, hn, cond_false, hs, K3 (Nat.le_max_left m m2) h1, Y6, K3 (Nat.le_max_right m m2) k1, SV]
  exact hr
 cases e2 with
 | normal => exact ⟨_, _, _, key _ rfl, k3⟩
 | ret => exact ⟨_, _, _, key _ rfl, k3⟩
 | exit id => exact ⟨_, _, _, key _ rfl, k3⟩
 | _ => exact k3.elim
section
variable {n : Nat} {ro : Option Nat} {L : Env} {S : St} {Q : Bi} {ops : List Oper} {i d : Nat} {o : Oper}
def pZ (P : Program) (K : A1) (n : Nat) (ops : List Oper) (i d : Nat) (L : Env) (Q : Bi) : Ending → St → Prop := fun r S' => match r with
 | .returned v => RE P K n ops (i + 1) ((d, v) :: L) S' Q
 | .panicked ch => Q (.panic ch) L S'
 | _ => False
theorem I8 {x : Operand} {as : Array Operand} {ts : Array TypeId} {fn : Fn} {fi ca : Array Value} {vs : List Value} (ho : nth ops i = some o) (AH : o.op = .call ⟨.value x, as, ts⟩) (hw : As ops L o = some true)
  (hd : o.dst = some d) (hn : Nat.blt d n = true) (hx : Ae L x = some (.func fn fi ca)) (hv : DE L as.toList = some vs)
  (h : CT P K (.fn fn ca) (fi.toList ++ vs) S (pZ P K n ops i d L Q)) : RE P K n ops i L S Q := by
 intro a ha
 obtain ⟨m, r, S', h1, h2⟩ := h
 have NZ : ∀ q, (match r with
   | .returned v => some (N8.val v)
   | .panicked ch => some (.A6 ch)
   | _ => none) = some q → CF P (fns P K (m + 1)) a.ev o.op S = some (q, S') := by
  intro q hq
  rw [AH]
  unfold CF
  simp only [kindOf, Kw, ha.ev hx, Ii ha hv]
  have : (fns P K (m + 1)).call (.fn fn ca) (fi.toList ++ vs) S = some (r, S') := h1
  rw [this]
  cases r with
  | returned v => cases hq; rfl
  | panicked ch => cases hq; rfl
  | _ => cases hq
 cases r with
 | returned v =>
  obtain ⟨a1, hp, Cc⟩ := ha.put hn v
  obtain ⟨m2, e, a', S2, L', k1, k2, k3⟩ := h2 a1 Cc
  refine ⟨max (m + 1) m2, e, a', S2, L', ?_, k2, k3⟩
  rw [EU _ _ _ ho]
  unfold E1
  rw [E3 ha hw, Jr (EV (Nat.le_max_left (m + 1) m2)) (NZ _ rfl)]
  simp only [cond_true, hd, hp]
  exact Qs (EV (Nat.le_max_right (m + 1) m2)) _ k1
 | panicked ch =>
  refine ⟨m + 1, _, a, S', L, ?_, ha, h2⟩
  rw [EU _ _ _ ho]
  unfold E1
  rw [E3 ha hw, NZ _ rfl]
  rfl
 | _ => exact h2.elim
end
def dq (P : Program) (rs : List ResultVar) (Q : Ending → St → Prop) : Bi := fun e L S => match e with
 | .normal => ∃ vs, Dy P L S rs = some vs ∧ Q (.returned (AN vs)) S
 | .ret => ∃ vs, Dy P L S rs = some vs ∧ Q (.returned (AN vs)) S
 | .panic ch => Q (.panicked ch) S
 | _ => False
theorem sc {f : FuncId} {fn : Func} {c : Code} {args : List Value} {S : St} {Q : Ending → St → Prop} {n : Nat} (hf : P.funcs[f]? = some fn) (hb : fn.body = some c) (hk : K.call f args S = none) (hd : K.defers f = false) (Ez : (fn.name == "runtime.NumGoroutine") = false)
  (hn : DK fn.ntmps args.length = n) (EY : Nat.ble n 256 = true) (h : XE P K n none c (Ka 0 args) S (dq P fn.results.toList Q)) : CE P K f args S Q := by
 have EY := Nat.le_of_ble_eq_true EY
 have hl : args.length ≤ n := by
  rw [← hn]
  unfold DK
  cases hb : Nat.ble fn.ntmps args.length with
  | true => exact Nat.le_refl _
  | false =>
   have : ¬ fn.ntmps ≤ args.length := fun e => by rw [Nat.ble_eq_true_of_le e] at hb; cases hb
   simp only [cond_false]
   omega
 obtain ⟨m, e, a', S', L', h1, h2, h3⟩ := h _ (SF EY hl)
 have L7 : Nat.blt 256 n = false := by
  rw [PT.FQ]; exact decide_eq_false (by omega)
 have key : ∀ q, (match e with
   | .normal | .ret => (match Dq P a' S' fn.results.toList with
    | some [v] => some (Ending.returned v, S')
    | some vs => some (.returned (.tuple vs.toArray), S')
    | none => none)
   | .panic ch => some (.panicked ch, S')
   | _ => none) = some q → Et P K (fns P K m) f args S = some q := by
  intro q hq
  unfold Et
  rw [hk]
  simp only [hd, cond_false]
  unfold Lt
  rw [hf]
  simp only [hb, Ez, Bool.false_or, hn, L7, cond_false, h1]
  cases e with
  | normal => simp only [h2.df, Fj]; exact hq
  | ret => simp only [h2.df, Fj]; exact hq
  | panic ch => simp only [h2.df, Fj]; exact hq
  | _ => cases hq
 cases e with
 | normal =>
  obtain ⟨vs, k1, k2⟩ := h3
  exact ⟨m, _, S', key _ (by simp only [Mc h2 k1]; exact UC vs S'), k2⟩
 | ret =>
  obtain ⟨vs, k1, k2⟩ := h3
  exact ⟨m, _, S', key _ (by simp only [Mc h2 k1]; exact UC vs S'), k2⟩
 | panic ch => exact ⟨m, _, S', key _ rfl, h3⟩
 | _ => exact h3.elim
abbrev J1 := Exit → Env → St → List Deferred → Prop
def N9 (P : Program) (K : A1) (n : Nat) (ops : List Oper) (i : Nat) (L : Env) (S : St) (ds : List Deferred) (Q : J1) : Prop :=
 ∀ a, Has n (a.wd []) L → a.defers = ds → ∃ m e a' S' L', Hi P (fns P K m) ops (ops.drop i) a S = some (e, a', S') ∧ Has n (a'.wd []) L' ∧ Q e L' S' a'.defers
theorem ACB {ih : Bo} {full rest : List Oper} {o : Oper} {a a1 : Ca} {S S1 : St} {v : Value} (hd : TH o = false) (hw : CY full a o = true) (hs : CF P ih a.ev o.op S = some (.val v, S1)) (hp : a.put o.dst v = some a1) :
  Hi P ih full (o :: rest) a S = Hi P ih full rest a1 S1 := by
 rw [Hi]
 rw [hw]
 simp only [cond_true]
 unfold TH at hd
 split
 ·rename_i c hc; rw [hc] at hd; cases hd
 rw [hs]; simp only [hp]
section
variable {n : Nat} {L : Env} {S : St} {ds : List Deferred} {Q : J1} {ops : List Oper} {i d : Nat} {o : Oper}
theorem ABj (hi : Nat.ble ops.length i = true) (h : Q .normal L S ds) : N9 P K n ops i L S ds Q := by
 intro a ha hd
 refine ⟨0, _, a, S, L, ?_, ha, by rw [hd]; exact h⟩
 rw [List.drop_eq_nil_of_le (Nat.le_of_ble_eq_true hi)]
 rfl
theorem AFC {a : Ca} {v : Value} {d : Nat} (ha : Has n (a.wd []) L) (hn : Nat.blt d n = true) : ∃ a1, a.put (some d) v = some a1 ∧ Has n (a1.wd []) ((d, v) :: L) ∧ a1.defers = a.defers := by
 obtain ⟨b, h1, h2⟩ := ha.put hn v
 have h0 : a = (a.wd []).wd a.defers := rfl
 obtain ⟨k1, k2⟩ := JD h1 a.defers
 refine ⟨b.wd a.defers, by rw [h0]; exact k1, ?_, rfl⟩
 have : (b.wd a.defers).wd [] = b := by
  have := h2.df
  cases b
  simp only at this
  subst this
  rfl
 rw [this]
 exact h2
theorem ABl {v : Value} (ho : nth ops i = some o) (hw : As ops L o = some true) (hd : o.dst = some d) (hn : Nat.blt d n = true) (hr : Rd P n L S o v) (h : N9 P K n ops (i + 1) ((d, v) :: L) S ds Q) : N9 P K n ops i L S ds Q := by
 intro a ha MA
 obtain ⟨a1, hp, Cc, KE⟩ := AFC (v := v) ha hn
 obtain ⟨m2, e, a', S2, L', h1, h2, h3⟩ := h a1 Cc (KE.trans MA)
 refine ⟨m2, e, a', S2, L', ?_, h2, h3⟩
 rw [EU _ _ _ ho]
 have CW : TH o = false := by
  unfold TH
  split
  ·rename_i c hc
   have := hr.1
   rw [hc] at this
   cases this
  rfl
 rw [ACB (v := v) (S1 := S) CW (show CY ops a o = true from E3 ha hw) ?_ (by rw [hd]; exact hp)]
 ·exact h1
 unfold CF
 rw [hr.1]
 simp only
 rw [show Cl P a.ev o.op S = some v from hr.2 (a.wd []) ha]
theorem ABi {x : Operand} {as : Array Operand} {ts : Array TypeId} {f : FuncId} {fi ca : Array Value} {vs : List Value} (ho : nth ops i = some o) (AH : o.op = .defer ⟨.value x, as, ts⟩) (hw : As ops L o = some true) (hd : o.dst = none)
  (hx : Ae L x = some (.func (.func f) fi ca)) (hv : DE L as.toList = some vs) (h : N9 P K n ops (i + 1) L S ({ target := .fn (.func f) ca, args := (fi.toList ++ vs).toArray } :: ds) Q) : N9 P K n ops i L S ds Q := by
 intro a ha MA
 have Aa : a.ev x = .func (.func f) fi ca := ha.ev hx
 have F1 : as.toList.map a.ev = vs := Ii ha hv
 obtain ⟨m2, e, a', S2, L', h1, h2, h3⟩ := h { a with defers := { target := .fn (.func f) ca, args := (fi.toList ++ vs).toArray } :: a.defers } ha (by rw [MA])
 refine ⟨m2, e, a', S2, L', ?_, h2, h3⟩
 rw [EU _ _ _ ho]
 rw [Hi, show CY ops a o = true from E3 ha hw]
 simp only [cond_true, AH, Xp, Aa, F1, hd, Ca.put]
 exact h1
end
def XX (P : Program) (K : A1) (k n : Nat) (c : Code) (L : Env) (S : St) (ds : List Deferred) (Q : J1) : Prop :=
 ∀ a, Has n (a.wd []) L → a.defers = ds → ∃ m e a' S' L', Fw P (fns P K m) k c a S = some (e, a', S') ∧ Has n (a'.wd []) L' ∧ Q e L' S' a'.defers
def eM (P : Program) (K : A1) (k n : Nat) (y : Code) (Q : J1) : J1 := fun e L S ds => match e with
 | .normal => XX P K k n y L S ds Q
 | e => Q e L S ds
def AA0 : Code → Bool
 | .seq _ _ => false
 | .cond _ _ _ => false
 | .region _ ops _ => !NG ops.toList
 | _ => true
section
variable {k n : Nat} {L : Env} {S : St} {ds : List Deferred} {Q : J1} {c : Code}
theorem N3 (hk : pK c = 3) (h : XX P K k n (pA c) L S ds (eM P K k n (pB c) Q)) : XX P K (k + 1) n c L S ds Q := by
 have key : ∀ x y, XX P K k n x L S ds (eM P K k n y Q) → XX P K (k + 1) n (.seq x y) L S ds Q := by
  intro x y h a ha hd
  obtain ⟨m, e, a', S', L', h1, h2, h3⟩ := h a ha hd
  cases e with
  | normal =>
   obtain ⟨m2, e2, a2, S2, L2, k1, k2, k3⟩ := h3 a' h2 rfl
   refine ⟨max m m2, e2, a2, S2, L2, ?_, k2, k3⟩
   rw [Fw]
   rw [M0 (EV (Nat.le_max_left m m2)) _ h1]
   exact M0 (EV (Nat.le_max_right m m2)) _ k1
  | _ =>
   refine ⟨m, _, a', S', L', ?_, h2, h3⟩
   rw [Fw]
   rw [h1]
 cases c <;> first | exact key _ _ h | (rename_i d; cases d <;> cases hk) | cases hk
theorem AFY {b : Bool} (hk : pK c = 4) (hc : Ae L (pC c) = some (.bool b)) (h1 : b = true → XX P K k n (pA c) L S ds Q) (h2 : b = false → XX P K k n (pB c) L S ds Q) : XX P K (k + 1) n c L S ds Q := by
 have key : ∀ x y z, Ae L x = some (.bool b) → (b = true → XX P K k n y L S ds Q) → (b = false → XX P K k n z L S ds Q) → XX P K (k + 1) n (.cond x y z) L S ds Q := by
  intro x y z hx h1 h2 a ha hd
  have Aa : a.ev x = .bool b := ha.ev hx
  cases b with
  | true =>
   obtain ⟨m, e, a', S', L', k1, k2, k3⟩ := h1 rfl a ha hd
   refine ⟨m, e, a', S', L', ?_, k2, k3⟩
   rw [Fw]
   simp only [Aa]
   exact k1
  | false =>
   obtain ⟨m, e, a', S', L', k1, k2, k3⟩ := h2 rfl a ha hd
   refine ⟨m, e, a', S', L', ?_, k2, k3⟩
   rw [Fw]
   simp only [Aa]
   exact k1
 cases c <;> first | exact key _ _ _ hc h1 h2 | (rename_i d; cases d <;> cases hk) | cases hk
theorem N2 (hp : AA0 c = true) (h : XD P K n none c L S ds Q) : XX P K (k + 1) n c L S ds Q := by
 intro a ha hd
 obtain ⟨m, e, a', S', L', h1, h2, h3⟩ := h a ha hd
 refine ⟨m, e, a', S', L', ?_, h2, h3⟩
 cases c with
 | region id ops draw =>
  have : NG ops.toList = false := by
   have h' : (!NG ops.toList) = true := hp
   simpa using h'
  unfold Fw
  simp only [this, cond_false]
  exact h1
 | seq x y => cases hp
 | cond x y z => cases hp
 | _ =>
  unfold Fw
  exact h1
theorem AFZ (hk : pK c = 1) (hd : NG (pO c) = true) (hc : DZ P (pO c) = true) (h : N9 P K n (pO c) 0 L S ds Q) : XX P K (k + 1) n c L S ds Q := by
 have key : ∀ id ops, NG ops.toList = true → DZ P ops.toList = true → N9 P K n ops.toList 0 L S ds Q → XX P K (k + 1) n (.region id ops false) L S ds Q := by
  intro id ops hd hc h a ha MA
  obtain ⟨m, e, a', S', L', h1, h2, h3⟩ := h a ha MA
  refine ⟨m, e, a', S', L', ?_, h2, h3⟩
  rw [Fw]
  simp only [hd, hc, cond_true, Bool.not_true, Bool.or_false, cond_false]
  exact h1
 cases c <;> first | (rename_i d; cases d <;> first | exact key _ _ hd hc h | cases hk) | cases hk
end
abbrev Mm := Env → St → Mode → Prop
def HG (P : Program) (n : Nat) (ops : List Oper) (i : Nat) (L : Env) (S : St) (md : Mode) (Q : Mm) : Prop :=
 ∀ a, Has n a L → ∃ a' S' C0 L', I' P ops (ops.drop i) a S md = some (a', S', C0) ∧ Has n a' L' ∧ Q L' S' C0
section
variable {n : Nat} {L : Env} {S : St} {md : Mode} {Q : Mm} {ops : List Oper} {i d : Nat} {o : Oper}
theorem mw (hi : Nat.ble ops.length i = true) (h : Q L S md) : HG P n ops i L S md Q := by
 intro a ha
 refine ⟨a, S, md, L, ?_, ha, h⟩
 rw [List.drop_eq_nil_of_le (Nat.le_of_ble_eq_true hi)]
 rfl
theorem Td {v : Value} (ho : nth ops i = some o) (hw : As ops L o = some true) (hd : o.dst = some d) (hn : Nat.blt d n = true) (On : isRec o = false) (hr : Rd P n L S o v) (h : HG P n ops (i + 1) ((d, v) :: L) S md Q) : HG P n ops i L S md Q := by
 intro a ha
 obtain ⟨a1, hp, Cc⟩ := ha.put hn v
 obtain ⟨a', S2, ML, L', h1, h2, h3⟩ := h a1 Cc
 refine ⟨a', S2, ML, L', ?_, h2, h3⟩
 rw [EU _ _ _ ho]
 rw [I', E3 ha hw, On]
 simp only [cond_true, cond_false]
 unfold Q5
 rw [hr.1]
 simp only [hr.2 a ha, hd, hp]
 exact h1
theorem ABO (ho : nth ops i = some o) (hw : As ops L o = some true) (hd : o.dst = some d) (hn : Nat.blt d n = true) (On : isRec o = true) (h : HG P n ops (i + 1) ((d, (MZ md).1) :: L) S (MZ md).2 Q) : HG P n ops i L S md Q := by
 intro a ha
 obtain ⟨a1, hp, Cc⟩ := ha.put hn (MZ md).1
 obtain ⟨a', S2, ML, L', h1, h2, h3⟩ := h a1 Cc
 refine ⟨a', S2, ML, L', ?_, h2, h3⟩
 rw [EU _ _ _ ho]
 rw [I', E3 ha hw, On]
 simp only [cond_true, hd, hp]
 exact h1
theorem ABP {t : TypeId} {x y : Operand} {u v : Value} {S' : St} (ho : nth ops i = some o) (AH : o.op = .store t x y) (hw : As ops L o = some true) (hd : o.dst = none) (hx : Ae L x = some u) (hy : Ae L y = some v)
  (hv : Gv P t u v S = some S') (h : HG P n ops (i + 1) L S' md Q) : HG P n ops i L S md Q := by
 intro a ha
 obtain ⟨a', S2, ML, L', h1, h2, h3⟩ := h a ha
 refine ⟨a', S2, ML, L', ?_, h2, h3⟩
 rw [EU _ _ _ ho]
 have On : isRec o = false := by unfold isRec; rw [AH]
 rw [I', E3 ha hw, On]
 simp only [cond_true, cond_false]
 unfold Q5
 rw [AH]
 simp only [kindOf, JW, ha.ev hx, ha.ev hy, hv, hd, Ca.put]
 exact h1
end
def XR (P : Program) (K : A1) (k n : Nat) (c : Code) (L : Env) (S : St) (md : Mode) (Q : Exit → Mm) : Prop :=
 ∀ a, Has n a L → ∃ m e a' S' C0 L', Gz P (fns P K m) k c a S md = some (e, a', S', C0) ∧ Has n a' L' ∧ Q e L' S' C0
def eK (P : Program) (K : A1) (k n : Nat) (y : Code) (Q : Exit → Mm) : Exit → Mm := fun e L S md => match e with
 | .normal => XR P K k n y L S md Q
 | e => Q e L S md
section
variable {k n : Nat} {L : Env} {S : St} {md : Mode} {Q : Exit → Mm} {c : Code}
theorem AFV (hk : pK c = 0) (h : Q .normal L S md) : XR P K (k + 1) n c L S md Q := by
 cases c <;> first | exact fun a ha => ⟨0, _, a, S, md, L, rfl, ha, h⟩ | (rename_i d; cases d <;> cases hk) | cases hk
theorem pF (hk : pK c = 1) (hc : DZ P (pO c) = true) (h : HG P n (pO c) 0 L S md (Q .normal)) : XR P K (k + 1) n c L S md Q := by
 have key : ∀ id ops, DZ P ops.toList = true → HG P n ops.toList 0 L S md (Q .normal) → XR P K (k + 1) n (.region id ops false) L S md Q := by
  intro id ops hc h a ha
  obtain ⟨a', S', C0, L', h1, h2, h3⟩ := h a ha
  refine ⟨0, _, a', S', C0, L', ?_, h2, h3⟩
  rw [Gz]
  simp only [hc, Bool.not_true, cond_false]
  have : I' P ops.toList ops.toList a S md = some (a', S', C0) := h1
  rw [this]
 cases c <;> first | (rename_i d; cases d <;> first | exact key _ _ hc h | cases hk) | cases hk
theorem pG (hk : pK c = 3) (h : XR P K k n (pA c) L S md (eK P K k n (pB c) Q)) : XR P K (k + 1) n c L S md Q := by
 have key : ∀ x y, XR P K k n x L S md (eK P K k n y Q) → XR P K (k + 1) n (.seq x y) L S md Q := by
  intro x y h a ha
  obtain ⟨m, e, a', S', C0, L', h1, h2, h3⟩ := h a ha
  cases e with
  | normal =>
   obtain ⟨m2, e2, a2, S2, ML, L2, k1, k2, k3⟩ := h3 a' h2
   refine ⟨max m m2, e2, a2, S2, ML, L2, ?_, k2, k3⟩
   rw [Gz]
   rw [OM (EV (Nat.le_max_left m m2)) _ h1]
   exact OM (EV (Nat.le_max_right m m2)) _ k1
  | _ =>
   refine ⟨m, _, a', S', C0, L', ?_, h2, h3⟩
   rw [Gz]
   rw [h1]
 cases c <;> first | exact key _ _ h | (rename_i d; cases d <;> cases hk) | cases hk
theorem AFU {b : Bool} (hk : pK c = 4) (hc : Ae L (pC c) = some (.bool b)) (h1 : b = true → XR P K k n (pA c) L S md Q) (h2 : b = false → XR P K k n (pB c) L S md Q) : XR P K (k + 1) n c L S md Q := by
 have key : ∀ x y z, Ae L x = some (.bool b) → (b = true → XR P K k n y L S md Q) → (b = false → XR P K k n z L S md Q) → XR P K (k + 1) n (.cond x y z) L S md Q := by
  intro x y z hx h1 h2 a ha
  have Aa : a.ev x = .bool b := ha.ev hx
  cases b with
  | true =>
   obtain ⟨m, e, a', S', C0, L', k1, k2, k3⟩ := h1 rfl a ha
   refine ⟨m, e, a', S', C0, L', ?_, k2, k3⟩
   rw [Gz]
   simp only [Aa]
   exact k1
  | false =>
   obtain ⟨m, e, a', S', C0, L', k1, k2, k3⟩ := h2 rfl a ha
   refine ⟨m, e, a', S', C0, L', ?_, k2, k3⟩
   rw [Gz]
   simp only [Aa]
   exact k1
 cases c <;> first | exact key _ _ _ hc h1 h2 | (rename_i d; cases d <;> cases hk) | cases hk
end
def DD (P : Program) (K : A1) (f : FuncId) (args : List Value) (md : Mode) (S : St) (Q : Mode → St → Prop) : Prop :=
 ∃ m C0 S', Ms P (fns P K m) f args md S = some (C0, S') ∧ Q C0 S'
def pc (P : Program) (rs : List ResultVar) (Q : Mode → St → Prop) : Exit → Mm := fun e L S md => match e with
 | .normal => (∃ vs, Dy P L S rs = some vs) ∧ Q md S
 | .ret => (∃ vs, Dy P L S rs = some vs) ∧ Q md S
 | _ => False
theorem tI {f : FuncId} {fn : Func} {c : Code} {args : List Value} {S : St} {md : Mode} {Q : Mode → St → Prop} {n : Nat} (hf : P.funcs[f]? = some fn) (hb : fn.body = some c) (Ez : (fn.name == "runtime.NumGoroutine") = false)
  (hn : DK fn.ntmps args.length = n) (EY : Nat.ble n 256 = true) (h : XR P K 1000 n c (Ka 0 args) S md (pc P fn.results.toList Q)) : DD P K f args md S Q := by
 have EY := Nat.le_of_ble_eq_true EY
 have hl : args.length ≤ n := by
  rw [← hn]
  unfold DK
  cases hb : Nat.ble fn.ntmps args.length with
  | true => exact Nat.le_refl _
  | false =>
   have : ¬ fn.ntmps ≤ args.length := fun e => by rw [Nat.ble_eq_true_of_le e] at hb; cases hb
   simp only [cond_false]
   omega
 obtain ⟨m, e, a', S', C0, L', h1, h2, h3⟩ := h _ (SF EY hl)
 have L7 : Nat.blt 256 n = false := by
  rw [PT.FQ]; exact decide_eq_false (by omega)
 refine ⟨m, C0, S', ?_, ?_⟩
 ·unfold Ms
  simp only [hf, hb, Ez, Bool.false_or, hn, L7, cond_false]
  rw [h1]
  cases e with
  | normal => obtain ⟨⟨vs, k1⟩, _⟩ := h3; simp only [h2.df, Mc h2 k1]
  | ret => obtain ⟨⟨vs, k1⟩, _⟩ := h3; simp only [h2.df, Mc h2 k1]
  | _ => exact h3.elim
 cases e with
 | normal => exact h3.2
 | ret => exact h3.2
 | _ => exact h3.elim
def LV (P : Program) (K : A1) (ds : List Deferred) (md : Mode) (S : St) (Q : Mode → St → Prop) : Prop :=
 ∃ m C0 S', GH P (fns P K m) ds md S = some (C0, S') ∧ Q C0 S'
theorem zx {md : Mode} {S : St} {Q : Mode → St → Prop} (h : Q md S) : LV P K [] md S Q := ⟨0, md, S, rfl, h⟩
theorem zw {r : Nat} {ds : List Deferred} {md : Mode} {S : St} {Q : Mode → St → Prop} (hg : S.get r = some (.defs false)) (h : LV P K ds md (S.set r (.defs true)) Q) : LV P K (IH r :: ds) md S Q := by
 obtain ⟨m, C0, S', h1, h2⟩ := h
 refine ⟨m, C0, S', ?_, h2⟩
 rw [GH]
 simp only [IH, hg]
 exact h1
theorem zu {f : FuncId} {ca : Array Value} {as : Array Value} {ds : List Deferred} {md : Mode} {S : St} {Q : Mode → St → Prop} (h : DD P K f (as.toList ++ ca.toList) md S fun C0 S' => LV P K ds (Wc C0) S' Q) : LV P K ({ target := .fn (.func f) ca, args := as } :: ds) md S Q := by
 obtain ⟨m, md1, S1, h1, m2, C0, S', h2, h3⟩ := h
 refine ⟨max m m2, C0, S', ?_, h3⟩
 rw [GH]
 simp only [fT (EV (Nat.le_max_left m m2)) h1]
 exact TM (EV (Nat.le_max_right m m2)) _ h2
def UP (P : Program) (rs : List ResultVar) (L : Env) (Q : Ending → St → Prop) : Mode → St → Prop := fun md S => match md with
 | .ret => ∃ vs, Dy P L S rs = some vs ∧ Q (.returned (AN vs)) S
 | .A6 ch => Q (.panicked ch) S
def pe (P : Program) (K : A1) (rs : List ResultVar) (Q : Ending → St → Prop) : J1 := fun e L S ds => match e with
 | .normal => LV P K ds .ret S (UP P rs L Q)
 | .ret => LV P K ds .ret S (UP P rs L Q)
 | .panic ch => LV P K ds (.A6 ch) S (UP P rs L Q)
 | _ => False
theorem ABq {n : Nat} {a : Ca} {L : Env} {S : St} (ha : Has n (a.wd []) L) {rs : List ResultVar} {vs : List Value} (h : Dy P L S rs = some vs) : Dq P a S rs = some vs := by
 have h0 := Mc ha h
 have : ∀ rs : List ResultVar, Dq P (a.wd []) S rs = Dq P a S rs := by
  intro rs
  induction rs with
  | nil => rfl
  | cons r rs ih => cases r <;> (simp only [Dq, ih]; rfl)
 rw [← this]
 exact h0
theorem sd {f : FuncId} {fn : Func} {c : Code} {args : List Value} {S : St} {Q : Ending → St → Prop} {n : Nat} (hf : P.funcs[f]? = some fn) (hb : fn.body = some c) (hk : K.call f args S = none) (hd : K.defers f = true) (Ez : (fn.name == "runtime.NumGoroutine") = false)
  (hn : DK fn.ntmps args.length = n) (EY : Nat.ble n 256 = true) (h : XX P K 1000 n c (Ka 0 args) S [] (pe P K fn.results.toList Q)) : CE P K f args S Q := by
 have EY := Nat.le_of_ble_eq_true EY
 have hl : args.length ≤ n := by
  rw [← hn]
  unfold DK
  cases hb : Nat.ble fn.ntmps args.length with
  | true => exact Nat.le_refl _
  | false =>
   have : ¬ fn.ntmps ≤ args.length := fun e => by rw [Nat.ble_eq_true_of_le e] at hb; cases hb
   simp only [cond_false]
   omega
 obtain ⟨m, e, a', S', L', h1, h2, h3⟩ := h { n := n, t := PT.ofList 0 (PT.nil 8) args, defers := [] } (SF EY hl) rfl
 have L7 : Nat.blt 256 n = false := by
  rw [PT.FQ]; exact decide_eq_false (by omega)
 have key : ∀ Z7, (match e with
   | .normal | .ret => some Mode.ret
   | .panic ch => some (.A6 ch)
   | _ => none) = some Z7 → LV P K a'.defers Z7 S' (UP P fn.results.toList L' Q) → CE P K f args S Q := by
  intro Z7 hm VZ
  obtain ⟨m2, C0, S2, k1, k2⟩ := VZ
  have QD : ∀ r, K2 P a' fn.results.toList (some (C0, S2)) = some r → Et P K (fns P K (max m m2)) f args S = some r := by
   intro r hr
   unfold Et
   rw [hk]
   simp only [hd, cond_true]
   unfold OL
   simp only [hf, hb, Ez, Bool.false_or, hn, L7, cond_false]
   rw [M0 (EV (Nat.le_max_left m m2)) _ h1]
   have Zr := TM (EV (Nat.le_max_right m m2)) _ k1
   cases e with
   | normal => cases hm; simp only [Zr]; exact hr
   | ret => cases hm; simp only [Zr]; exact hr
   | panic ch => cases hm; simp only [Zr]; exact hr
   | _ => cases hm
  cases C0 with
  | ret =>
   obtain ⟨vs, j1, j2⟩ := k2
   refine ⟨_, _, S2, QD _ ?_, j2⟩
   unfold K2
   simp only [ABq h2 j1]
   exact UC vs S2
  | A6 ch => exact ⟨_, _, S2, QD _ rfl, k2⟩
 cases e with
 | normal => exact key _ rfl h3
 | ret => exact key _ rfl h3
 | panic ch => exact key _ rfl h3
 | _ => exact h3.elim
end Go.Cm
namespace Go.Cm
open Go
variable {P : Program} {K : A1} {n : Nat} {ro : Option Nat} {L : Env} {S S0 : St} {Q : Bi} {ops : List Oper} {i d : Nat} {o : Oper} {Ts : List St} {l : List (Nat × AD)} {gs : List Gr}
end Go.Cm
namespace Go.Cm
open Go
variable {P : Program} {K : A1} {n : Nat} {ro : Option Nat} {L : Env} {S S0 : St} {Q : Bi} {ops : List Oper} {i d : Nat} {o : Oper}
theorem AEY {t : TypeId} {b off : Nat} {v : Value} {c c' : List Value} {e : TypeId} {ks : List Nat} (hz : Hk P t v = true)
  (hg : S.get b = some (.cells c e true true ks)) (hs : BJ off (AP v) c = some c') : Gv P t (ptrTo b off) v S = some ((S.kill ks).set b (.cells c' e true true [])) := by
 unfold Hk at hz
 unfold Gv ptrTo
 split at hz
 ·rename_i z h1
  simp only [Bool.and_eq_true] at hz
  obtain ⟨⟨h2, h3⟩, h4⟩ := hz
  simp only [h1, h2, cond_true]
  unfold JE
  rw [hg]
  simp only [h3, h4, Bool.and_true, cond_true, hs]
 cases hz
theorem bG {Ts : List St} {l : List (Nat × AD)} {gs : List Gr} (hl : AB S0 Ts S l gs) {t elem : TypeId} {len : Nat} {ps : Array (Nat × Operand)} {us : List (Nat × Value)} {c : List Value} (ho : nth ops i = some o) (AH : o.op = .buildSlice t len ps) (hw : As ops L o = some true) (hd : o.dst = some d) (hn : Nat.blt d n = true)
  (hu : P.underlying t = some (.slice elem)) (hx : H0 L ps.toList = some us) (hc : J5 P elem len us = some c)
  (h : ∀ B S', AB S0 Ts S' ((B, .cells c elem true true []) :: l) gs → RE P K n ops (i + 1) ((d, .slice (some ⟨B, 0, none⟩) len len) :: L) S' Q) : RE P K n ops i L S Q :=
 bF ho AH hw hd hn hu hx hc (h _ _ (hl.new _))
theorem qQ {l : List (Nat × AD)} {B0 : Nat} {e : TypeId} (hl : AB S0 [S0] S ((B0, .cells [] e true true []) :: l) []) {ts : Array TypeId} {sT xT : TypeId} {xd : TypeDesc} {x : Value} {m z : Nat} {new : List Value}
  (Bv : ts.toList = [sT, xT]) (hu : P.underlying sT = some (.slice e)) (Ee : P.underlying xT = some xd) (hi : F3 xd = false) (hlen : Gp x = some m) (hm : 0 < m) (hz : A0 P e = some z) (hs : El S z m x = some new)
  (hc : new.all E' = true) (GC : KA P e z = true) (Gg : m ≤ AQ) :
  ∃ B S', Dj P .append ts.toList [.slice (some ⟨B0, 0, none⟩) 0 0, x] S = some (.slice (some ⟨B, 0, none⟩) m m, S') ∧ AB S0 [S0] S' ((B, .cells new e true true [B0]) :: (B0, .cells [] e true false []) :: l) [] := by
 have h0 := hl.get 0 rfl
 have hp := (hl.Qk (k := 0) rfl (hl.old (k := 0) rfl) (.cells [] e true false [])).new (.cells new e true true [B0])
 refine ⟨_, _, ?_, hp⟩
 unfold Dj
 simp only
 have hb : Nat.ble (0 + m) 0 = false := by
  cases hb : Nat.ble (0 + m) 0 with
  | false => rfl
  | true => have := Nat.le_of_ble_eq_true hb; omega
 have : E9 P ts.toList (.slice (some ⟨B0, 0, none⟩) 0 0) x S = some (.slice (some ⟨(S.set B0 (.cells [] e true false [])).size, 0, none⟩) m m, ((S.set B0 (.cells [] e true false [])).new (.cells new e true true [B0])).2) := by
  unfold E9
  rw [Bv]
  simp only [hu, Ee, hlen, hi, hz, hs, cond_false]
  unfold F9 F9.OG
  rw [hb, Rv GC (by omega : 0 + m ≤ AQ), hc]
  simp only [cond_false, Bool.and_self, cond_true]
  unfold OE
  simp only [h0, Nat.zero_mul, Nat.add_zero, List.length_nil, IJ, Bool.and_self, cond_true, Nat.zero_add]
  rfl
 rw [this]
def px (e : TypeId) (aw : Option Addr) (m : Nat) (new : List Value) (tl : List (Nat × AD)) : Prop :=
 (∃ B0, m = 0 ∧ new = [] ∧ aw = some ⟨B0, 0, none⟩ ∧ tl = [(B0, .cells [] e true true [])]) ∨
 ∃ B B0, 0 < m ∧ aw = some ⟨B, 0, none⟩ ∧ tl = [(B, .cells new e true true [B0]), (B0, .cells [] e true false [])]
theorem en {l : List (Nat × AD)} {B0 : Nat} {e : TypeId} (hl : AB S0 [S0] S ((B0, .cells [] e true true []) :: l) []) {ts : Array TypeId} {sT xT : TypeId} {xd : TypeDesc} {x : Value} {m z : Nat} {new : List Value}
  (Bv : ts.toList = [sT, xT]) (hu : P.underlying sT = some (.slice e)) (Ee : P.underlying xT = some xd) (hi : F3 xd = false) (hlen : Gp x = some m) (hz : A0 P e = some z) (hs : El S z m x = some new)
  (CI : new.length = m * z) (hc : new.all E' = true) (GC : KA P e z = true) (Gg : m ≤ AQ) :
  ∃ aw tl S', Dj P .append ts.toList [.slice (some ⟨B0, 0, none⟩) 0 0, x] S = some (.slice aw m m, S') ∧ px e aw m new tl ∧ AB S0 [S0] S' (tl ++ l) [] := by
 by_cases hm : 0 < m
 ·obtain ⟨B, S', h1, h2⟩ := qQ hl Bv hu Ee hi hlen hm hz hs hc GC Gg
  exact ⟨_, _, S', h1, .inr ⟨B, B0, hm, rfl, rfl⟩, h2⟩
 obtain rfl : m = 0 := by omega
 obtain rfl : new = [] := List.eq_nil_of_length_eq_zero (by rw [CI, Nat.zero_mul])
 refine ⟨some ⟨B0, 0, none⟩, [(B0, .cells [] e true true [])], S, ?_, .inl ⟨B0, rfl, rfl, rfl, rfl⟩, hl⟩
 unfold Dj
 simp only
 have : E9 P ts.toList (.slice (some ⟨B0, 0, none⟩) 0 0) x S = some (.slice (some ⟨B0, 0, none⟩) 0 0, S) := by
  unfold E9
  rw [Bv]
  simp only [hu, Ee, hlen, hi, hz, hs, cond_false]
  unfold F9
  have hb : Nat.ble (0 + 0) 0 = true := rfl
  rw [hb]
  simp only [cond_true]
  unfold OD
  rfl
 rw [this]
section
variable {AE : List Nat} {pl : List (Oper × Nat)} {q j : Nat} {E : List Cb}
theorem nM {Ts : List St} {l : List (Nat × AD)} {gs : List Gr} (hF : Ad S0) (hl : AB S0 Ts S l gs) {t elem : TypeId} {len : Nat} {ps : Array (Nat × Operand)} {us : List (Nat × Value)} {c : List Value} (ho : nth pl q = some (o, j)) (AH : o.op = .buildSlice t len ps) (hw : As ops L o = some true) (hd : o.dst = some d) (hn : Nat.blt d n = true)
  (hu : P.underlying t = some (.slice elem)) (hx : H0 L ps.toList = some us) (hc : J5 P elem len us = some c)
  (h : ∀ B S', AB S0 Ts S' ((B, .cells c elem true true []) :: l) gs → RP P K n ops AE pl (q + 1) (⟨j, o.op, undef, L, some (B, c, elem, true)⟩ :: E) ((d, .slice (some ⟨B, 0, none⟩) len len) :: L) S' Q) : RP P K n ops AE pl q E L S Q :=
 WK ho (by rw [AH]; rfl) hw hd hn (Xe AH hu hx hc) (hl.AA.3 hF _ (Nat.le_refl _)) (h _ _ (hl.new _))
end
theorem AB.join {S1 S2 : St} {l r : List (Nat × AD)} (h0 : AB S0 [S0] S1 l []) (h1 : AB S1 [S1] S2 r []) : AB S0 [S0] S2 (l ++ r) [] := by
 refine ⟨h0.AA.trans h1.AA, ?_, fun b x hx => ?_, fun T ht => ?_, fun g hg => (List.not_mem_nil hg).elim⟩
 ·rw [List.map_append]
  refine List.nodup_append.2 ⟨h0.nd, h1.nd, fun a ha c hc => ?_⟩
  obtain ⟨⟨a, x⟩, Cc, rfl⟩ := List.mem_map.1 ha
  obtain ⟨⟨c, y⟩, SJ, rfl⟩ := List.mem_map.1 hc
  have e1 := (h0.at_ a x Cc).2.2
  have e2 := (h1.at_ c y SJ).2.1
  show a ≠ c
  omega
 ·rcases List.mem_append.1 hx with hx | hx
  ·obtain ⟨e1, e2, e3⟩ := h0.at_ b x hx
   exact ⟨(h1.AA.2 b e3).trans e1, e2, Nat.lt_of_lt_of_le e3 h1.AA.1⟩
  obtain ⟨e1, e2, e3⟩ := h1.at_ b x hx
  exact ⟨e1, Nat.le_trans h0.AA.1 e2, e3⟩
 rw [List.mem_singleton.1 ht]
 exact (h0.rk S0 (List.mem_cons_self ..)).trans (h1.rk S1 (List.mem_cons_self ..))
end Go.Cm
namespace Go.Cm
open Go
variable {P : Program} {K : A1}
section
variable {n : Nat} {L : Env} {S : St} {o : Oper}
def AAd : TypeDesc → Bool
 | .interface _ => false
 | _ => true
theorem ABH {x : Operand} {m t : TypeId} {ok : Bool} {u v : Value} (AH : o.op = .typeAssert x m t ok) (hx : Ae L x = some u) (hv : RB P u t ok = some v) : Rd P n L S o v :=
 ⟨by rw [AH]; rfl, fun a ha => by rw [AH]; simp only [Cl, Hf, ha.ev hx, hv]⟩
end
section
variable {n : Nat} {ro : Option Nat} {L : Env} {S : St} {ds : List Deferred} {Q : Exit → Env → St → List Deferred → Prop}
def dn (id : Nat) (Q : Exit → Env → St → List Deferred → Prop) : Exit → Env → St → List Deferred → Prop := fun e L S ds => match e with
 | .exit j => bif Nat.beq j id then Q .normal L S ds else Q (.exit j) L S ds
 | e => Q e L S ds
theorem AFE {id : Nat} {c : Code} (h : XD P K n ro c L S ds (dn id Q)) : XD P K n ro (.block id c) L S ds Q := by
 intro a ha hd
 obtain ⟨m, e, a', S', L', h1, h2, h3⟩ := h a ha hd
 cases e with
 | exit j =>
  have JR : bif Nat.beq j id then Q .normal L' S' a'.defers else Q (.exit j) L' S' a'.defers := h3
  by_cases hj : j = id
  ·rw [hj, IJ] at JR
   refine ⟨m + 1, _, a', S', L', ?_, h2, JR⟩
   show Aq P (fns P K m) ro (.block id c) a S = _
   simp only [Aq]
   rw [h1]
   simp only [hj, IJ, cond_true]
  rw [Ni hj] at JR
  refine ⟨m + 1, _, a', S', L', ?_, h2, JR⟩
  show Aq P (fns P K m) ro (.block id c) a S = _
  simp only [Aq]
  rw [h1]
  simp only [Ni hj, cond_false]
 | _ =>
  refine ⟨m + 1, _, a', S', L', ?_, h2, h3⟩
  show Aq P (fns P K m) ro (.block id c) a S = _
  simp only [Aq]
  rw [h1]
theorem Kl {c : Code} (hk : pK c = 5) (h : XD P K n ro (pA c) L S ds (dn (pI c) Q)) : XD P K n ro c L S ds Q := by
 cases c <;> first | exact AFE h | (rename_i d; cases d <;> cases hk) | cases hk
end
section
variable {n : Nat} {L : Env} {S : St} {md : Mode} {Q : Mm} {ops : List Oper} {i d : Nat} {o : Oper}
theorem ABM {e : TypeId} {z : List Value} (ho : nth ops i = some o) (AH : o.op = .alloc e) (hw : As ops L o = some true) (hd : o.dst = some d) (hn : Nat.blt d n = true) (hz : zeroOf P e = some z)
  (h : HG P n ops (i + 1) ((d, ptrTo S.size 0) :: L) (S.new (.cells z e false true [])).2 md Q) : HG P n ops i L S md Q := by
 intro a ha
 obtain ⟨a1, hp, Cc⟩ := ha.put hn (ptrTo S.size 0)
 obtain ⟨a', S2, ML, L', h1, h2, h3⟩ := h a1 Cc
 refine ⟨a', S2, ML, L', ?_, h2, h3⟩
 rw [EU _ _ _ ho]
 have On : isRec o = false := by unfold isRec; rw [AH]
 rw [I', E3 ha hw, On]
 simp only [cond_true, cond_false]
 unfold Q5
 rw [AH]
 have : C1 P a.ev (.alloc e) S = some (ptrTo S.size 0, (S.new (.cells z e false true [])).2) := by
  unfold C1
  simp only [hz]
  rfl
 simp only [kindOf, this, hd, hp]
 exact h1
theorem ABN {S0 : St} {Ts : List St} {l : List (Nat × AD)} {gs : List Gr} (hl : AB S0 Ts S l gs) {e : TypeId} {z : List Value} (ho : nth ops i = some o) (AH : o.op = .alloc e) (hw : As ops L o = some true) (hd : o.dst = some d) (hn : Nat.blt d n = true) (hz : zeroOf P e = some z)
  (h : ∀ B S', AB S0 Ts S' ((B, .cells z e false true []) :: l) gs → HG P n ops (i + 1) ((d, ptrTo B 0) :: L) S' md Q) : HG P n ops i L S md Q :=
 ABM ho AH hw hd hn hz (h _ _ (hl.new _))
theorem ABQ {S0 : St} {Ts : List St} {l : List (Nat × AD)} {gs : List Gr} (hl : AB S0 Ts S l gs) (k : Nat) {t : TypeId} {x y : Operand} {v : Value} {b off : Nat} {c c' : List Value} {e : TypeId} (hk : nth l k = some (b, .cells c e false true [])) (ho : nth ops i = some o) (AH : o.op = .store t x y) (hw : As ops L o = some true) (hd : o.dst = none) (hx : Ae L x = some (ptrTo b off)) (hy : Ae L y = some v)
  (hz : Hk P t v = true) (hs : BJ off (AP v) c = some c')
  (h : ∀ S', AB S0 Ts S' (Gt k (.cells c' e false true []) l) gs → HG P n ops (i + 1) L S' md Q) : HG P n ops i L S md Q :=
 ABP ho AH hw hd hx hy (c5 hz (hl.get k hk) hs) (h _ (hl.put hk rfl _))
end
def Q0 (ops : List Oper) (i : Nat) (L : Env) (n : Nat) : Option (Oper × Nat) := match nth ops i with
 | some o => match As ops L o with
  | some true => match o.dst with
   | some d => bif Nat.blt d n then some (o, d) else none
   | none => none
  | _ => none
 | none => none
def pv (L : Env) (op : Op) : Option Value := match op with
 | .move x => Ae L x
 | .assign x => Ae L x
 | .extract x j => match Ae L x with
  | some (.tuple vs) => nth vs.toList j
  | _ => none
 | .pick c x y => match Ae L c with
  | some (.bool true) => Ae L x
  | some (.bool false) => Ae L y
  | _ => none
 | _ => none
def Wm (ops : List Oper) (i : Nat) (L : Env) (n : Nat) : Option (Nat × Value) := match Q0 ops i L n with
 | some (o, d) => match pv L o.op with
  | some v => some (d, v)
  | none => none
 | none => none
def cr (ops : List Oper) (i : Nat) (L : Env) (n : Nat) : Option Nat := match nth ops i with
 | some o => match As ops L o with
  | some false => match o.dst with
   | some d => bif Nat.blt d n then some d else none
   | none => none
  | _ => none
 | none => none
section
variable {n : Nat} {ro : Option Nat} {L : Env} {S S0 : St} {Q : Bi} {ops : List Oper} {i d : Nat} {o : Oper}
theorem T6 (h : Q0 ops i L n = some (o, d)) : nth ops i = some o ∧ As ops L o = some true ∧ o.dst = some d ∧ Nat.blt d n = true := by
 unfold Q0 at h
 split at h
 ·rename_i o' h1
  split at h
  ·rename_i h2
   split at h
   ·rename_i d' h3
    cases hb : Nat.blt d' n with
    | true =>
     rw [hb] at h
     cases h
     exact ⟨h1, h2, h3, hb⟩
    | false => rw [hb] at h; cases h
   cases h
  cases h
 cases h
theorem AEL (h : cr ops i L n = some d) : ∃ o, nth ops i = some o ∧ As ops L o = some false ∧ o.dst = some d ∧ Nat.blt d n = true := by
 unfold cr at h
 split at h
 ·rename_i o' h1
  split at h
  ·rename_i h2
   split at h
   ·rename_i d' h3
    cases hb : Nat.blt d' n with
    | true =>
     rw [hb] at h
     cases h
     exact ⟨o', h1, h2, h3, hb⟩
    | false => rw [hb] at h; cases h
   cases h
  cases h
 cases h
theorem mj {v : Value} (h : pv L o.op = some v) : Rd P n L S o v := by
 unfold pv at h
 split at h
 ·rename_i x AH; exact Tc AH h
 ·rename_i x AH; exact mq AH h
 ·rename_i x j AH
  split at h
  ·rename_i vs hx; exact bE AH hx h
  cases h
 ·rename_i c x y AH
  split at h
  ·rename_i hc; exact ABL AH hc h
  ·rename_i hc; exact ABK AH hc h
  cases h
 cases h
theorem AEM {v : Value} (h : Wm ops i L n = some (d, v)) : ∃ o, Q0 ops i L n = some (o, d) ∧ pv L o.op = some v := by
 unfold Wm at h
 split at h
 ·rename_i o' d' h1
  split at h
  ·rename_i v' h2; cases h; exact ⟨o', h1, h2⟩
  cases h
 cases h
theorem rr {v : Value} (h : Q0 ops i L n = some (o, d)) (hr : Rd P n L S o v) (k : RE P K n ops (i + 1) ((d, v) :: L) S Q) : RE P K n ops i L S Q :=
 MX (T6 h).1 (T6 h).2.1 (T6 h).2.2.1 (T6 h).2.2.2 hr k
theorem rm {v : Value} (h : Wm ops i L n = some (d, v)) (k : RE P K n ops (i + 1) ((d, v) :: L) S Q) : RE P K n ops i L S Q := by
 obtain ⟨o, h1, h2⟩ := AEM h
 exact rr h1 (mj h2) k
theorem rz (h : cr ops i L n = some d) (k : RE P K n ops (i + 1) ((d, undef) :: L) S Q) : RE P K n ops i L S Q := by
 obtain ⟨o, h1, h2, h3, h4⟩ := AEL h
 exact ABa h1 h2 h3 h4 k
theorem xg {c : Code} (h : (Nat.beq (pK c) 1 && DZ P (pO c)) = true) (k : RE P K n (pO c) 0 L S Q) : XE P K n ro c L S Q := by
 rw [Bool.and_eq_true] at h
 exact N1 (BV h.1) h.2 k
theorem xs {c : Code} (h : (Nat.beq (pK c) 3 && (Nat.beq (pK (pA c)) 1 && DZ P (pO (pA c)))) = true) (k : RE P K n (pO (pA c)) 0 L S (Mn P K n ro (pB c) Q)) : XE P K n ro c L S Q := by
 rw [Bool.and_eq_true] at h
 exact AV (BV h.1) (xg h.2 k)
theorem rl {Ts : List St} {l : List (Nat × AD)} {gs : List Gr} (hl : AB S0 Ts S l gs) (k : Nat) {t : TypeId} {x : Operand} {b off : Nat} {c : List Value} {e : TypeId} {row own : Bool} {kin : List Nat} {v : Value} (AH : o.op = .load t x) (hx : Ae L x = some (ptrTo b off)) (ha : Fo P t = some false)
  (hk : nth l k = some (b, .cells c e row own kin)) (hv : nth c off = some v) : Rd P n L S o v := Ba AH hx (Jh ha (hl.get k hk) hv)
def Bj (P : Program) (t : TypeId) : Bool := match P.underlying t with
 | some (.struct fs) => fs.toList.all fun f => VK P f.type
 | _ => false
theorem fa {t : TypeId} {fs : Array Field} (hu : P.underlying t = some (.struct fs)) (ha : Bj P t = true) {f : Field} {j b o : Nat} (hf : nth fs.toList j = some f) : K5 P t (ptrTo b o) j = some (ptrTo b (o + f.offset)) := by
 unfold Bj at ha
 rw [hu] at ha
 exact tq hu hf (List.all_eq_true.1 ha f (Am hf))
section
variable {AE : List Nat} {pl : List (Oper × Nat)} {q j : Nat} {E : List Cb}
def I6 (pl : List (Oper × Nat)) (ops : List Oper) (q : Nat) (L : Env) (n : Nat) (w : Bool) : Option (Oper × Nat × Nat) := match nth pl q with
 | some (o, j) => match As ops L o with
  | some true => match o.dst with
   | some d => bif Nat.blt d n && (looks o.op == w) then some (o, j, d) else none
   | none => none
  | _ => none
 | none => none
def aj (pl : List (Oper × Nat)) (ops : List Oper) (q : Nat) (L : Env) (n : Nat) : Option (Nat × Value) := match I6 pl ops q L n false with
 | some (o, _, d) => match pv L o.op with
  | some v => some (d, v)
  | none => none
 | none => none
def mY (pl : List (Oper × Nat)) (ops : List Oper) (q : Nat) (L : Env) (n : Nat) : Option Nat := match nth pl q with
 | some (o, _) => match As ops L o with
  | some false => match o.dst with
   | some d => bif Nat.blt d n then some d else none
   | none => none
  | _ => none
 | none => none
theorem mX {w : Bool} (h : I6 pl ops q L n w = some (o, j, d)) : nth pl q = some (o, j) ∧ As ops L o = some true ∧ o.dst = some d ∧ Nat.blt d n = true ∧ looks o.op = w := by
 unfold I6 at h
 split at h
 ·rename_i o' j' h1
  split at h
  ·rename_i h2
   split at h
   ·rename_i d' h3
    cases hb : (Nat.blt d' n && (looks o'.op == w)) with
    | true =>
     rw [hb] at h
     cases h
     rw [Bool.and_eq_true] at hb
     exact ⟨h1, h2, h3, hb.1, by simpa using hb.2⟩
    | false => rw [hb] at h; cases h
   cases h
  cases h
 cases h
theorem pr {v : Value} (h : I6 pl ops q L n false = some (o, j, d)) (hr : Rd P n L S o v) (k : RP P K n ops AE pl (q + 1) E ((d, v) :: L) S Q) : RP P K n ops AE pl q E L S Q :=
 have ⟨a, b, c, e, f⟩ := mX h
 AB' a b c e f hr k
theorem pk {v : Value} (h : I6 pl ops q L n true = some (o, j, d)) (hr : Rd P n L S o v) (k : RP P K n ops AE pl (q + 1) (⟨j, o.op, v, L, none⟩ :: E) ((d, v) :: L) S Q) : RP P K n ops AE pl q E L S Q :=
 have ⟨a, b, c, e, f⟩ := mX h
 bV a b c e f hr k
theorem pm {v : Value} (h : aj pl ops q L n = some (d, v)) (k : RP P K n ops AE pl (q + 1) E ((d, v) :: L) S Q) : RP P K n ops AE pl q E L S Q := by
 unfold aj at h
 split at h
 ·rename_i o' j' d' h1
  split at h
  ·rename_i v' h2; cases h; exact pr h1 (mj h2) k
  cases h
 cases h
theorem pz (h : mY pl ops q L n = some d) (k : RP P K n ops AE pl (q + 1) E ((d, undef) :: L) S Q) : RP P K n ops AE pl q E L S Q := by
 unfold mY at h
 split at h
 ·rename_i o' j' h1
  split at h
  ·rename_i h2
   split at h
   ·rename_i d' h3
    cases hb : Nat.blt d' n with
    | true =>
     rw [hb] at h
     cases h
     exact AB9 h1 h2 h3 hb k
    | false => rw [hb] at h; cases h
   cases h
  cases h
 cases h
end
end
section
variable {n : Nat} {ro : Option Nat} {L : Env} {S : St} {ds : List Deferred} {Q : J1} {c : Code}
def eE (I : Nat → Env → St → List Deferred → Prop) (m : Nat) (Q : J1) : J1 := fun e L S ds => match e with
 | .normal => ∃ k, k < m ∧ I k L S ds
 | e => Q e L S ds
theorem AFF {x : Code} (I : Nat → Env → St → List Deferred → Prop) (h : ∀ m L S ds, I m L S ds → XD P K n ro x L S ds (eE I m Q)) {m : Nat} (h0 : I m L S ds) : XD P K n ro (.loop x) L S ds Q := by
 have key : ∀ k m, m ≤ k → ∀ L S ds, I m L S ds → XD P K n ro (.loop x) L S ds Q := by
  intro k
  induction k with
  | zero =>
   intro m hm L S ds hi a ha hd
   obtain ⟨j, e, a', S', L', h1, h2, h3⟩ := h m L S ds hi a ha hd
   cases e with
   | normal => obtain ⟨k, hk, _⟩ := h3; omega
   | _ =>
    refine ⟨j + 1, _, a', S', L', ?_, h2, h3⟩
    show Aq P (fns P K j) ro (.loop x) a S = _
    simp only [Aq]
    rw [h1]
  | succ k ih =>
   intro m hm L S ds hi a ha hd
   obtain ⟨j, e, a', S', L', h1, h2, h3⟩ := h m L S ds hi a ha hd
   cases e with
   | normal =>
    obtain ⟨k', hk, Dn⟩ := h3
    obtain ⟨j2, e2, a2, S2, L2, k1, k2, k3⟩ := ih k' (by omega) L' S' _ Dn a' h2 rfl
    refine ⟨max j j2 + 1, e2, a2, S2, L2, ?_, k2, k3⟩
    show Aq P (fns P K (max j j2)) ro (.loop x) a S = _
    simp only [Aq]
    rw [K3 (Nat.le_max_left j j2) h1]
    exact K3 (Nat.le_max_right j j2) k1
   | _ =>
    refine ⟨j + 1, _, a', S', L', ?_, h2, h3⟩
    show Aq P (fns P K j) ro (.loop x) a S = _
    simp only [Aq]
    rw [h1]
 exact key m m (Nat.le_refl _) L S ds h0
theorem AFH (hk : pK c = 6) (I : Nat → Env → St → List Deferred → Prop) (h : ∀ m L S ds, I m L S ds → XD P K n ro (pA c) L S ds (eE I m Q)) {m : Nat} (h0 : I m L S ds) : XD P K n ro c L S ds Q := by
 cases c <;> first | exact AFF I h h0 | (rename_i d; cases d <;> cases hk) | cases hk
theorem pD {L' : Env} (hs : Af L' L) (h : XD P K n ro c L' S ds Q) : XD P K n ro c L S ds Q := by
 intro a ha hd
 exact h a (ha.sub hs) hd
theorem bP (ds : List Deferred) (a : Ca) (S : St) : ∀ rs : List ResultVar, Dq P (a.wd ds) S rs = Dq P a S rs
 | [] => rfl
 | .tmp x :: r => by
  unfold Dq
  rw [bP ds a S r]
  rfl
 | .cell x e :: r => by
  unfold Dq
  rw [bP ds a S r]
  rfl
def dr (P : Program) (rs : List ResultVar) (Q : Value → St → Prop) : J1 := fun e L S ds => match e with
 | .normal => ∃ S2 vs, Fj ds S = some S2 ∧ Dy P L S2 rs = some vs ∧ Q (AN vs) S2
 | .ret => ∃ S2 vs, Fj ds S = some S2 ∧ Dy P L S2 rs = some vs ∧ Q (AN vs) S2
 | _ => False
theorem sa {f : FuncId} {fn : Func} {args : List Value} {Q : Value → St → Prop} (hf : P.funcs[f]? = some fn) (hb : fn.body = some c) (hk : K.call f args S = none) (hd : K.defers f = false) (Ez : (fn.name == "runtime.NumGoroutine") = false)
  (hn : DK fn.ntmps args.length = n) (EY : Nat.ble n 256 = true) (h : XD P K n none c (Ka 0 args) S [] (dr P fn.results.toList Q)) : CC P K f args S Q := by
 have EY := Nat.le_of_ble_eq_true EY
 have hl : args.length ≤ n := by
  rw [← hn]
  unfold DK
  cases hb : Nat.ble fn.ntmps args.length with
  | true => exact Nat.le_refl _
  | false =>
   have : ¬ fn.ntmps ≤ args.length := fun e => by rw [Nat.ble_eq_true_of_le e] at hb; cases hb
   simp only [cond_false]
   omega
 obtain ⟨m, e, a', S', L', h1, h2, h3⟩ := h { n := n, t := PT.ofList 0 (PT.nil 8) args, defers := [] } (SF EY hl) rfl
 have L7 : Nat.blt 256 n = false := by
  rw [PT.FQ]; exact decide_eq_false (by omega)
 have key : ∀ e, (e = .normal ∨ e = .ret) → (fns P K m).exec none c { n := n, t := PT.ofList 0 (PT.nil 8) args, defers := [] } S = some (e, a', S') → ∀ S2 vs, Fj a'.defers S' = some S2 → Dy P L' S2 fn.results.toList = some vs → Et P K (fns P K m) f args S = some (.returned (AN vs), S2) := by
  intro e he hx S2 vs ht F1
  have hr : Dq P a' S2 fn.results.toList = some vs := (bP [] a' S2 fn.results.toList).symm.trans (Mc h2 F1)
  unfold Et
  rw [hk]
  simp only [hd, cond_false]
  unfold Lt
  rw [hf]
  simp only [hb, Ez, Bool.false_or, hn, L7, cond_false, hx]
  rcases he with rfl | rfl <;> (simp only [ht, hr]; exact UC vs S2)
 cases e with
 | normal => obtain ⟨S2, vs, k0, k1, k2⟩ := h3; exact ⟨m, _, S2, key _ (.inl rfl) h1 S2 vs k0 k1, k2⟩
 | ret => obtain ⟨S2, vs, k0, k1, k2⟩ := h3; exact ⟨m, _, S2, key _ (.inr rfl) h1 S2 vs k0 k1, k2⟩
 | _ => exact h3.elim
end
section
variable {n : Nat} {ro : Option Nat} {L : Env} {S S0 : St} {Q : Bi} {ops : List Oper} {i d : Nat} {o : Oper} {Ts : List St} {l : List (Nat × AD)}
end
end Go.Cm
namespace Go.Cm
open Go
variable {P : Program} {K : A1} {n i j q d : Nat} {ops : List Oper} {pl : List (Oper × Nat)} {AE : List Nat} {E : List Cb} {L : Env} {S S0 : St} {Ts : List St} {Q : Bi} {l : List (Nat × AD)} {gs : List Gr} {o : Oper}
noncomputable def cb (F : Func) : Code := F.body.getD .skip
theorem ce {f : FuncId} {F : Func} {args : List Value} {Q : Value → St → Prop} (n : Nat) (hf : P.funcs[f]? = some F) (h : Jv S [S] S [] → XE P K n none (cb F) (Ka 0 args) S (Fm P F.results.toList Q)) (hb : F.body = some (cb F) := by exact rfl) (hk : K.call f args S = none := by exact rfl)
  (hd : K.defers f = false := by exact rfl) (Ez : (F.name == "runtime.NumGoroutine") = false := by kernel_rfl) (hn : DK F.ntmps args.length = n := by exact rfl) (EY : Nat.ble n 256 = true := by exact rfl) : CC P K f args S Q :=
 sY hf hb hk hd Ez hn EY (h (Jv.start S))
theorem cm {f : FuncId} {F : Func} {args : List Value} {Q : Value → St → Prop} (n : Nat) (hf : P.funcs[f]? = some F) (h : Jv S [S] S [] → XD P K n none (cb F) (Ka 0 args) S [] (dr P F.results.toList Q)) (hb : F.body = some (cb F) := by exact rfl) (hk : K.call f args S = none := by exact rfl)
  (hd : K.defers f = false := by exact rfl) (Ez : (F.name == "runtime.NumGoroutine") = false := by kernel_rfl) (hn : DK F.ntmps args.length = n := by exact rfl) (EY : Nat.ble n 256 = true := by exact rfl) : CC P K f args S Q :=
 sa hf hb hk hd Ez hn EY (h (Jv.start S))
theorem aL (hl : AB S0 Ts S l gs) {e : TypeId} (z : List Value) (h : ∀ B S', AB S0 Ts S' ((B, .cells z e false true []) :: l) gs → RE P K n ops (i + 1) ((d, ptrTo B 0) :: L) S' Q) (ho : nth ops i = some o := by exact rfl) (AH : o.op = .alloc e := by exact rfl) (hw : As ops L o = some true := by exact rfl)
  (hd : o.dst = some d := by exact rfl) (hn : Nat.blt d n = true := by exact rfl) (hz : zeroOf P e = some z := by kernel_rfl) : RE P K n ops i L S Q := ABS hl ho AH hw hd hn hz h
theorem bL (hl : AB S0 Ts S l gs) {e : TypeId} {x : Operand} {v : Value} (h : ∀ B S', AB S0 Ts S' ((B, .cells (AP v) e false true []) :: l) gs → RE P K n ops (i + 1) ((d, ptrTo B 0) :: L) S' Q) (ho : nth ops i = some o := by exact rfl) (AH : o.op = .box e x := by exact rfl) (hw : As ops L o = some true := by exact rfl)
  (hd : o.dst = some d := by exact rfl) (hn : Nat.blt d n = true := by exact rfl) (hx : Ae L x = some v := by exact rfl) : RE P K n ops i L S Q := ABV hl ho AH hw hd hn hx h
theorem sL (hl : AB S0 Ts S l gs) (k : Nat) {t : TypeId} {x y : Operand} {v : Value} {b off : Nat} {c : List Value} (c' : List Value) {e : TypeId} (h : ∀ S', AB S0 Ts S' (Gt k (.cells c' e false true []) l) gs → RE P K n ops (i + 1) L S' Q) (hk : nth l k = some (b, .cells c e false true []) := by exact rfl)
  (ho : nth ops i = some o := by exact rfl) (AH : o.op = .store t x y := by exact rfl) (hw : As ops L o = some true := by exact rfl) (hd : o.dst = none := by exact rfl) (hx : Ae L x = some (ptrTo b off) := by exact rfl) (hy : Ae L y = some v := by exact rfl)
  (hz : Hk P t v = true := by kernel_rfl) (hs : BJ off (AP v) c = some c' := by exact rfl) : RE P K n ops i L S Q := Qo hl k hk ho AH hw hd hx hy hz hs h
theorem dL (hl : AB S0 Ts S l gs) {t elem : TypeId} {len : Nat} {ps : Array (Nat × Operand)} {us : List (Nat × Value)} (c : List Value) (hu : P.underlying t = some (.slice elem))
  (h : ∀ B S', Di S' B elem c → AB S0 Ts S' l gs → RE P K n ops (i + 1) ((d, .slice (some ⟨B, 0, none⟩) len len) :: L) S' Q) (ho : nth ops i = some o := by exact rfl) (AH : o.op = .buildSlice t len ps := by exact rfl) (hw : As ops L o = some true := by exact rfl)
  (hd : o.dst = some d := by exact rfl) (hn : Nat.blt d n = true := by exact rfl) (hx : H0 L ps.toList = some us := by exact rfl) (hc : J5 P elem len us = some c := by kernel_rfl) : RE P K n ops i L S Q := WD hl ho AH hw hd hn hu hx hc h
theorem pL (hl : AB S0 Ts S l gs) (k : Nat) {t : TypeId} {x y : Operand} {v : Value} {b off : Nat} {c : List Value} (c' : List Value) {e : TypeId}
  (hk : nth l k = some (b, .cells c e false true []) := by exact rfl) (ho : nth pl q = some (o, j) := by exact rfl) (AH : o.op = .store t x y := by exact rfl) (hw : As ops L o = some true := by exact rfl) (hd : o.dst = none := by exact rfl) (hx : Ae L x = some (ptrTo b off) := by exact rfl)
  (hy : Ae L y = some v := by exact rfl) (hz : Hk P t v = true := by kernel_rfl) (hs : BJ off (AP v) c = some c' := by exact rfl) (h : ∀ S', AB S0 Ts S' (Gt k (.cells c' e false true []) l) gs → E7 P n S' ((nth AE j).getD 0) E ∧ RP P K n ops AE pl (q + 1) (left ((nth AE j).getD 0) E) L S' Q) : RP P K n ops AE pl q E L S Q := WL hl k hk ho AH hw hd hx hy hz hs h
theorem aP {G : Prop} (h : G := by kernel_rfl) : G := h
theorem Q1 {G : Prop} (h : G := by omega) : G := h
theorem aQ {α : Type} {a : α} {l : List α} : a ∈ a :: l := List.mem_cons_self ..
theorem cy {α : Type} {a b : α} {l : List α} (h : a ∈ l) : a ∈ b :: l := List.mem_cons_of_mem _ h
theorem ay {α : Type} {l r : List α} : (l ++ r).length = l.length + r.length := List.length_append
theorem cw {α β : Type} {f : α → β} {l : List α} : (l.map f).length = l.length := List.length_map ..
theorem mAp {α β : Type} {f : α → β} {l r : List α} : (l ++ r).map f = l.map f ++ r.map f := List.map_append
theorem oTr {p : Prop} [Decidable p] (h : decide p = true) : p := of_decide_eq_true h
theorem oFa {p : Prop} [Decidable p] (h : decide p = false) : ¬p := of_decide_eq_false h
theorem sE {G : Prop} (h : G := by repeat (first| exact trivial| refine ⟨rfl, ?_⟩)) : G := h
theorem dT {p g : Prop} [Decidable p] (h : decide p = true) (k : p → g := by intro k; omega) : g := k (of_decide_eq_true h)
theorem dF {p g : Prop} [Decidable p] (h : decide p = false) (k : ¬p → g := by intro k; omega) : g := k (of_decide_eq_false h)
end Go.Cm
namespace Go.Cm
open Go
variable {P : Program} {K : A1}
theorem Flat.eq {ρ : AF} {v : Value} (h : Flat v) : ∀ {v' : Value}, VR ρ v v' → v' = v := by
 induction h with
 | func f =>
  intro v' k
  cases k with
  | func _ ha h1 hc h2 =>
   rw [List.length_eq_zero_iff.1 ha.symm, List.length_eq_zero_iff.1 hc.symm]
 | iface t _ i => intro v' k; cases k with | iface _ h => rw [i h]
 | agg _ i =>
  rename_i a _
  intro v' k
  cases k with
  | agg ha h =>
   rename_i a'
   congr 2
   apply List.ext_getElem? ; intro j
   cases e : a[j]? with
   | none => rw [List.getElem?_eq_none_iff] at e ⊢; omega
   | some x =>
    have hj : j < a'.length := ha ▸ (List.getElem?_eq_some_iff.1 e).1
    rw [List.getElem?_eq_getElem hj, i j x e (h j x _ e (List.getElem?_eq_getElem hj))]
 | tuple _ i =>
  rename_i a _
  intro v' k
  cases k with
  | tuple ha h =>
   rename_i a'
   congr 2
   apply List.ext_getElem? ; intro j
   cases e : a[j]? with
   | none => rw [List.getElem?_eq_none_iff] at e ⊢; omega
   | some x =>
    have hj : j < a'.length := ha ▸ (List.getElem?_eq_some_iff.1 e).1
    rw [List.getElem?_eq_getElem hj, i j x e (h j x _ e (List.getElem?_eq_getElem hj))]
 | _ => intro v' k; cases k; rfl
theorem gm {ρ : AF} : ∀ {l l' : List Value}, l.all (DM 9) = true → AI ρ l l' → l' = l
 | [], _, _, h => h.Hd
 | v :: l, l', hf, h => by
  rw [List.all_cons, Bool.and_eq_true] at hf
  obtain ⟨v', k, rfl, h1, h2⟩ := h.cons_inv
  rw [(Lv 9 v hf.1).eq h1, gm hf.2 h2]
theorem gn (ρ : AF) : ∀ {l : List Value}, l.all (DM 9) = true → AI ρ l l
 | [], _ => AI.nil
 | v :: l, hf => by
  rw [List.all_cons, Bool.and_eq_true] at hf
  exact AI.cons ((Lv 9 v hf.1).refl ρ) (gn ρ hf.2)
def Hg (v : Value) (r : Option (Ending × St)) : Bool := match r with
 | some (.returned u, _) => CO 100000 u v
 | _ => false
theorem uD (hm : P.follows .mixedOrders = true) {W : World} (hK : N6 P K W) {n : Nat} {f : FuncId} {fn : Func} {c : Code} (hf : P.funcs[f]? = some fn) (hb : fn.body = some c) (Ez : (fn.name == "runtime.NumGoroutine") = false)
  {G : List (Nat × List Value)} {args : List Value} {v : Value} (ha : args.all (DM 9) = true) (hv : DM 9 v = true) (h : Hg v ((fns P K n).call (.fn (.func f) #[]) args (EA G P.globals.size)) = true) (hn : P.globals.size ≤ W.heap.size)
  (hG : ∀ g l, (g, l) ∈ G → ∃ (arr : Array Value) (e : TypeId) (fz : Nat × Nat), W.heap[g]? = some (.cells arr e fz) ∧ arr.toList = l) (LC : ∀ g l, (g, l) ∈ G → ∀ v ∈ l, DM Lu v = true) :
  Calls P f ⟨args⟩ W fun e w => e = .returned v ∧ Kept W w := by
 cases hr : (fns P K n).call (.fn (.func f) #[]) args (EA G P.globals.size) with
 | none => rw [hr] at h; cases h
 | some x =>
  obtain ⟨e, S'⟩ := x
  rw [hr] at h
  have Sn := oU (P := P) hn hG LC
  have := (gz hm hK n n (Nat.le_refl _) (fun _ => false)).call _ _ _ _ _ hr _ W (.fn (.func f) #[]) ⟨args⟩ Sn ⟨.func f, .func f, #[], #[], rfl, rfl, .func f rfl MQ rfl MQ⟩ (gn _ ha)
  have HX : (invoke (.fn (.func f) #[]) ⟨args⟩).run P W = .ok (.enter f ⟨args⟩) W := by
   have := Qt hf hb Ez ⟨args⟩ W
   simpa [invoke] using this
  rw [HX] at this
  refine (callsIn_wide.1 this).mono ?_
  rintro e' w ⟨ρ', _, h2, h3⟩
  have hk := h3.kept
  cases h2 with
  | ret hu =>
   have := PE _ _ _ h
   subst this
   exact ⟨by rw [(Lv 9 _ hv).eq hu], hk⟩
  | A6 hp => cases h
theorem uC {W : World} {f : FuncId} {v : Value} {S : St} {args : List Value} (ha : args.all (DM 9) = true) (h : ∀ w, Kept W w → Calls P f ⟨args⟩ w fun e w' => e = .returned v ∧ Kept w w') :
  ∀ (w0 : Bn) (ρ : AF) (w : World) (args' : Array Value), w0.toWorld = W → AO P w0 ρ S w → AI ρ args args'.toList → Calls P f args' w fun e w' => e = .returned v ∧ Kept w w' := by
 intro w0 ρ w args' e hs hv
 subst e
 have : args' = ⟨args⟩ := by
  apply Array.ext'
  exact gm ha hv
 subst this
 exact h w hs.kept
end Go.Cm
namespace Go.Cm
open Go
variable {P : Program} {w0 : Bn}
theorem AO.view {ρ : AF} {S : St} {w : World} (h : AO P w0 ρ S w) {c : List Value} {e : TypeId} {L : Loc} (hr : L.r < w0.heap.size) (hB : JG P (BB ρ S.size L) (.cells c e true false []) w.heap[L.r]? L) :
  Ext ρ (BB ρ S.size L) ∧ AO P w0 (BB ρ S.size L) (S.new (.cells c e true false [])).2 w := by
 have Ir : ρ S.size = none := by
  cases hx : ρ S.size with
  | none => rfl
  | some M => exact absurd (h.DC _ _ hx).1 (Nat.lt_irrefl _)
 have FX := M1 L Ir
 have FY : ∀ b, (S.new (.cells c e true false [])).2.get b = if b = S.size then some (.cells c e true false []) else S.get b := by
  intro b
  show (⟨S.heap.set S.size _, S.size + 1⟩ : St).get b = _
  simp only [St.get, Cf.HQ]
 refine ⟨FX, ⟨h.size, h.old, h.os, h.out, fun b M hb => ?_, fun b M C hb hC => ?_, fun b M C hb hC hm => ?_, fun g hg => let ⟨M, a, b⟩ := h.J' g hg; ⟨M, FX _ _ a, b⟩, fun b hb => ?_⟩⟩
 ·show b < S.size + 1 ∧ _
  unfold BB at hb
  split at hb
  ·cases hb
   have := h.size
   exact ⟨by omega, by omega⟩
  have := h.DC b M hb
  exact ⟨by omega, this.2⟩
 ·rw [FY] at hC
  unfold BB at hb
  by_cases e' : b = S.size
  ·rw [if_pos e'] at hb hC
   cases hb; cases hC
   exact hB
  rw [if_neg e'] at hb hC
  exact (h.CR b M C hb hC).mono FX
 ·rw [FY] at hC
  unfold BB at hb
  by_cases e' : b = S.size
  ·rw [if_pos e'] at hb hC
   cases hC
   cases hm
  rw [if_neg e'] at hb hC
  refine ⟨(h.own b M C hb hC hm).1, fun b' L' B' BS EL DS AR => ?_⟩
  rw [FY] at DS
  unfold BB at BS
  by_cases e2 : b' = S.size
  ·rw [if_pos e2] at BS
   cases BS
   have := (h.own b M C hb hC hm).1
   omega
  rw [if_neg e2] at BS DS
  exact (h.own b M C hb hC hm).2 b' L' B' BS EL DS AR
 have := h.no b hb
 refine ⟨?_, by show b < S.size + 1; omega⟩
 unfold BB
 rw [if_neg (by omega)]
 exact this.1
theorem mapM_some {α β : Type} {f : α → Option β} : ∀ {l : List α} {r : List β}, l.mapM f = some r → r.length = l.length ∧ ∀ (i : Nat) (x : α), l[i]? = some x → ∃ y, f x = some y ∧ r[i]? = some y
 | [], r, h => by
  simp only [List.mapM_nil, Option.pure_def, Option.some.injEq] at h
  subst h
  exact ⟨rfl, fun i x hx => by simp at hx⟩
 | a :: l, r, h => by
  rw [List.mapM_cons] at h
  obtain ⟨y, hy, h⟩ := Option.mem_bind_iff.1 h
  obtain ⟨ys, Ox, h⟩ := Option.mem_bind_iff.1 h
  cases h
  obtain ⟨h1, h2⟩ := mapM_some Ox
  refine ⟨by simp [h1], fun i x hx => ?_⟩
  cases i with
  | zero => simp at hx; subst hx; exact ⟨y, hy, rfl⟩
  | succ i => simpa using h2 i x (by simpa using hx)
theorem Un {w : World} {base : Nat} {a : Addr} {n : Nat} {cs : List Value} (h : w.cells? base a n = some cs) (hn : 0 < n) :
  ∃ (arr : Array Value) (e : TypeId) (fz : Nat × Nat), w.heap[a.block]? = some (.cells arr e fz) ∧ a.spot = none ∧ a.off + n ≤ arr.size ∧ cs = (arr.toList.drop a.off).take n := by
 unfold World.cells? at h
 split at h
 ·obtain ⟨h1, h2⟩ := mapM_some h
  have hl : cs.length = n := by simpa using h1
  have each : ∀ i, i < n → ∃ (arr : Array Value) (e : TypeId) (fz : Nat × Nat), w.heap[a.block]? = some (.cells arr e fz) ∧ (a.add i).spot = none ∧ ∃ v, arr[a.off + i]? = some v ∧ cs[i]? = some v := by
   intro i hi
   obtain ⟨y, hy, hc⟩ := h2 i i (by simp [hi])
   unfold World.cell? at hy
   have hb : (a.add i).block = a.block := by unfold Addr.add; split <;> rfl
   have ho : (a.add i).off = a.off + i := by
    unfold Addr.add
    split
    ·rename_i e; subst e; rfl
    rfl
   rw [hb, ho] at hy
   split at hy
   ·rename_i arr e fz hh
    split at hy
    ·cases hy
    rename_i hs
    exact ⟨arr, e, fz, hh, by simpa using hs, y, hy, hc⟩
   cases hy
  obtain ⟨arr, e, fz, hh, hs, _⟩ := each 0 hn
  have xu : a.spot = none := hs
  refine ⟨arr, e, fz, hh, xu, ?_, ?_⟩
  ·obtain ⟨XV, e2, YH, KH, _, v, hv, _⟩ := each (n - 1) (by omega)
   rw [hh] at KH
   cases KH
   have := (Array.getElem?_eq_some_iff.1 hv).1
   omega
  apply List.ext_getElem?
  intro i
  rw [List.getElem?_take]
  by_cases hi : i < n
  ·obtain ⟨XV, e2, YH, KH, _, v, hv, hc⟩ := each i hi
   rw [hh] at KH
   cases KH
   rw [if_pos hi, hc, List.getElem?_drop, Array.getElem?_toList, hv]
  rw [if_neg hi, List.getElem?_eq_none (by omega)]
 cases h
def Np (P : Program) : Nat → TypeId → Bool
 | 0, _ => false
 | n + 1, t => match P.underlying t with
  | some .bool => true
  | some (.int _) => true
  | some .string => true
  | some (.slice e) => Np P n e && (Nat.blt 0 (P.cellsOf e) && (match A0 P e with | some z => Nat.beq z (P.cellsOf e) | none => false))
  | some (.struct fs) => K0 P (P.cellsOf t) fs.toList 0 && fs.toList.all fun f => Np P n f.type
  | some (.array m e) => Nat.beq (P.cellsOf t) (m * P.cellsOf e) && Np P n e
  | _ => false
def Cn (P : Program) : Nat → TypeId → St → List Value → Prop
 | 0, _, _, _ => False
 | n + 1, t, S, c => match P.underlying t with
  | some .bool => ∃ b, c = [.bool b]
  | some (.int k) => ∃ m, c = [.int k m] ∧ (Lit.int k m).wf = true
  | some .string => ∃ s : ByteArray, c = [.string s] ∧ s.size ≤ maxLen
  | some (.slice e) => c = [.slice none 0 0] ∨ (∃ b o k, c = [.slice (some ⟨b, o, some k⟩) 0 0]) ∨
    ∃ b len cs, c = [.slice (some ⟨b, 0, none⟩) len len] ∧ b < S.size ∧ S.get b = some (.cells cs e true false []) ∧ cs.length = len * P.cellsOf e ∧ len ≤ maxLen ∧ ∀ i, i < len → Cn P n e S ((cs.drop (i * P.cellsOf e)).take (P.cellsOf e))
  | some (.struct fs) => c.length = P.cellsOf t ∧ ∀ f, f ∈ fs.toList → Cn P n f.type S ((c.drop f.offset).take (P.cellsOf f.type))
  | some (.array m e) => c.length = P.cellsOf t ∧ ∀ i, i < m → Cn P n e S ((c.drop (i * P.cellsOf e)).take (P.cellsOf e))
  | _ => False
theorem Cn.AA {S T : St} (h : AG S T) : ∀ (n : Nat) (t : TypeId) (c : List Value), Cn P n t S c → Cn P n t T c
 | 0, _, _, h => h
 | n + 1, t, c, hr => by
  unfold Cn at hr ⊢
  split
  ·rename_i hu; rw [hu] at hr; exact hr
  ·rename_i hu; rw [hu] at hr; exact hr
  ·rename_i hu; rw [hu] at hr; exact hr
  ·rename_i e hu
   rw [hu] at hr
   rcases hr with hr | hr | ⟨b, len, cs, h1, h2, h3, h4, h5, h6⟩
   ·exact .inl hr
   ·exact .inr (.inl hr)
   exact .inr (.inr ⟨b, len, cs, h1, Nat.lt_of_lt_of_le h2 h.1, by rw [h.2 b h2]; exact h3, h4, h5, fun i hi => Cn.AA h n e _ (h6 i hi)⟩)
  ·rename_i fs hu
   rw [hu] at hr
   exact ⟨hr.1, fun f hf => Cn.AA h n _ _ (hr.2 f hf)⟩
  ·rename_i m e hu
   rw [hu] at hr
   exact ⟨hr.1, fun i hi => Cn.AA h n _ _ (hr.2 i hi)⟩
  rename_i h1 h2 h3 h4 h5 h6
  cases hu : P.underlying t with
  | none => rw [hu] at hr; exact hr
  | some d =>
   rw [hu] at hr
   cases d <;> first
    | exact hr
    | exact absurd hu h1
    | exact absurd hu (h2 _)
    | exact absurd hu h3
    | exact absurd hu (h4 _)
    | exact absurd hu (h5 _)
    | exact absurd hu (h6 _ _)
theorem AI.length {ρ : AF} {a b : List Value} (h : AI ρ a b) : a.length = b.length := h.1
theorem oh {α : Type} (l : List α) (k z : Nat) : l.take ((k + 1) * z) = l.take (k * z) ++ (l.drop (k * z)).take z := by
 rw [Nat.succ_mul, List.take_add]
section
variable {H : Type} {enc : TypeId × Value → H} {sp : Nat → Bool} {held : Bool}
theorem lay : ∀ (n : Nat) (t : TypeId) (fuel : Nat) (cs : List Value) (d : DataW H) (p : List MemPlace), Np P n t = true → (∀ b, sp b = true) → DataW.trod enc P w0.toWorld 0 sp held fuel t cs = some (d, p) →
  ∀ (ρ : AF) (S : St), AO P w0 ρ S w0.toWorld → ∃ ρ' S' c, Ext ρ ρ' ∧ AO P w0 ρ' S' w0.toWorld ∧ AG S S' ∧ AI ρ' c cs ∧ Cn P n t S' c
 | 0, t, fuel, cs, d, p, hp, _, h, ρ, S, hs => by cases hp
 | n + 1, t, 0, cs, d, p, hp, _, h, ρ, S, hs => by simp [DataW.trod] at h
 | n + 1, t, fuel + 1, cs, d, p, hp, Oq, h, ρ, S, hs => by
  unfold Np at hp
  split at hp
  ·rename_i hu
   simp only [DataW.trod, hu] at h
   split at h
   all_goals first | (simp_all; done) | skip
   refine ⟨ρ, S, [.bool _], Ext.refl _, hs, AG.refl _, AI.cons (.bool _) .nil, ?_⟩
   unfold Cn
   rw [hu]
   exact ⟨_, rfl⟩
  ·rename_i k hu
   simp only [DataW.trod, hu] at h
   split at h
   all_goals first | (simp_all; done) | skip
   rename_i k' m
   split at h
   ·rename_i hk
    obtain ⟨rfl, hwf⟩ := hk
    refine ⟨ρ, S, [.int _ _], Ext.refl _, hs, AG.refl _, AI.cons (.int _ _) .nil, ?_⟩
    unfold Cn
    simp_all
   cases h
  ·rename_i hu
   simp only [DataW.trod, hu] at h
   split at h
   all_goals first | (simp_all; done) | skip
   rename_i s
   split at h
   ·rename_i hle
    refine ⟨ρ, S, [.string _], Ext.refl _, hs, AG.refl _, AI.cons (.string _) .nil, ?_⟩
    unfold Cn
    simp_all
   cases h
  ·rename_i e hu
   simp only [Bool.and_eq_true] at hp
   obtain ⟨KN, H7, Sj⟩ := hp
   have hz := HA H7
   have Ay : A0 P e = some (P.cellsOf e) := by
    split at Sj
    ·rename_i z Oy; rw [Oy, BV Sj]
    cases Sj
   generalize Iz : P.cellsOf e = z at *
   simp only [DataW.trod, hu] at h
   split at h
   all_goals first | (simp_all; done) | skip
   ·-- nil
    refine ⟨ρ, S, [.slice none 0 0], Ext.refl _, hs, AG.refl _, AI.cons .IP .nil, ?_⟩
    unfold Cn
    simp_all
   rename_i a len cap he
   cases he
   simp only [Iz] at h
   split at h
   ·rename_i hle
    obtain ⟨gU, Yr, h⟩ := Option.mem_bind_iff.1 h
    obtain ⟨rest, LG, h⟩ := Option.map_eq_some_iff.1 h
    rw [if_pos (Oq _)] at LG
    obtain ⟨e1, e2⟩ := mapM_some Yr
    obtain ⟨r1, r2⟩ := mapM_some LG
    by_cases HW : cap = 0
    ·obtain rfl : len = 0 := by omega
     subst HW
     refine ⟨ρ, S, [.slice (some ⟨0, 0, some 0⟩) 0 0], Ext.refl _, hs, AG.refl _, AI.cons (.Ki _ _ _ _) .nil, ?_⟩
     unfold Cn
     rw [hu]
     exact .inr (.inl ⟨0, 0, 0, rfl⟩)
    -- the row lies in memory
    have Yq : ∀ i, i < cap → ∃ JM, w0.toWorld.cells? 0 (a.add (i * z)) z = some JM ∧ ∃ d' p', DataW.trod enc P w0.toWorld 0 sp held fuel e JM = some (d', p') := by
     intro i hi
     by_cases G5 : i < len
     ·obtain ⟨y, hy, _⟩ := e2 i i (by simp [G5])
      obtain ⟨JM, h1, h2⟩ := Option.bind_eq_some_iff.1 hy
      exact ⟨JM, h1, y.1, y.2, h2⟩
     obtain ⟨y, hy, _⟩ := r2 (i - len) (i - len) (List.getElem?_range (by omega))
     obtain ⟨JM, h1, h2⟩ := Option.bind_eq_some_iff.1 hy
     rw [show len + (i - len) = i by omega] at h1
     exact ⟨JM, h1, y.1, y.2, h2⟩
    obtain ⟨cs0, q0, _⟩ := Yq 0 (by omega)
    obtain ⟨arr, e', fz, hh, ZS, _, _⟩ := Un q0 hz
    have vP : (a.add (0 * z)) = a := by simp [Addr.add]
    rw [vP] at hh ZS
    have SC : ∀ i, (a.add (i * z)).block = a.block ∧ (a.add (i * z)).off = a.off + i * z := by
     intro i
     unfold Addr.add
     split
     ·rename_i e0; rw [e0]; exact ⟨rfl, rfl⟩
     exact ⟨rfl, rfl⟩
    have Vc : a.off + cap * z ≤ arr.size := by
     obtain ⟨JM, h1, _⟩ := Yq (cap - 1) (by omega)
     obtain ⟨XV, tR, YH, KH, _, Y4, _⟩ := Un h1 hz
     rw [(SC _).1, hh] at KH
     cases KH
     rw [(SC _).2] at Y4
     have : (cap - 1) * z + z = cap * z := by rw [← Nat.succ_mul]; congr 1; omega
     omega
    have rows : ∀ k, k ≤ len → ∃ ρ' S' c, Ext ρ ρ' ∧ AO P w0 ρ' S' w0.toWorld ∧ AG S S' ∧ AI ρ' c ((arr.toList.drop a.off).take (k * z)) ∧ c.length = k * z ∧ ∀ i, i < k → Cn P n e S' ((c.drop (i * z)).take z) := by
     intro k
     induction k with
     | zero => intro _; exact ⟨ρ, S, [], Ext.refl _, hs, AG.refl _, by simpa using AI.nil, by simp, fun i hi => by omega⟩
     | succ k ih =>
      intro hk
      obtain ⟨ρ1, S1, c1, x1, x2, x3, x4, x5, x6⟩ := ih (by omega)
      obtain ⟨JM, h1, d', p', h2⟩ := Yq k (by omega)
      obtain ⟨XV, tR, YH, KH, _, Y4, Ec⟩ := Un h1 hz
      rw [(SC _).1, hh] at KH
      cases KH
      rw [(SC _).2] at Ec
      obtain ⟨ρ2, S2, c2, y1, y2, y3, y4, y5⟩ := lay n e fuel JM d' p' KN Oq h2 ρ1 S1 x2
      have Bu : c2.length = z := by
       rw [y4.length, Ec, List.length_take, List.length_drop, Array.length_toList]
       rw [(SC _).2] at Y4
       omega
      refine ⟨ρ2, S2, c1 ++ c2, x1.trans y1, y2, x3.trans y3, ?_, by rw [List.length_append, x5, Bu, Nat.succ_mul], fun i hi => ?_⟩
      ·rw [oh]
       refine AI.append (x4.mono y1) ?_
       rw [List.drop_drop, ← Ec]
       exact y4
      by_cases SU : i < k
      ·have jf : i * z + z ≤ k * z := by rw [← Nat.succ_mul]; exact Nat.mul_le_mul_right _ SU
       rw [List.drop_append_of_le_length (by omega), List.take_append_of_le_length (by rw [List.length_drop]; omega)]
       exact Cn.AA y3 n e _ (x6 i SU)
      obtain rfl : i = k := by omega
      rw [← x5, List.drop_left, ← Bu, List.take_length]
      exact y5
    obtain ⟨ρ1, S1, c1, x1, x2, x3, x4, x5, x6⟩ := rows len (Nat.le_refl _)
    have AJ : a.block < w0.heap.size := (Array.getElem?_eq_some_iff.1 hh).1
    have Ir : ρ1 S1.size = none := by
     cases hx : ρ1 S1.size with
     | none => rfl
     | some M => exact absurd (x2.DC _ _ hx).1 (Nat.lt_irrefl _)
    have hv := x2.view (c := c1) (e := e) (L := ⟨a.block, a.off, arr.size, z⟩) AJ ⟨arr, e', fz, hh, rfl, fun i v JY => ?_, (fun h => nomatch h), fun _ => Ay, (fun h => nomatch h), fun h => h.elim (fun h => nomatch h) (fun h => nomatch h)⟩
    ·refine ⟨_, _, [.slice (some ⟨S1.size, 0, none⟩) len len], x1.trans hv.1, hv.2, x3.trans (AG.new _ _), AI.cons ?_ .nil, ?_⟩
     ·obtain ⟨bb, oo, ss⟩ := a
      simp only at ZS
      subst ZS
      exact VR.slice (L := ⟨bb, oo, arr.size, z⟩) (JB _ _ _) (Nat.le_refl _) hle.2.1 (fun _ => Vc) (.inl (by simp))
     unfold Cn
     rw [hu]
     refine .inr (.inr ⟨S1.size, len, c1, rfl, Nat.lt_succ_self _, JQ _ _, by rw [Iz]; exact x5, by have := hle.2; omega, fun i hi => ?_⟩)
     rw [Iz]
     exact Cn.AA (AG.new _ _) n e _ (x6 i hi)
    obtain ⟨v', q1, q2⟩ := x4.get JY
    rw [List.getElem?_take] at q1
    split at q1
    ·rw [List.getElem?_drop, Array.getElem?_toList] at q1
     exact ⟨v', q1, q2.mono (M1 _ Ir)⟩
    cases q1
   cases h
  ·rename_i fs hu
   simp only [Bool.and_eq_true, List.all_eq_true] at hp
   obtain ⟨KN, H7⟩ := hp
   simp only [DataW.trod, hu] at h
   split at h
   ·rename_i hlen
    obtain ⟨xs, hm, _⟩ := Option.map_eq_some_iff.1 h
    obtain ⟨m1, m2⟩ := mapM_some hm
    -- field by field
    have fields : ∀ (gs : List Field) (o : Nat), K0 P (P.cellsOf t) gs o = true → (∀ f, f ∈ gs → f ∈ fs.toList) → ∀ (ρ1 : AF) (S1 : St), AO P w0 ρ1 S1 w0.toWorld →
      ∃ ρ' S' c, Ext ρ1 ρ' ∧ AO P w0 ρ' S' w0.toWorld ∧ AG S1 S' ∧ AI ρ' c (cs.drop o) ∧ ∀ f, f ∈ gs → o ≤ f.offset ∧ Cn P n f.type S' ((c.drop (f.offset - o)).take (P.cellsOf f.type)) := by
     intro gs
     induction gs with
     | nil =>
      intro o hc _ ρ1 S1 DO
      refine ⟨ρ1, S1, [], Ext.refl _, DO, AG.refl _, ?_, fun f hf => by simp at hf⟩
      rw [BV hc, ← hlen, List.drop_length]
      exact AI.nil
     | cons g gs ih =>
      intro o hc FE ρ1 S1 DO
      simp only [K0, Bool.and_eq_true] at hc
      have ho := BV hc.1
      obtain ⟨i, hi⟩ := List.getElem?_of_mem (FE g (by simp))
      obtain ⟨y, hy, _⟩ := m2 i g hi
      obtain ⟨ρ2, S2, c2, y1, y2, y3, y4, y5⟩ := lay n g.type fuel _ y.1 y.2 (H7 g (FE g (by simp))) Oq hy ρ1 S1 DO
      obtain ⟨ρ3, S3, c3, z1, z2, z3, z4, z5⟩ := ih (o + P.cellsOf g.type) hc.2 (fun f hf => FE f (by simp [hf])) ρ2 S2 y2
      have Cd : c2.length = min (P.cellsOf g.type) (cs.length - o) := by rw [y4.length, List.length_take, List.length_drop, ho]
      refine ⟨ρ3, S3, c2 ++ c3, y1.trans z1, z2, y3.trans z3, ?_, fun f hf => ?_⟩
      ·have e1 : cs.drop o = (cs.drop o).take (P.cellsOf g.type) ++ cs.drop (o + P.cellsOf g.type) := by
        rw [← List.drop_drop, List.take_append_drop]
       rw [e1]
       rw [ho] at y4
       exact AI.append (y4.mono z1) z4
      rcases List.mem_cons.1 hf with rfl | hf
      ·refine ⟨Nat.le_of_eq ho.symm, ?_⟩
       rw [ho, Nat.sub_self, List.drop_zero]
       have G4 : c2.length = P.cellsOf f.type := by
        have hle : o + P.cellsOf f.type ≤ P.cellsOf t := by
         clear ih FE z5
         have : ∀ (gs : List Field) (o : Nat), K0 P (P.cellsOf t) gs o = true → o ≤ P.cellsOf t := by
          intro gs
          induction gs with
          | nil => intro o h; exact Nat.le_of_eq (BV h)
          | cons g gs ih =>
           intro o h
           simp only [K0, Bool.and_eq_true] at h
           have := ih _ h.2
           omega
         exact this gs _ hc.2
        rw [Cd, hlen]
        omega
       rw [← G4, List.take_left]
       exact Cn.AA z3 n _ _ (by
        have := y5
        rwa [] at this)
      obtain ⟨q1, q2⟩ := z5 f hf
      refine ⟨by omega, ?_⟩
      have G4 : c2.length ≤ f.offset - o := by rw [Cd]; omega
      have vz : c2.length = P.cellsOf g.type ∨ c3 = [] := by
       by_cases hle : P.cellsOf g.type ≤ cs.length - o
       ·left; rw [Cd]; omega
       right
       have := z4.length
       rw [List.length_drop] at this
       exact List.eq_nil_of_length_eq_zero (by omega)
      rcases vz with e3 | e3
      ·rw [List.drop_append, List.drop_eq_nil_of_le G4, List.nil_append, e3]
       rw [show f.offset - o - P.cellsOf g.type = f.offset - (o + P.cellsOf g.type) by omega]
       exact q2
      subst e3
      rw [List.append_nil, List.drop_eq_nil_of_le G4]
      rw [List.drop_nil] at q2
      exact q2
    obtain ⟨ρ', S', c, x1, x2, x3, x4, x5⟩ := fields fs.toList 0 KN (fun f hf => hf) ρ S hs
    rw [List.drop_zero] at x4
    refine ⟨ρ', S', c, x1, x2, x3, x4, ?_⟩
    unfold Cn
    rw [hu]
    refine ⟨by rw [x4.length, hlen], fun f hf => ?_⟩
    have := (x5 f hf).2
    rwa [Nat.sub_zero] at this
   cases h
  ·rename_i m e hu
   simp only [Bool.and_eq_true] at hp
   have Ay := BV hp.1
   simp only [DataW.trod, hu] at h
   split at h
   ·rename_i hlen
    obtain ⟨xs, hm, _⟩ := Option.map_eq_some_iff.1 h
    obtain ⟨m1, m2⟩ := mapM_some hm
    generalize Iz : P.cellsOf e = z at *
    have rows : ∀ k, k ≤ m → ∃ ρ' S' c, Ext ρ ρ' ∧ AO P w0 ρ' S' w0.toWorld ∧ AG S S' ∧ AI ρ' c (cs.take (k * z)) ∧ c.length = k * z ∧ ∀ i, i < k → Cn P n e S' ((c.drop (i * z)).take z) := by
     intro k
     induction k with
     | zero => intro _; exact ⟨ρ, S, [], Ext.refl _, hs, AG.refl _, by simpa using AI.nil, by simp, fun i hi => by omega⟩
     | succ k ih =>
      intro hk
      obtain ⟨ρ1, S1, c1, x1, x2, x3, x4, x5, x6⟩ := ih (by omega)
      obtain ⟨y, hy, _⟩ := m2 k k (List.getElem?_range (by omega))
      obtain ⟨ρ2, S2, c2, y1, y2, y3, y4, y5⟩ := lay n e fuel _ y.1 y.2 hp.2 Oq hy ρ1 S1 x2
      have jf : k * z + z ≤ m * z := by rw [← Nat.succ_mul]; exact Nat.mul_le_mul_right _ hk
      have Bu : c2.length = z := by
       rw [y4.length, List.length_take, List.length_drop]
       omega
      refine ⟨ρ2, S2, c1 ++ c2, x1.trans y1, y2, x3.trans y3, ?_, by rw [List.length_append, x5, Bu, Nat.succ_mul], fun i hi => ?_⟩
      ·rw [oh]
       exact AI.append (x4.mono y1) y4
      by_cases SU : i < k
      ·have jf : i * z + z ≤ k * z := by rw [← Nat.succ_mul]; exact Nat.mul_le_mul_right _ SU
       rw [List.drop_append_of_le_length (by omega), List.take_append_of_le_length (by rw [List.length_drop]; omega)]
       exact Cn.AA y3 n e _ (x6 i SU)
      obtain rfl : i = k := by omega
      rw [← x5, List.drop_left, ← Bu, List.take_length]
      exact y5
    obtain ⟨ρ', S', c, x1, x2, x3, x4, x5, x6⟩ := rows m (Nat.le_refl _)
    rw [List.take_of_length_le (by omega)] at x4
    refine ⟨ρ', S', c, x1, x2, x3, x4, ?_⟩
    unfold Cn
    rw [hu]
    refine ⟨by rw [x5, Ay], fun i hi => ?_⟩
    rw [Iz]
    exact x6 i hi
   cases h
  cases hp
end
end Go.Cm
namespace Go.Cm
open Go
variable {P : Program} {K : A1}
theorem sW (hm : P.follows .mixedOrders = true) {W : World} (hK : N6 P K W) {f : FuncId} {fn : Func} {c : Code} (hf : P.funcs[f]? = some fn) (hb : fn.body = some c) (Ez : (fn.name == "runtime.NumGoroutine") = false)
  {args : List Value} {args' : Array Value} {ρ : AF} {S : St} (hs : AO P ⟨W, fun _ => false⟩ ρ S W) (hv : AI ρ args args'.toList) {Q : Value → Prop} (h : CC P K f args S fun v _ => Q v) :
  Calls P f args' W fun e w => ∃ v ρ' v', Q v ∧ VR ρ' v v' ∧ e = .returned v' ∧ Kept W w := by
 obtain ⟨m, v, S', h1, h2⟩ := h
 have vV : (fns P K (m + 1)).call (.fn (.func f) #[]) args S = some (.returned v, S') := by
  show Et P K (fns P K m) f (args ++ (#[] : Array Value).toList) S = _
  simpa using h1
 have := (gz hm hK (m + 1) (m + 1) (Nat.le_refl _) (fun _ => false)).call _ _ _ _ _ vV ρ W (.fn (.func f) #[]) args' hs ⟨.func f, .func f, #[], #[], rfl, rfl, .func f rfl MQ rfl MQ⟩ hv
 have HX : (invoke (.fn (.func f) #[]) args').run P W = .ok (.enter f args') W := by
  have := Qt hf hb Ez args' W
  simpa [invoke] using this
 rw [HX] at this
 refine (callsIn_wide.1 this).mono ?_
 rintro e' w ⟨ρ', _, q2, q3⟩
 cases q2 with
 | ret Nb => exact ⟨v, ρ', _, h2, Nb, rfl, q3.kept⟩
theorem mapM_congr {α β : Type} {f g : α → Option β} : ∀ {l : List α} {r : List β}, l.mapM f = some r → (∀ x, x ∈ l → ∀ y, f x = some y → g x = some y) → l.mapM g = some r
 | [], r, h, _ => by simpa using h
 | a :: l, r, h, hc => by
  rw [List.mapM_cons] at h ⊢
  obtain ⟨y, hy, h⟩ := Option.mem_bind_iff.1 h
  obtain ⟨ys, Ox, h⟩ := Option.mem_bind_iff.1 h
  cases h
  rw [hc a (by simp) y hy, mapM_congr Ox fun x hx => hc x (by simp [hx])]
  rfl
theorem cell_kept {W W' : World} (h : Kept W W') {a : Addr} {v : Value} (hc : W.cell? a = some v) : W'.cell? a = some v := by
 have hb : a.block < W.heap.size := by
  rcases Nat.lt_or_ge a.block W.heap.size with h1 | h1
  ·exact h1
  unfold World.cell? at hc
  simp only [Array.getElem?_eq_none h1] at hc
  cases hc
 unfold World.cell? at hc ⊢
 rw [h.old _ hb]
 exact hc
theorem se {W W' : World} (h : Kept W W') {base n : Nat} {a : Addr} {cs : List Value} (hc : W.cells? base a n = some cs) : W'.cells? base a n = some cs := by
 unfold World.cells? at hc ⊢
 split at hc
 ·rename_i hb
  rw [if_pos hb]
  exact mapM_congr hc fun x _ y hy => cell_kept h hy
 cases hc
section
variable {H : Type} {enc : TypeId × Value → H} {held : Bool} {W W' : World}
theorem WG (hk : Kept W W') : ∀ (n : Nat) (t : TypeId) (fuel : Nat) (cs : List Value) (r : DataW H × List MemPlace), Np P n t = true → DataW.trod enc P W 0 (fun _ => true) held fuel t cs = some r →
  DataW.trod enc P W' 0 (fun b => decide (b < W.heap.size)) held fuel t cs = some r
 | 0, t, fuel, cs, r, hp, h => by cases hp
 | n + 1, t, 0, cs, r, hp, h => by simp [DataW.trod] at h
 | n + 1, t, fuel + 1, cs, r, hp, h => by
  unfold Np at hp
  split at hp
  ·rename_i hu
   simp only [DataW.trod, hu] at h ⊢
   split at h
   all_goals first | (simp_all; done) | skip
  ·rename_i k hu
   simp only [DataW.trod, hu] at h ⊢
   split at h
   all_goals first | (simp_all; done) | skip
  ·rename_i hu
   simp only [DataW.trod, hu] at h ⊢
   split at h
   all_goals first | (simp_all; done) | skip
  ·rename_i e hu
   simp only [Bool.and_eq_true] at hp
   have hz := HA hp.2.1
   simp only [DataW.trod, hu] at h ⊢
   split at h
   all_goals first | (simp_all; done) | skip
   rename_i a len cap he
   cases he
   split at h
   ·rename_i hle
    rw [if_pos hle]
    obtain ⟨gU, Yr, h⟩ := Option.mem_bind_iff.1 h
    obtain ⟨rest, LG, h⟩ := Option.map_eq_some_iff.1 h
    have each : ∀ (i : Nat) (y : DataW H × List MemPlace), (W.cells? 0 (a.add (i * P.cellsOf e)) (P.cellsOf e)).bind (DataW.trod enc P W 0 (fun _ => true) held fuel e) = some y →
      (W'.cells? 0 (a.add (i * P.cellsOf e)) (P.cellsOf e)).bind (DataW.trod enc P W' 0 (fun b => decide (b < W.heap.size)) held fuel e) = some y := by
     intro i y hy
     obtain ⟨JM, h1, h2⟩ := Option.bind_eq_some_iff.1 hy
     rw [se hk h1]
     exact WG hk n e fuel JM y hp.1 h2
    rw [if_pos trivial] at LG
    refine Option.mem_bind_iff.2 ⟨gU, mapM_congr Yr fun i _ y hy => each i y hy, ?_⟩
    refine Option.map_eq_some_iff.2 ⟨rest, ?_, h⟩
    by_cases hb : a.block < W.heap.size
    ·rw [if_pos (by simpa using hb)]
     exact mapM_congr LG fun i _ y hy => each (len + i) y hy
    rw [if_neg (by simpa using hb)]
    -- no room at all
    have : cap - len = 0 := by
     rcases Nat.eq_zero_or_pos (cap - len) with h0 | h0
     ·exact h0
     exfalso
     obtain ⟨_, r2⟩ := mapM_some LG
     obtain ⟨y, hy, _⟩ := r2 0 0 (List.getElem?_range (by omega))
     obtain ⟨JM, h1, _⟩ := Option.bind_eq_some_iff.1 hy
     obtain ⟨arr, e', fz, hh, _⟩ := Un h1 hz
     have Yh : (a.add ((len + 0) * P.cellsOf e)).block = a.block := by unfold Addr.add; split <;> rfl
     rw [Yh] at hh
     exact hb (Array.getElem?_eq_some_iff.1 hh).1
    rw [this] at LG
    simpa using LG
   cases h
  ·rename_i fs hu
   simp only [Bool.and_eq_true, List.all_eq_true] at hp
   simp only [DataW.trod, hu] at h ⊢
   split at h
   ·rename_i hl
    rw [if_pos hl]
    obtain ⟨xs, hm, h⟩ := Option.map_eq_some_iff.1 h
    exact Option.map_eq_some_iff.2 ⟨xs, mapM_congr hm fun f hf y hy => WG hk n _ fuel _ y (hp.2 f hf) hy, h⟩
   cases h
  ·rename_i m e hu
   simp only [Bool.and_eq_true] at hp
   simp only [DataW.trod, hu] at h ⊢
   split at h
   ·rename_i hl
    rw [if_pos hl]
    obtain ⟨xs, hm, h⟩ := Option.map_eq_some_iff.1 h
    exact Option.map_eq_some_iff.2 ⟨xs, mapM_congr hm fun i _ y hy => WG hk n _ fuel _ y hp.2 hy, h⟩
   cases h
  cases hp
theorem nF (hk : Kept W W') (n : Nat) : ∀ (ts : List TypeId) (vs : List Value) (ds : List (DataW H)) (ps : List MemPlace), (ts.all fun t => Np P n t) = true → DataW.TrodAll enc P W 0 (fun _ => true) held ts vs ds ps →
  DataW.TrodAll enc P W' 0 (fun b => decide (b < W.heap.size)) held ts vs ds ps
 | [], [], [], ps, _, h => h
 | t :: ts, v :: vs, d :: ds, ps, hp, ⟨p, q, ⟨fuel, h1⟩, h2, h3⟩ => by
  simp only [List.all_cons, Bool.and_eq_true] at hp
  exact ⟨p, q, ⟨fuel, WG hk n t fuel _ _ hp.1 h1⟩, nF hk n ts vs ds q hp.2 h2, h3⟩
 | [], _ :: _, _, ps, _, h => h.elim
 | [], [], _ :: _, ps, _, h => h.elim
 | _ :: _, [], _, ps, _, h => h.elim
 | _ :: _, _ :: _, [], ps, _, h => h.elim
def RI (P : Program) (n : Nat) (S : St) : List TypeId → List Value → Prop
 | [], [] => True
 | t :: ts, v :: vs => Cn P n t S (AP v) ∧ RI P n S ts vs
 | _, _ => False
theorem RI.AA {S T : St} (h : AG S T) {n : Nat} : ∀ {ts : List TypeId} {vs : List Value}, RI P n S ts vs → RI P n T ts vs
 | [], [], _ => trivial
 | _ :: _, _ :: _, ⟨a, b⟩ => ⟨Cn.AA h n _ _ a, RI.AA h b⟩
 | [], _ :: _, h => h.elim
 | _ :: _, [], h => h.elim
end
end Go.Cm
