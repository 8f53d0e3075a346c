/-
  The evaluator of the model, and that it is sound: part 7.
-/
import Derived.Test.YtblhfojaiipboaaGreatDoorSy1
namespace Go.Cm
open Go
variable {P : Program} {K : Known}
def Ca.wd (a : Ca) (ds : List Deferred) : Ca := { a with defers := ds }
theorem wd_put {a a' : Ca} {d : Option Tmp} {v : Value} (h : a.put d v = some a') (ds : List Deferred) : (a.wd ds).put d v = some (a'.wd ds) ∧ a'.defers = a.defers := by
 cases d with
 | none => cases h; exact ⟨rfl, rfl⟩
 | some d =>
  unfold Ca.put at h ⊢
  simp only at h ⊢
  show (bif Nat.blt d a.n then _ else _) = _ ∧ _
  cases hb : Nat.blt d a.n with
  | true => rw [hb] at h; cases h; exact ⟨rfl, rfl⟩
  | false => rw [hb] at h; cases h
section
variable {ih : Fns} {full : List Oper}
theorem runOps_ds : ∀ (l : List Oper) {x x' : Ca} {S S' : St} {e : Exit}, runOps P ih full l x S = some (e, x', S') → x'.defers = x.defers ∧ ∀ ds, runOps P ih full l (x.wd ds) S = some (e, x'.wd ds, S')
 | [], x, x', S, S', e, h => by cases h; exact ⟨rfl, fun _ => rfl⟩
 | o :: l, x, x', S, S', e, h => by
  unfold runOps at h
  cases hw : wantedC full x o with
  | true =>
   rw [hw] at h
   simp only [cond_true] at h
   split at h
   ·rename_i v S1 hs
    split at h
    ·rename_i x1 hp
     obtain ⟨h1, h2⟩ := runOps_ds l h
     refine ⟨h1.trans (wd_put hp []).2, fun ds => ?_⟩
     unfold runOps
     rw [show wantedC full (x.wd ds) o = true from hw]
     simp only [cond_true]
     rw [show stepOp P ih (x.wd ds).ev o.op S = some (.val v, S1) from hs]
     simp only [(wd_put hp ds).1]
     exact h2 ds
    ·cases h
   ·rename_i ch S1 hs
    cases h
    refine ⟨rfl, fun ds => ?_⟩
    unfold runOps
    rw [show wantedC full (x.wd ds) o = true from hw]
    simp only [cond_true]
    rw [show stepOp P ih (x.wd ds).ev o.op S = some (.pan ch, S') from hs]
   ·cases h
  | false =>
   rw [hw] at h
   simp only [cond_false] at h
   split at h
   ·rename_i x1 hp
    obtain ⟨h1, h2⟩ := runOps_ds l h
    refine ⟨h1.trans (wd_put hp []).2, fun ds => ?_⟩
    unfold runOps
    rw [show wantedC full (x.wd ds) o = false from hw]
    simp only [cond_false, (wd_put hp ds).1]
    exact h2 ds
   ·cases h
def chkW (ds : List Deferred) : Nat × Chk → Nat × Chk
 | (i, .read a op v) => (i, .read (a.wd ds) op v)
 | x => x
theorem chkW_ok (ds : List Deferred) (S : St) (x : Nat × Chk) : (chkW ds x).2.ok P S = x.2.ok P S := by
 obtain ⟨i, c⟩ := x
 cases c <;> rfl
theorem chkW_fst (ds : List Deferred) (x : Nat × Chk) : (chkW ds x).1 = x.1 := by
 obtain ⟨i, c⟩ := x
 cases c <;> rfl
theorem chkW_filter (ds : List Deferred) (m : Nat) : ∀ chk : List (Nat × Chk), (chk.map (chkW ds)).filter (fun x => !m.testBit x.1) = (chk.filter fun x => !m.testBit x.1).map (chkW ds)
 | [] => rfl
 | x :: l => by
  rw [List.map_cons, List.filter_cons, List.filter_cons, chkW_fst, chkW_filter ds m l]
  split <;> rfl
theorem chkW_all (ds : List Deferred) (S : St) : ∀ chk : List (Nat × Chk), ((chk.map (chkW ds)).all fun x => x.2.ok P S) = chk.all fun x => x.2.ok P S
 | [] => rfl
 | x :: l => by rw [List.map_cons, List.all_cons, List.all_cons, chkW_ok, chkW_all ds S l]
theorem runPlan_ds {bef : List Nat} : ∀ (l : List (Oper × Nat)) {chk : List (Nat × Chk)} {x x' : Ca} {S S' : St} {e : Exit}, runPlan P ih full bef l chk x S = some (e, x', S') → x'.defers = x.defers ∧ ∀ ds, runPlan P ih full bef l (chk.map (chkW ds)) (x.wd ds) S = some (e, x'.wd ds, S')
 | [], chk, x, x', S, S', e, h => by cases h; exact ⟨rfl, fun _ => rfl⟩
 | (o, i) :: l, chk, x, x', S, S', e, h => by
  unfold runPlan at h
  cases hw : wantedC full x o with
  | true =>
   rw [hw] at h
   simp only [cond_true] at h
   split at h
   ·rename_i hk
    split at h
    ·rename_i v hr
     split at h
     ·rename_i x1 hp
      obtain ⟨h1, h2⟩ := runPlan_ds l h
      refine ⟨h1.trans (wd_put hp []).2, fun ds => ?_⟩
      unfold runPlan
      rw [show wantedC full (x.wd ds) o = true from hw, hk]
      simp only [cond_true]
      rw [show readOp P (x.wd ds).ev o.op S = some v from hr]
      simp only [(wd_put hp ds).1]
      have := h2 ds
      cases hl : looks o.op with
      | true => rw [hl] at this; exact this
      | false => rw [hl] at this; exact this
     ·cases h
    ·cases h
   ·rename_i hk
    split at h
    ·rename_i v S1 hr
     split at h
     ·rename_i x1 c hp hc hn
      obtain ⟨h1, h2⟩ := runPlan_ds l h
      refine ⟨h1.trans (wd_put hp []).2, fun ds => ?_⟩
      unfold runPlan
      rw [show wantedC full (x.wd ds) o = true from hw, hk]
      simp only [cond_true]
      rw [show newOp P (x.wd ds).ev o.op S = some (v, S1) from hr]
      simp only [(wd_put hp ds).1, hc, hn]
      have := h2 ds
      have hcw : chkW ds (i, c) = (i, c) := by
       unfold chkOf at hc
       split at hc
       ·cases hc; rfl
       ·cases hc; rfl
       ·cases hc
      rw [List.map_cons, hcw] at this
      exact this
     ·cases h
    ·cases h
   ·rename_i hk
    split at h
    ·rename_i v S1 hr
     split at h
     ·rename_i x1 hp
      cases hb : ((chk.filter fun x => !((nth bef i).getD 0).testBit x.1).all fun x => x.2.ok P S1) with
      | false => rw [hb] at h; cases h
      | true =>
       rw [hb] at h
       simp only [cond_true] at h
       obtain ⟨h1, h2⟩ := runPlan_ds l h
       refine ⟨h1.trans (wd_put hp []).2, fun ds => ?_⟩
       unfold runPlan
       rw [show wantedC full (x.wd ds) o = true from hw, hk]
       simp only [cond_true]
       rw [show stepOp P ih (x.wd ds).ev o.op S = some (.val v, S1) from hr]
       simp only [(wd_put hp ds).1, chkW_filter, chkW_all, hb, cond_true]
       exact h2 ds
     ·cases h
    ·cases h
  | false =>
   rw [hw] at h
   simp only [cond_false] at h
   split at h
   ·rename_i x1 hp
    obtain ⟨h1, h2⟩ := runPlan_ds l h
    refine ⟨h1.trans (wd_put hp []).2, fun ds => ?_⟩
    unfold runPlan
    rw [show wantedC full (x.wd ds) o = false from hw]
    simp only [cond_false, (wd_put hp ds).1]
    exact h2 ds
   ·cases h
end
def Dsf (ih : Fns) : Prop := ∀ ro c x S e x' S', ih.exec ro c x S = some (e, x', S') → ∃ k, x'.defers = k ++ x.defers ∧ ∀ ds, ih.exec ro c (x.wd ds) S = some (e, x'.wd (k ++ ds), S')
def rangeStart (ro : Option Nat) (S : St) : Option (Nat × List Deferred × St) := match ro with
 | none => match S.new (.defs false) with
  | (r, S1) => some (r, [{ target := .collected r, args := #[] }], S1)
 | some l => match loopOf S l with
  | some (_, _, _, _, _, _, _, d) => some (d, [], S)
  | none => none
def rangeEnd (a' : Ca) (l : Nat) (S3 : St) : Option (LoopState × Option Code × Nat × Tm × List Tmp × Code × Code × Nat) → Option (Exit × Ca × St)
 | some (st, p, n, t, ps, x, y, d) => bif (st == LoopState.busy) then none else match p with
  | none => some (.normal, a', S3.set l (.loop .exhausted p n t ps x y d))
  | some .ret => some (.ret, a', S3.set l (.loop .exhausted p n t ps x y d))
  | some (.exit id) => some (.exit id, a', S3.set l (.loop .exhausted p n t ps x y d))
  | _ => none
 | none => none
def rangeGo (ih : Fns) (params : Array Tmp) (assign body : Code) (fn : Fn) (first cap : Array Value) (a : Ca) : Option (Nat × List Deferred × St) → Option (Exit × Ca × St)
 | some (d, mark, S1) => match ih.call (.fn fn cap) (first.toList ++ [.func (.yield S1.size) #[] #[]]) (S1.new (.loop .ready none a.n a.t params.toList assign body d)).2 with
  | some (.returned _, S3) => rangeEnd { a with defers := mark ++ a.defers } S1.size S3 (loopOf S3 S1.size)
  | some (.panicked ch, S3) => some (.panic ch, { a with defers := mark ++ a.defers }, S3)
  | _ => none
 | none => none
theorem execF_range {ih : Fns} {ro : Option Nat} {f : Operand} {params : Array Tmp} {assign body : Code} {a : Ca} {S : St} : execF P ih ro (.rangeFunc f params assign body) a S = match a.ev f with
  | .func fn first cap => bif isConst f || !bodied P fn then none else rangeGo ih params assign body fn first cap a (rangeStart ro S)
  | _ => none := by
 simp only [execF]
 cases a.ev f with
 | func fn first cap =>
  simp only
  cases (isConst f || !bodied P fn) with
  | true => rfl
  | false =>
   simp only [cond_false]
   unfold rangeStart rangeGo
   cases ro with
   | none =>
    simp only
    show (match ih.call (.fn fn cap) (first.toList ++ [.func (.yield (S.new (.defs false)).2.size) #[] #[]]) ((S.new (.defs false)).2.new (.loop .ready none a.n a.t params.toList assign body (S.new (.defs false)).1)).2 with
     | some (.returned _, S3) => _
     | some (.panicked ch, S3) => _
     | _ => none) = _
    cases ih.call (.fn fn cap) (first.toList ++ [.func (.yield (S.new (.defs false)).2.size) #[] #[]]) ((S.new (.defs false)).2.new (.loop .ready none a.n a.t params.toList assign body (S.new (.defs false)).1)).2 with
    | none => rfl
    | some r =>
     obtain ⟨e, S3⟩ := r
     cases e with
     | returned v => rfl
     | panicked ch => rfl
     | _ => rfl
   | some l =>
    simp only
    cases loopOf S l with
    | none => rfl
    | some q =>
     obtain ⟨q1, q2, q3, q4, q5, q6, q7, d⟩ := q
     simp only
     show (match ih.call (.fn fn cap) (first.toList ++ [.func (.yield S.size) #[] #[]]) (S.new (.loop .ready none a.n a.t params.toList assign body d)).2 with
      | some (.returned _, S3) => _
      | some (.panicked ch, S3) => _
      | _ => none) = _
     cases ih.call (.fn fn cap) (first.toList ++ [.func (.yield S.size) #[] #[]]) (S.new (.loop .ready none a.n a.t params.toList assign body d)).2 with
     | none => rfl
     | some r =>
      obtain ⟨e, S3⟩ := r
      cases e with
      | returned v => rfl
      | panicked ch => rfl
      | _ => rfl
 | _ => rfl
theorem rangeEnd_ds {a' : Ca} {l : Nat} {S3 S' : St} {e : Exit} {x' : Ca} : ∀ q, rangeEnd a' l S3 q = some (e, x', S') → x' = a' ∧ ∀ b, rangeEnd b l S3 q = some (e, b, S')
 | none, h => by cases h
 | some (st, p, n, t, ps, x, y, d), h => by
  unfold rangeEnd at h ⊢
  simp only at h ⊢
  cases hb : (st == LoopState.busy) with
  | true => rw [hb] at h; cases h
  | false =>
   rw [hb] at h
   simp only [cond_false] at h
   split at h
   ·cases h; exact ⟨rfl, fun b => rfl⟩
   ·cases h; exact ⟨rfl, fun b => rfl⟩
   ·cases h; exact ⟨rfl, fun b => rfl⟩
   ·cases h
theorem rangeGo_ds {ih : Fns} {params : Array Tmp} {assign body : Code} {fn : Fn} {first cap : Array Value} {x x' : Ca} {S' : St} {e : Exit} : ∀ q, rangeGo ih params assign body fn first cap x q = some (e, x', S') → ∃ k, x'.defers = k ++ x.defers ∧ ∀ ds, rangeGo ih params assign body fn first cap (x.wd ds) q = some (e, x'.wd (k ++ ds), S')
 | none, h => by cases h
 | some (d, mark, S1), h => by
  unfold rangeGo at h ⊢
  simp only at h ⊢
  split at h
  ·rename_i v S3 hx
   obtain ⟨rfl, h2⟩ := rangeEnd_ds _ h
   refine ⟨mark, rfl, fun ds => ?_⟩
   show (match ih.call (.fn fn cap) (first.toList ++ [.func (.yield S1.size) #[] #[]]) (S1.new (.loop .ready none x.n x.t params.toList assign body d)).2 with
    | some (.returned _, S3) => rangeEnd { (x.wd ds) with defers := mark ++ (x.wd ds).defers } S1.size S3 (loopOf S3 S1.size)
    | some (.panicked ch, S3) => some (.panic ch, { (x.wd ds) with defers := mark ++ (x.wd ds).defers }, S3)
    | _ => none) = _
   rw [hx]
   exact h2 _
  ·rename_i ch S3 hx
   cases h
   refine ⟨mark, rfl, fun ds => ?_⟩
   show (match ih.call (.fn fn cap) (first.toList ++ [.func (.yield S1.size) #[] #[]]) (S1.new (.loop .ready none x.n x.t params.toList assign body d)).2 with
    | some (.returned _, S3) => rangeEnd { (x.wd ds) with defers := mark ++ (x.wd ds).defers } S1.size S3 (loopOf S3 S1.size)
    | some (.panicked ch, S3) => some (.panic ch, { (x.wd ds) with defers := mark ++ (x.wd ds).defers }, S3)
    | _ => none) = _
   rw [hx]
   rfl
  ·cases h
theorem execF_ds {ih : Fns} (hd : Dsf ih) {ro : Option Nat} {code : Code} {x x' : Ca} {S S' : St} {e : Exit} (h : execF P ih ro code x S = some (e, x', S')) : ∃ k, x'.defers = k ++ x.defers ∧ ∀ ds, execF P ih ro code (x.wd ds) S = some (e, x'.wd (k ++ ds), S') := by
 cases code with
 | skip => cases h; exact ⟨[], rfl, fun _ => rfl⟩
 | label _ => cases h; exact ⟨[], rfl, fun _ => rfl⟩
 | exit _ => cases h; exact ⟨[], rfl, fun _ => rfl⟩
 | ret => cases h; exact ⟨[], rfl, fun _ => rfl⟩
 | goto _ => cases h
 | refuse _ => cases h
 | region i ops d =>
  simp only [execF] at h ⊢
  cases hc : constsOk P ops.toList with
  | false => rw [hc] at h; cases h
  | true =>
   rw [hc] at h
   simp only [cond_true] at h ⊢
   cases d with
   | true =>
    simp only [cond_true] at h ⊢
    unfold runDraw at h ⊢
    split at h
    ·rename_i bef pl hp
     obtain ⟨h1, h2⟩ := runPlan_ds pl h
     exact ⟨[], h1, fun ds => h2 ds⟩
    ·cases h
   | false =>
    simp only [cond_false] at h ⊢
    obtain ⟨h1, h2⟩ := runOps_ds _ h
    exact ⟨[], h1, fun ds => h2 ds⟩
 | seq y z =>
  simp only [execF] at h ⊢
  cases hx : ih.exec ro y x S with
  | none => rw [hx] at h; cases h
  | some r =>
   obtain ⟨e1, x1, S1⟩ := r
   rw [hx] at h
   obtain ⟨k1, a1, b1⟩ := hd _ _ _ _ _ _ _ hx
   cases e1 with
   | normal =>
    simp only at h
    obtain ⟨k2, a2, b2⟩ := hd _ _ _ _ _ _ _ h
    refine ⟨k2 ++ k1, by rw [a2, a1, List.append_assoc], fun ds => ?_⟩
    rw [b1 ds]
    simp only
    have := b2 (k1 ++ ds)
    rw [List.append_assoc]
    exact this
   | _ =>
    cases h
    exact ⟨k1, a1, fun ds => by rw [b1 ds]⟩
 | cond c y z =>
  simp only [execF] at h ⊢
  split at h
  ·rename_i b hb
   obtain ⟨k1, a1, b1⟩ := hd _ _ _ _ _ _ _ h
   refine ⟨k1, a1, fun ds => ?_⟩
   rw [show (x.wd ds).ev c = .bool b from hb]
   exact b1 ds
  ·cases h
 | block i c =>
  simp only [execF] at h ⊢
  cases hx : ih.exec ro c x S with
  | none => rw [hx] at h; cases h
  | some r =>
   obtain ⟨e1, x1, S1⟩ := r
   rw [hx] at h
   obtain ⟨k1, a1, b1⟩ := hd _ _ _ _ _ _ _ hx
   cases e1 with
   | exit j =>
    simp only at h
    cases hj : Nat.beq j i with
    | true => rw [hj] at h; cases h; exact ⟨k1, a1, fun ds => by rw [b1 ds]; simp only [hj, cond_true]⟩
    | false => rw [hj] at h; cases h; exact ⟨k1, a1, fun ds => by rw [b1 ds]; simp only [hj, cond_false]⟩
   | _ =>
    cases h
    exact ⟨k1, a1, fun ds => by rw [b1 ds]⟩
 | loop c =>
  simp only [execF] at h ⊢
  cases hx : ih.exec ro c x S with
  | none => rw [hx] at h; cases h
  | some r =>
   obtain ⟨e1, x1, S1⟩ := r
   rw [hx] at h
   obtain ⟨k1, a1, b1⟩ := hd _ _ _ _ _ _ _ hx
   cases e1 with
   | normal =>
    simp only at h
    obtain ⟨k2, a2, b2⟩ := hd _ _ _ _ _ _ _ h
    refine ⟨k2 ++ k1, by rw [a2, a1, List.append_assoc], fun ds => ?_⟩
    rw [b1 ds]
    simp only
    have := b2 (k1 ++ ds)
    rw [List.append_assoc]
    exact this
   | _ =>
    cases h
    exact ⟨k1, a1, fun ds => by rw [b1 ds]⟩
 | scope c =>
  simp only [execF] at h ⊢
  cases hx : ih.exec ro c x S with
  | none => rw [hx] at h; cases h
  | some r =>
   obtain ⟨e1, x1, S1⟩ := r
   rw [hx] at h
   obtain ⟨k1, a1, b1⟩ := hd _ _ _ _ _ _ _ hx
   cases e1 with
   | goto j => cases h
   | _ =>
    cases h
    exact ⟨k1, a1, fun ds => by rw [b1 ds]⟩
 | rangeFunc f params assign body =>
  rw [execF_range] at h
  split at h
  ·rename_i fn first cap hf
   cases hc : (isConst f || !bodied P fn) with
   | true => rw [hc] at h; cases h
   | false =>
    rw [hc] at h
    simp only [cond_false] at h
    obtain ⟨k, h1, h2⟩ := rangeGo_ds _ h
    refine ⟨k, h1, fun ds => ?_⟩
    rw [execF_range, show (x.wd ds).ev f = .func fn first cap from hf]
    simp only [hc, cond_false]
    exact h2 ds
  ·cases h
theorem fns_ds : ∀ m, Dsf (fns P K m)
 | 0 => fun _ _ _ _ _ _ _ h => by cases h
 | m + 1 => fun _ _ _ _ _ _ _ h => execF_ds (fns_ds m) h
end Go.Cm

namespace Go.Cm
open Go
variable {P : Program} {K : Known}
def CT (P : Program) (K : Known) (t : Target) (args : List Value) (S : St) (Q : Ending → St → Prop) : Prop :=
 ∃ m r S', callF P K (fns P K m) t args S = some (r, S') ∧ Q r S'
def CE (P : Program) (K : Known) (f : FuncId) (args : List Value) (S : St) (Q : Ending → St → Prop) : Prop :=
 ∃ m r S', enterF P K (fns P K m) f args S = some (r, S') ∧ Q r S'
theorem ct_mono {t : Target} {args : List Value} {S : St} {Q Q' : Ending → St → Prop} (h : CT P K t args S Q') (hq : ∀ r S', Q' r S' → Q r S') : CT P K t args S Q := by
 obtain ⟨m, r, S', h1, h2⟩ := h
 exact ⟨m, r, S', h1, hq _ _ h2⟩
theorem ct_func {f : FuncId} {cap : Array Value} {args : List Value} {S : St} {Q : Ending → St → Prop} (h : CE P K f (args ++ cap.toList) S Q) : CT P K (.fn (.func f) cap) args S Q := h
theorem ce_of_cc {f : FuncId} {args : List Value} {S : St} {Q : Value → St → Prop} (h : CC P K f args S Q) : CE P K f args S fun r S' => ∃ v, r = .returned v ∧ Q v S' := by
 obtain ⟨m, v, S', h1, h2⟩ := h
 exact ⟨m, _, S', h1, v, rfl, h2⟩
def XD (P : Program) (K : Known) (n : Nat) (ro : Option Nat) (c : Code) (L : Env) (S : St) (ds : List Deferred) (Q : Exit → Env → St → List Deferred → Prop) : Prop :=
 ∀ a, Has n (a.wd []) L → a.defers = ds → ∃ m e a' S' L', (fns P K m).exec ro c a S = some (e, a', S') ∧ Has n (a'.wd []) L' ∧ Q e L' S' a'.defers
section
variable {n : Nat} {ro : Option Nat} {L : Env} {S : St} {ds : List Deferred} {Q : Exit → Env → St → List Deferred → Prop}
theorem xd_of_xe {c : Code} (h : XE P K n ro c L S fun e L' S' => Q e L' S' ds) : XD P K n ro c L S ds Q := by
 intro a ha hd
 obtain ⟨m, e, a', S', L', h1, h2, h3⟩ := h _ ha
 obtain ⟨k, k1, k2⟩ := fns_ds m _ _ _ _ _ _ _ h1
 have hk : k = [] := by
  have e1 : a'.defers = k ++ [] := k1
  rw [h2.df, List.append_nil] at e1
  exact e1.symm
 subst hk
 have := k2 ds
 have ea : (a.wd []).wd ds = a := by subst hd; rfl
 rw [ea] at this
 refine ⟨m, e, a'.wd ([] ++ ds), S', L', this, ?_, h3⟩
 have : (a'.wd ([] ++ ds)).wd [] = a' := by
  have := h2.df
  cases a'
  simp only at this
  subst this
  rfl
 rw [this]
 exact h2
def ThnD (P : Program) (K : Known) (n : Nat) (ro : Option Nat) (y : Code) (Q : Exit → Env → St → List Deferred → Prop) : Exit → Env → St → List Deferred → Prop := fun e L S ds => match e with
 | .normal => XD P K n ro y L S ds Q
 | e => Q e L S ds
theorem xd_seq {x y : Code} (h : XD P K n ro x L S ds (ThnD P K n ro y Q)) : XD P K n ro (.seq x y) L S ds Q := by
 intro a ha hd
 obtain ⟨m, e, a', S', L', h1, h2, h3⟩ := h a ha hd
 cases e with
 | normal =>
  obtain ⟨m2, e2, a2, S2, L2, k1, k2, k3⟩ := h3 a' h2 rfl
  refine ⟨max m m2 + 1, e2, a2, S2, L2, ?_, k2, k3⟩
  show execF P (fns P K (max m m2)) ro (.seq x y) a S = _
  simp only [execF]
  rw [exec_le (Nat.le_max_left m m2) h1]
  exact exec_le (Nat.le_max_right m m2) k1
 | _ =>
  refine ⟨m + 1, _, a', S', L', ?_, h2, h3⟩
  show execF P (fns P K m) ro (.seq x y) a S = _
  simp only [execF]
  rw [h1]
theorem xdp_seq {c : Code} (hk : pK c = 3) (h : XD P K n ro (pA c) L S ds (ThnD P K n ro (pB c) Q)) : XD P K n ro c L S ds Q := by
 cases c <;> first | exact xd_seq h | (rename_i d; cases d <;> cases hk) | cases hk
def isRange : Code → Bool
 | .rangeFunc .. => true
 | _ => false
def rgF : Code → Operand
 | .rangeFunc f _ _ _ => f
 | _ => .const undef
def rgP : Code → List Tmp
 | .rangeFunc _ p _ _ => p.toList
 | _ => []
def rgA : Code → Code
 | .rangeFunc _ _ a _ => a
 | c => c
def rgB : Code → Code
 | .rangeFunc _ _ _ b => b
 | c => c
def Rng (l : Nat) (mark : List Deferred) (ds : List Deferred) (L : Env) (Q : Exit → Env → St → List Deferred → Prop) : Ending → St → Prop := fun r S3 => match r with
 | .returned _ => ∃ st p n t ps x y d, S3.get l = some (.loop st p n t ps x y d) ∧ (st == LoopState.busy) = false ∧ (match p with
  | none => Q .normal L (S3.set l (.loop .exhausted p n t ps x y d)) (mark ++ ds)
  | some .ret => Q .ret L (S3.set l (.loop .exhausted p n t ps x y d)) (mark ++ ds)
  | some (.exit id) => Q (.exit id) L (S3.set l (.loop .exhausted p n t ps x y d)) (mark ++ ds)
  | _ => False)
 | .panicked ch => Q (.panic ch) L S3 (mark ++ ds)
 | _ => False
def markOf (d : Nat) : Deferred := { target := .collected d, args := #[] }
theorem xd_range {c : Code} {g : FuncId} {fi ca : Array Value} (hk : isRange c = true) (hf : evE L (rgF c) = some (.func (.func g) fi ca)) (hc : isConst (rgF c) = false) (hb : bodied P (.func g) = true)
  (h : ∀ t, Has n ⟨n, t, []⟩ L → CT P K (.fn (.func g) ca) (fi.toList ++ [.func (.yield (S.size + 1)) #[] #[]]) ((S.new (.defs false)).2.new (.loop .ready none n t (rgP c) (rgA c) (rgB c) S.size)).2 (Rng (S.size + 1) [markOf S.size] ds L Q)) :
  XD P K n none c L S ds Q := by
 cases c with
 | rangeFunc f params assign body =>
  intro a ha hd
  have hn : a.n = n := ha.nn
  have hev : a.ev f = .func (.func g) fi ca := ha.ev hf
  have hat : Has n ⟨n, a.t, []⟩ L := by
   obtain ⟨m, t, dd⟩ := a
   obtain rfl : m = n := hn
   exact ha
  obtain ⟨m, r, S3, h1, h2⟩ := h a.t hat
  have hx : (fns P K (m + 1)).call (.fn (.func g) ca) (fi.toList ++ [.func (.yield (S.new (.defs false)).2.size) #[] #[]]) ((S.new (.defs false)).2.new (.loop .ready none a.n a.t params.toList assign body S.size)).2 = some (r, S3) := by
   rw [hn]; exact h1
  have hgo : (fns P K (m + 2)).exec none (.rangeFunc f params assign body) a S = rangeGo (fns P K (m + 1)) params assign body (.func g) fi ca a (rangeStart none S) := by
   show execF P (fns P K (m + 1)) none (.rangeFunc f params assign body) a S = _
   rw [execF_range, hev]
   simp only
   have hc' : isConst f = false := hc
   rw [hc', hb]
   rfl
  have hst : rangeGo (fns P K (m + 1)) params assign body (.func g) fi ca a (rangeStart none S) = (match some (r, S3) with
   | some (.returned _, S3) => rangeEnd { a with defers := [markOf S.size] ++ a.defers } (S.size + 1) S3 (loopOf S3 (S.size + 1))
   | some (.panicked ch, S3) => some (.panic ch, { a with defers := [markOf S.size] ++ a.defers }, S3)
   | _ => none) := by
   show (match (fns P K (m + 1)).call (.fn (.func g) ca) (fi.toList ++ [.func (.yield (S.new (.defs false)).2.size) #[] #[]]) ((S.new (.defs false)).2.new (.loop .ready none a.n a.t params.toList assign body S.size)).2 with
    | some (.returned _, S3) => rangeEnd { a with defers := [markOf S.size] ++ a.defers } (S.size + 1) S3 (loopOf S3 (S.size + 1))
    | some (.panicked ch, S3) => some (.panic ch, { a with defers := [markOf S.size] ++ a.defers }, S3)
    | _ => none) = _
   rw [hx]
  rw [hst] at hgo
  have hw : ∀ x, Has n (Ca.wd { a with defers := x } []) L := fun x => ha
  cases r with
  | returned v =>
   obtain ⟨st, p, n2, t2, ps, x, y, d2, e1, e2, e3⟩ := h2
   have hlo : loopOf S3 (S.size + 1) = some (st, p, n2, t2, ps, x, y, d2) := by unfold loopOf; rw [e1]
   simp only [hlo, rangeEnd, e2, cond_false] at hgo
   subst hd
   cases p with
   | none => exact ⟨m + 2, _, _, _, L, hgo, hw _, e3⟩
   | some q =>
    cases q with
    | ret => exact ⟨m + 2, _, _, _, L, hgo, hw _, e3⟩
    | exit id => exact ⟨m + 2, _, _, _, L, hgo, hw _, e3⟩
    | _ => exact e3.elim
  | panicked ch =>
   subst hd
   exact ⟨m + 2, _, _, _, L, hgo, hw _, h2⟩
  | _ => exact h2.elim
 | _ => cases hk
end
def RndQ (l : Nat) (Q : Ending → St → Prop) : Post := fun e _ S2 => ∃ st p n t ps x y d, S2.get l = some (.loop st p n t ps x y d) ∧ (match e with
 | .normal => Q (.returned (.bool true)) (S2.set l (.loop .ready none n t ps x y d))
 | .ret => Q (.returned (.bool false)) (S2.set l (.loop .done (some .ret) n t ps x y d))
 | .exit id => Q (.returned (.bool false)) (S2.set l (.loop .done (some (.exit id)) n t ps x y d))
 | _ => False)
def putAll : List Tmp → List Value → Env → Env
 | p :: ps, v :: vs, L => putAll ps vs ((p, v) :: L)
 | _, _, L => L
theorem setParams_has {n : Nat} : ∀ {ps : List Tmp} {vs : List Value} {t : Tm} {L : Env}, Has n ⟨n, t, []⟩ L → ps.length = vs.length → (ps.all fun p => Nat.blt p n) = true → ∃ t', setParams n t ps vs = some t' ∧ Has n ⟨n, t', []⟩ (putAll ps vs L)
 | [], [], t, L, h, _, _ => ⟨t, rfl, h⟩
 | p :: ps, v :: vs, t, L, h, hl, ha => by
  rw [List.all_cons, Bool.and_eq_true] at ha
  obtain ⟨a', h1, h2⟩ := h.put ha.1 v
  unfold Ca.put at h1
  simp only [ha.1, cond_true] at h1
  cases h1
  obtain ⟨t', k1, k2⟩ := setParams_has (ps := ps) (vs := vs) h2 (by simpa using hl) ha.2
  refine ⟨t', ?_, k2⟩
  unfold setParams
  rw [ha.1]
  exact k1
 | [], _ :: _, _, _, _, hl, _ => by simp at hl
 | _ :: _, [], _, _, _, hl, _ => by simp at hl
theorem ct_round {l n d : Nat} {p : Option Code} {t : Tm} {ps : List Tmp} {x y : Code} {args : List Value} {L : Env} {S : St} {Q : Ending → St → Prop} (hg : S.get l = some (.loop .ready p n t ps x y d)) (ht : Has n ⟨n, t, []⟩ L) (hl : ps.length = args.length) (ha : (ps.all fun p => Nat.blt p n) = true)
  (h : XE P K n (some l) x (putAll ps args L) S fun e L1 S1 => e = .normal ∧ ∃ p1 n1 t1 ps1 x1 y1 d1, S1.get l = some (.loop .ready p1 n1 t1 ps1 x1 y1 d1) ∧ XE P K n (some l) y L1 (S1.set l (.loop .busy p1 n1 t1 ps1 x1 y1 d1)) (RndQ l Q)) :
  CT P K (.fn (.yield l) #[]) args S Q := by
 obtain ⟨t', hs, hh⟩ := setParams_has ht hl ha
 obtain ⟨m, e, a1, S1, L1, h1, h2, rfl, p1, n1, t1, ps1, x1, y1, d1, hg1, h3⟩ := h _ hh
 obtain ⟨m2, e2, a2, S2, L2, k1, _, st, p2, n2, t2, ps2, x2, y2, d2, hg2, k3⟩ := h3 _ h2
 have hn : Nat.blt 256 n = false := by rw [PT.blt_iff]; exact decide_eq_false (by have := ht.le; omega)
 have hlo : loopOf S l = some (.ready, p, n, t, ps, x, y, d) := by unfold loopOf; rw [hg]
 have hlo1 : loopOf S1 l = some (.ready, p1, n1, t1, ps1, x1, y1, d1) := by unfold loopOf; rw [hg1]
 have hlo2 : loopOf S2 l = some (st, p2, n2, t2, ps2, x2, y2, d2) := by unfold loopOf; rw [hg2]
 have key : ∀ r, (match e2 with
   | .normal => some (Ending.returned (.bool true), S2.set l (.loop .ready none n2 t2 ps2 x2 y2 d2))
   | .ret => some (.returned (.bool false), S2.set l (.loop .done (some .ret) n2 t2 ps2 x2 y2 d2))
   | .exit id => some (.returned (.bool false), S2.set l (.loop .done (some (.exit id)) n2 t2 ps2 x2 y2 d2))
   | _ => none) = some r → callF P K (fns P K (max m m2)) (.fn (.yield l) #[]) args S = some r := by
  intro r hr
  show roundF (fns P K (max m m2)) l args S = some r
  unfold roundF
  simp only [hlo, hn, cond_false, hs, exec_le (Nat.le_max_left m m2) h1, hlo1, exec_le (Nat.le_max_right m m2) k1, hlo2]
  exact hr
 cases e2 with
 | normal => exact ⟨_, _, _, key _ rfl, k3⟩
 | ret => exact ⟨_, _, _, key _ rfl, k3⟩
 | exit id => exact ⟨_, _, _, key _ rfl, k3⟩
 | _ => exact k3.elim
section
variable {n : Nat} {ro : Option Nat} {L : Env} {S : St} {Q : Post} {ops : List Oper} {i d : Nat} {o : Oper}
def CallQ (P : Program) (K : Known) (n : Nat) (ops : List Oper) (i d : Nat) (L : Env) (Q : Post) : Ending → St → Prop := fun r S' => match r with
 | .returned v => RE P K n ops (i + 1) ((d, v) :: L) S' Q
 | .panicked ch => Q (.panic ch) L S'
 | _ => False
theorem re_callT {x : Operand} {as : Array Operand} {ts : Array TypeId} {fn : Fn} {fi ca : Array Value} {vs : List Value} (ho : nth ops i = some o) (hop : o.op = .call ⟨.value x, as, ts⟩) (hw : wantE ops L o = some true)
  (hd : o.dst = some d) (hn : Nat.blt d n = true) (hx : evE L x = some (.func fn fi ca)) (hv : evs L as.toList = some vs)
  (h : CT P K (.fn fn ca) (fi.toList ++ vs) S (CallQ P K n ops i d L Q)) : RE P K n ops i L S Q := by
 intro a ha
 obtain ⟨m, r, S', h1, h2⟩ := h
 have hstep : ∀ q, (match r with
   | .returned v => some (OpR.val v)
   | .panicked ch => some (.pan ch)
   | _ => none) = some q → stepOp P (fns P K (m + 1)) a.ev o.op S = some (q, S') := by
  intro q hq
  rw [hop]
  unfold stepOp
  simp only [kindOf, callOp, ha.ev hx, evs_eq ha hv]
  have : (fns P K (m + 1)).call (.fn fn ca) (fi.toList ++ vs) S = some (r, S') := h1
  rw [this]
  cases r with
  | returned v => cases hq; rfl
  | panicked ch => cases hq; rfl
  | _ => cases hq
 cases r with
 | returned v =>
  obtain ⟨a1, hp, ha1⟩ := ha.put hn v
  obtain ⟨m2, e, a', S2, L', k1, k2, k3⟩ := h2 a1 ha1
  refine ⟨max (m + 1) m2, e, a', S2, L', ?_, k2, k3⟩
  rw [drop_nth _ _ _ ho]
  unfold runOps
  rw [wantE_eq ha hw, stepOp_mono (fns_le (Nat.le_max_left (m + 1) m2)) (hstep _ rfl)]
  simp only [cond_true, hd, hp]
  exact runOps_mono (fns_le (Nat.le_max_right (m + 1) m2)) _ k1
 | panicked ch =>
  refine ⟨m + 1, _, a, S', L, ?_, ha, h2⟩
  rw [drop_nth _ _ _ ho]
  unfold runOps
  rw [wantE_eq ha hw, hstep _ rfl]
  rfl
 | _ => exact h2.elim
end
def DoneE (P : Program) (rs : List ResultVar) (Q : Ending → St → Prop) : Post := fun e L S => match e with
 | .normal => ∃ vs, ress P L S rs = some vs ∧ Q (.returned (tupV vs)) S
 | .ret => ∃ vs, ress P L S rs = some vs ∧ Q (.returned (tupV vs)) S
 | .panic ch => Q (.panicked ch) S
 | _ => False
theorem ce_enter {f : FuncId} {fn : Func} {c : Code} {args : List Value} {S : St} {Q : Ending → St → Prop} {n : Nat} (hf : P.funcs[f]? = some fn) (hb : fn.body = some c) (hk : K.call f args S = none) (hd : K.defers f = false) (hnm : (fn.name == "runtime.NumGoroutine") = false)
  (hn : maxN fn.ntmps args.length = n) (h256 : Nat.ble n 256 = true) (h : XE P K n none c (numb 0 args) S (DoneE P fn.results.toList Q)) : CE P K f args S Q := by
 have h256 := Nat.le_of_ble_eq_true h256
 have hl : args.length ≤ n := by
  rw [← hn]
  unfold maxN
  cases hb : Nat.ble fn.ntmps args.length with
  | true => exact Nat.le_refl _
  | false =>
   have : ¬ fn.ntmps ≤ args.length := fun e => by rw [Nat.ble_eq_true_of_le e] at hb; cases hb
   simp only [cond_false]
   omega
 obtain ⟨m, e, a', S', L', h1, h2, h3⟩ := h _ (has_start h256 hl)
 have hblt : Nat.blt 256 n = false := by
  rw [PT.blt_iff]; exact decide_eq_false (by omega)
 have key : ∀ q, (match e with
   | .normal | .ret => (match resultsL P a' S' fn.results.toList with
    | some [v] => some (Ending.returned v, S')
    | some vs => some (.returned (.tuple vs.toArray), S')
    | none => none)
   | .panic ch => some (.panicked ch, S')
   | _ => none) = some q → enterF P K (fns P K m) f args S = some q := by
  intro q hq
  unfold enterF
  rw [hk]
  simp only [hd, cond_false]
  unfold enterB
  rw [hf]
  simp only [hb, hnm, Bool.false_or, hn, hblt, cond_false, h1]
  cases e with
  | normal => simp only [h2.df, takeMarks]; exact hq
  | ret => simp only [h2.df, takeMarks]; exact hq
  | panic ch => simp only [h2.df, takeMarks]; exact hq
  | _ => cases hq
 cases e with
 | normal =>
  obtain ⟨vs, k1, k2⟩ := h3
  exact ⟨m, _, S', key _ (by simp only [ress_eq h2 k1]; exact tup_eq vs S'), k2⟩
 | ret =>
  obtain ⟨vs, k1, k2⟩ := h3
  exact ⟨m, _, S', key _ (by simp only [ress_eq h2 k1]; exact tup_eq vs S'), k2⟩
 | panic ch => exact ⟨m, _, S', key _ rfl, h3⟩
 | _ => exact h3.elim
end Go.Cm

namespace Go.Cm
open Go
variable {P : Program} {K : Known} {n : Nat} {ro : Option Nat} {L : Env} {S S0 : St} {Q : Post} {ops : List Oper} {i d : Nat} {o : Oper} {Ts : List St} {l : List (Nat × Blk)} {gs : List Gr}
def gb : Value → Option Nat
 | .slice (some ⟨b, _, _⟩) _ _ => some b
 | _ => none
theorem append2_base {e : TypeId} {base : Option Addr} {len cap m size : Nat} {new : List Value} {v : Value} {S' : St} (hle : Nat.ble (len + m) cap = false) (h : append2 P e base len cap m size new S = some (v, S')) :
  gb v = some S.size ∧ ∀ b, b < S.size → S'.get b = S.get b ∨ gb (.slice base len cap) = some b := by
 unfold append2 at h
 rw [hle] at h
 simp only [cond_false] at h
 cases hc : (growOk P e size (len + m) && append2.cellsAll new) with
 | false => rw [hc] at h; cases h
 | true =>
  rw [hc] at h
  simp only [cond_true] at h
  unfold appendOut at h
  split at h
  ·cases hb : Nat.beq len 0 with
   | false => rw [hb] at h; cases h
   | true =>
    rw [hb] at h
    simp only [cond_true, Option.some.injEq] at h
    cases h
    exact ⟨rfl, fun b hb => .inl ((Keep.new S _).2 b hb)⟩
  ·cases hb : Nat.beq len 0 with
   | false => rw [hb] at h; cases h
   | true =>
    rw [hb] at h
    simp only [cond_true, Option.some.injEq] at h
    cases h
    exact ⟨rfl, fun b hb => .inl ((Keep.new S _).2 b hb)⟩
  ·rename_i b o
   split at h
   ·rename_i c e2 kin hg
    split at h
    ·rename_i old ho
     cases hb : (Nat.beq e2 e && Nat.beq (o + len * size) c.length) with
     | false => rw [hb] at h; cases h
     | true =>
      rw [hb] at h
      simp only [cond_true, Option.some.injEq] at h
      cases h
      refine ⟨rfl, fun j hj => ?_⟩
      rw [(Keep.new (S.set b (.cells c e2 true false kin)) _).2 j hj, get_set']
      by_cases e : j = b
      ·subst e; exact .inr rfl
      ·exact .inl (by rw [if_neg e])
    ·cases h
   ·cases h
end Go.Cm

namespace Go.Cm
open Go
variable {P : Program} {K : Known} {n : Nat} {ro : Option Nat} {L : Env} {S S0 : St} {Q : Post} {ops : List Oper} {i d : Nat} {o : Oper}
def deadL (e : TypeId) (ks : List Nat) : List (Nat × Blk) := ks.map fun k => (k, .cells [] e true false [])
theorem deadL_fst (e : TypeId) (ks : List Nat) : (deadL e ks).map (·.1) = ks := by
 unfold deadL
 rw [List.map_map]
 exact List.map_id _
theorem HoldG.putT {r : List (Nat × Blk)} {b : Nat} {c : List Value} {e : TypeId} {ks : List Nat} (h : HoldG S0 [S0] S (r ++ (b, .cells c e true true ks) :: deadL e ks) []) (y : Blk) :
  HoldG S0 [S0] ((S.kill ks).set b y) (r ++ [(b, y)]) [] := by
 have hnd := h.nd
 rw [List.map_append, List.map_cons, deadL_fst] at hnd
 have hb := h.at_ b _ (List.mem_append.2 (.inr (List.mem_cons_self ..)))
 have hks : ∀ k, k ∈ ks → S0.size ≤ k := fun k hk => (h.at_ k (.cells [] e true false []) (List.mem_append.2 (.inr (List.mem_cons_of_mem _ (List.mem_map.2 ⟨k, hk, rfl⟩))))).2.1
 have hget : ∀ j, j ≠ b → j ∉ ks → ((S.kill ks).set b y).get j = S.get j := fun j h1 h2 => by
  rw [get_set', if_neg h1, kill_get, if_neg h2]
 have hsz : ((S.kill ks).set b y).size = S.size := kill_size ks S
 have hold : ∀ j, j < S0.size → ((S.kill ks).set b y).get j = S.get j := fun j hj => hget j (by have := hb.2.1; omega) (fun hm => by have := hks j hm; omega)
 have hdis := (List.nodup_append.1 hnd)
 refine ⟨⟨by rw [hsz]; exact h.keep.1, fun j hj => (hold j hj).trans (h.keep.2 j hj), fun f => ?_⟩, ?_, fun j x hx => ?_, fun T ht => ?_, fun g hg => (List.not_mem_nil hg).elim⟩
 ·intro j hj
  rw [hsz] at hj
  rw [get_set', if_neg (by have := hb.2.2; omega), kill_get]
  split
  ·rfl
  ·exact h.keep.3 f j hj
 ·rw [List.map_append, List.map_cons, List.map_nil]
  refine List.nodup_append.2 ⟨hdis.1, List.nodup_cons.2 ⟨List.not_mem_nil, List.nodup_nil⟩, fun a ha c hc => ?_⟩
  rw [List.mem_singleton.1 hc]
  exact hdis.2.2 a ha b (List.mem_cons_self ..)
 ·rw [hsz]
  rcases List.mem_append.1 hx with hx | hx
  ·have hm := h.at_ j x (List.mem_append.2 (.inl hx))
   have hj : j ∈ r.map (·.1) := List.mem_map.2 ⟨(j, x), hx, rfl⟩
   refine ⟨?_, hm.2⟩
   rw [hget j (hdis.2.2 j hj b (List.mem_cons_self ..)) (fun hk => hdis.2.2 j hj j (List.mem_cons_of_mem _ hk) rfl)]
   exact hm.1
  ·cases List.mem_singleton.1 hx
   exact ⟨by rw [get_set', if_pos rfl], hb.2⟩
 ·rw [List.mem_singleton.1 ht]
  refine ⟨by rw [hsz]; exact h.keep.1, fun j e2 c2 ⟨hj, own, kin, hg⟩ => ⟨by rw [hsz]; exact Nat.lt_of_lt_of_le hj h.keep.1, own, kin, ?_⟩⟩
  rw [hold j hj, h.keep.2 j hj]
  exact hg
theorem store_rowK {t : TypeId} {b off : Nat} {v : Value} {c c' : List Value} {e : TypeId} {ks : List Nat} (hz : storeOk P t v = true)
  (hg : S.get b = some (.cells c e true true ks)) (hs : setN off (cellsL v) c = some c') : storeV P t (ptrTo b off) v S = some ((S.kill ks).set b (.cells c' e true true [])) := by
 unfold storeOk at hz
 unfold storeV ptrTo
 split at hz
 ·rename_i z h1
  simp only [Bool.and_eq_true] at hz
  obtain ⟨⟨h2, h3⟩, h4⟩ := hz
  simp only [h1, h2, cond_true]
  unfold writeCells
  rw [hg]
  simp only [h3, h4, Bool.and_true, cond_true, hs]
 ·cases hz
theorem re_buildSliceB {Ts : List St} {l : List (Nat × Blk)} {gs : List Gr} (hl : HoldG S0 Ts S l gs) {t elem : TypeId} {len : Nat} {ps : Array (Nat × Operand)} {us : List (Nat × Value)} {c : List Value} (ho : nth ops i = some o) (hop : o.op = .buildSlice t len ps) (hw : wantE ops L o = some true) (hd : o.dst = some d) (hn : Nat.blt d n = true)
  (hu : P.underlying t = some (.slice elem)) (hx : evp L ps.toList = some us) (hc : bsF P elem len us = some c)
  (h : ∀ B S', HoldG S0 Ts S' ((B, .cells c elem true true []) :: l) gs → RE P K n ops (i + 1) ((d, .slice (some ⟨B, 0, none⟩) len len) :: L) S' Q) : RE P K n ops i L S Q :=
 re_bsF ho hop hw hd hn hu hx hc (h _ _ (hl.new _))
theorem append_stepT {l : List (Nat × Blk)} {B0 : Nat} {e : TypeId} (hl : HoldG S0 [S0] S ((B0, .cells [] e true true []) :: l) []) {ts : Array TypeId} {sT xT : TypeId} {xd : TypeDesc} {x : Value} {m z : Nat} {new : List Value}
  (hts : ts.toList = [sT, xT]) (hu : P.underlying sT = some (.slice e)) (hux : P.underlying xT = some xd) (hi : isIntT xd = false) (hlen : lenOfV x = some m) (hm : 0 < m) (hz : szOf P e = some z) (hs : sourceCells S z m x = some new)
  (hc : new.all cellV = true) (hgb : growB P e z = true) (hneed : m ≤ maxNeed) :
  ∃ B S', builtinV P .append ts.toList [.slice (some ⟨B0, 0, none⟩) 0 0, x] S = some (.slice (some ⟨B, 0, none⟩) m m, S') ∧ HoldG S0 [S0] S' ((B, .cells new e true true [B0]) :: (B0, .cells [] e true false []) :: l) [] := by
 have h0 := hl.get 0 rfl
 have hp := (hl.putR (k := 0) rfl (hl.old (k := 0) rfl) (.cells [] e true false [])).new (.cells new e true true [B0])
 refine ⟨_, _, ?_, hp⟩
 unfold builtinV
 simp only
 have hb : Nat.ble (0 + m) 0 = false := by
  cases hb : Nat.ble (0 + m) 0 with
  | false => rfl
  | true => have := Nat.le_of_ble_eq_true hb; omega
 have : appendV P ts.toList (.slice (some ⟨B0, 0, none⟩) 0 0) x S = some (.slice (some ⟨(S.set B0 (.cells [] e true false [])).size, 0, none⟩) m m, ((S.set B0 (.cells [] e true false [])).new (.cells new e true true [B0])).2) := by
  unfold appendV
  rw [hts]
  simp only [hu, hux, hlen, hi, hz, hs, cond_false]
  unfold append2 append2.cellsAll
  rw [hb, growOk_of hgb (by omega : 0 + m ≤ maxNeed), hc]
  simp only [cond_false, Bool.and_self, cond_true]
  unfold appendOut
  simp only [h0, Nat.zero_mul, Nat.add_zero, List.length_nil, nbeq_tt, Bool.and_self, cond_true, Nat.zero_add]
  rfl
 rw [this]
def RowT (e : TypeId) (aw : Option Addr) (m : Nat) (new : List Value) (tl : List (Nat × Blk)) : Prop :=
 (∃ B0, m = 0 ∧ new = [] ∧ aw = some ⟨B0, 0, none⟩ ∧ tl = [(B0, .cells [] e true true [])]) ∨
 ∃ B B0, 0 < m ∧ aw = some ⟨B, 0, none⟩ ∧ tl = [(B, .cells new e true true [B0]), (B0, .cells [] e true false [])]
theorem append_stepS {l : List (Nat × Blk)} {B0 : Nat} {e : TypeId} (hl : HoldG S0 [S0] S ((B0, .cells [] e true true []) :: l) []) {ts : Array TypeId} {sT xT : TypeId} {xd : TypeDesc} {x : Value} {m z : Nat} {new : List Value}
  (hts : ts.toList = [sT, xT]) (hu : P.underlying sT = some (.slice e)) (hux : P.underlying xT = some xd) (hi : isIntT xd = false) (hlen : lenOfV x = some m) (hz : szOf P e = some z) (hs : sourceCells S z m x = some new)
  (hnl : new.length = m * z) (hc : new.all cellV = true) (hgb : growB P e z = true) (hneed : m ≤ maxNeed) :
  ∃ aw tl S', builtinV P .append ts.toList [.slice (some ⟨B0, 0, none⟩) 0 0, x] S = some (.slice aw m m, S') ∧ RowT e aw m new tl ∧ HoldG S0 [S0] S' (tl ++ l) [] := by
 by_cases hm : 0 < m
 ·obtain ⟨B, S', h1, h2⟩ := append_stepT hl hts hu hux hi hlen hm hz hs hc hgb hneed
  exact ⟨_, _, S', h1, .inr ⟨B, B0, hm, rfl, rfl⟩, h2⟩
 ·obtain rfl : m = 0 := by omega
  obtain rfl : new = [] := List.eq_nil_of_length_eq_zero (by rw [hnl, Nat.zero_mul])
  refine ⟨some ⟨B0, 0, none⟩, [(B0, .cells [] e true true [])], S, ?_, .inl ⟨B0, rfl, rfl, rfl, rfl⟩, hl⟩
  unfold builtinV
  simp only
  have : appendV P ts.toList (.slice (some ⟨B0, 0, none⟩) 0 0) x S = some (.slice (some ⟨B0, 0, none⟩) 0 0, S) := by
   unfold appendV
   rw [hts]
   simp only [hu, hux, hlen, hi, hz, hs, cond_false]
   unfold append2
   have hb : Nat.ble (0 + 0) 0 = true := rfl
   rw [hb]
   simp only [cond_true]
   unfold appendIn
   rfl
  rw [this]
section
variable {bef : List Nat} {pl : List (Oper × Nat)} {q j : Nat} {E : List CkE}
theorem rp_buildSliceB {Ts : List St} {l : List (Nat × Blk)} {gs : List Gr} (hF : Fresh S0) (hl : HoldG S0 Ts S l gs) {t elem : TypeId} {len : Nat} {ps : Array (Nat × Operand)} {us : List (Nat × Value)} {c : List Value} (ho : nth pl q = some (o, j)) (hop : o.op = .buildSlice t len ps) (hw : wantE ops L o = some true) (hd : o.dst = some d) (hn : Nat.blt d n = true)
  (hu : P.underlying t = some (.slice elem)) (hx : evp L ps.toList = some us) (hc : bsF P elem len us = some c)
  (h : ∀ B S', HoldG S0 Ts S' ((B, .cells c elem true true []) :: l) gs → RP P K n ops bef pl (q + 1) (⟨j, o.op, undef, L, some (B, c, elem, true)⟩ :: E) ((d, .slice (some ⟨B, 0, none⟩) len len) :: L) S' Q) : RP P K n ops bef pl q E L S Q :=
 rp_fresh ho (by rw [hop]; rfl) hw hd hn (bs_new hop hu hx hc) (hl.keep.3 hF _ (Nat.le_refl _)) (h _ _ (hl.new _))
end
theorem HoldG.join {S1 S2 : St} {l r : List (Nat × Blk)} (h0 : HoldG S0 [S0] S1 l []) (h1 : HoldG S1 [S1] S2 r []) : HoldG S0 [S0] S2 (l ++ r) [] := by
 refine ⟨h0.keep.trans h1.keep, ?_, fun b x hx => ?_, fun T ht => ?_, fun g hg => (List.not_mem_nil hg).elim⟩
 ·rw [List.map_append]
  refine List.nodup_append.2 ⟨h0.nd, h1.nd, fun a ha c hc => ?_⟩
  obtain ⟨⟨a, x⟩, ha1, rfl⟩ := List.mem_map.1 ha
  obtain ⟨⟨c, y⟩, hc1, rfl⟩ := List.mem_map.1 hc
  have e1 := (h0.at_ a x ha1).2.2
  have e2 := (h1.at_ c y hc1).2.1
  show a ≠ c
  omega
 ·rcases List.mem_append.1 hx with hx | hx
  ·obtain ⟨e1, e2, e3⟩ := h0.at_ b x hx
   exact ⟨(h1.keep.2 b e3).trans e1, e2, Nat.lt_of_lt_of_le e3 h1.keep.1⟩
  ·obtain ⟨e1, e2, e3⟩ := h1.at_ b x hx
   exact ⟨e1, Nat.le_trans h0.keep.1 e2, e3⟩
 ·rw [List.mem_singleton.1 ht]
  exact (h0.rk S0 (List.mem_cons_self ..)).trans (h1.rk S1 (List.mem_cons_self ..))
end Go.Cm

namespace Go.Cm
open Go
variable {P : Program} {K : Known}
abbrev PostD := Exit → Env → St → List Deferred → Prop
def RED (P : Program) (K : Known) (n : Nat) (ops : List Oper) (i : Nat) (L : Env) (S : St) (ds : List Deferred) (Q : PostD) : Prop :=
 ∀ a, Has n (a.wd []) L → a.defers = ds → ∃ m e a' S' L', runOpsD P (fns P K m) ops (ops.drop i) a S = some (e, a', S') ∧ Has n (a'.wd []) L' ∧ Q e L' S' a'.defers
theorem runOpsD_step {ih : Fns} {full rest : List Oper} {o : Oper} {a a1 : Ca} {S S1 : St} {v : Value} (hd : isDefer o = false) (hw : wantedC full a o = true) (hs : stepOp P ih a.ev o.op S = some (.val v, S1)) (hp : a.put o.dst v = some a1) :
  runOpsD P ih full (o :: rest) a S = runOpsD P ih full rest a1 S1 := by
 rw [runOpsD]
 rw [hw]
 simp only [cond_true]
 unfold isDefer at hd
 split
 ·rename_i c hc; rw [hc] at hd; cases hd
 ·rw [hs]; simp only [hp]
section
variable {n : Nat} {L : Env} {S : St} {ds : List Deferred} {Q : PostD} {ops : List Oper} {i d : Nat} {o : Oper}
theorem red_end (hi : Nat.ble ops.length i = true) (h : Q .normal L S ds) : RED P K n ops i L S ds Q := by
 intro a ha hd
 refine ⟨0, _, a, S, L, ?_, ha, by rw [hd]; exact h⟩
 rw [List.drop_eq_nil_of_le (Nat.le_of_ble_eq_true hi)]
 rfl
theorem wd_has {a : Ca} {v : Value} {d : Nat} (ha : Has n (a.wd []) L) (hn : Nat.blt d n = true) : ∃ a1, a.put (some d) v = some a1 ∧ Has n (a1.wd []) ((d, v) :: L) ∧ a1.defers = a.defers := by
 obtain ⟨b, h1, h2⟩ := ha.put hn v
 have h0 : a = (a.wd []).wd a.defers := rfl
 obtain ⟨k1, k2⟩ := wd_put h1 a.defers
 refine ⟨b.wd a.defers, by rw [h0]; exact k1, ?_, rfl⟩
 have : (b.wd a.defers).wd [] = b := by
  have := h2.df
  cases b
  simp only at this
  subst this
  rfl
 rw [this]
 exact h2
theorem red_rd {v : Value} (ho : nth ops i = some o) (hw : wantE ops L o = some true) (hd : o.dst = some d) (hn : Nat.blt d n = true) (hr : Rd P n L S o v) (h : RED P K n ops (i + 1) ((d, v) :: L) S ds Q) : RED P K n ops i L S ds Q := by
 intro a ha hds
 obtain ⟨a1, hp, ha1, hd1⟩ := wd_has (v := v) ha hn
 obtain ⟨m2, e, a', S2, L', h1, h2, h3⟩ := h a1 ha1 (hd1.trans hds)
 refine ⟨m2, e, a', S2, L', ?_, h2, h3⟩
 rw [drop_nth _ _ _ ho]
 have hnd : isDefer o = false := by
  unfold isDefer
  split
  ·rename_i c hc
   have := hr.1
   rw [hc] at this
   cases this
  ·rfl
 rw [runOpsD_step (v := v) (S1 := S) hnd (show wantedC ops a o = true from wantE_eq ha hw) ?_ (by rw [hd]; exact hp)]
 ·exact h1
 ·unfold stepOp
  rw [hr.1]
  simp only
  rw [show readOp P a.ev o.op S = some v from hr.2 (a.wd []) ha]
theorem red_defer {x : Operand} {as : Array Operand} {ts : Array TypeId} {f : FuncId} {fi ca : Array Value} {vs : List Value} (ho : nth ops i = some o) (hop : o.op = .defer ⟨.value x, as, ts⟩) (hw : wantE ops L o = some true) (hd : o.dst = none)
  (hx : evE L x = some (.func (.func f) fi ca)) (hv : evs L as.toList = some vs) (h : RED P K n ops (i + 1) L S ({ target := .fn (.func f) ca, args := (fi.toList ++ vs).toArray } :: ds) Q) : RED P K n ops i L S ds Q := by
 intro a ha hds
 have hev : a.ev x = .func (.func f) fi ca := ha.ev hx
 have hvs : as.toList.map a.ev = vs := evs_eq ha hv
 obtain ⟨m2, e, a', S2, L', h1, h2, h3⟩ := h { a with defers := { target := .fn (.func f) ca, args := (fi.toList ++ vs).toArray } :: a.defers } ha (by rw [hds])
 refine ⟨m2, e, a', S2, L', ?_, h2, h3⟩
 rw [drop_nth _ _ _ ho]
 rw [runOpsD, show wantedC ops a o = true from wantE_eq ha hw]
 simp only [cond_true, hop, deferC, hev, hvs, hd, Ca.put]
 exact h1
end
def XX (P : Program) (K : Known) (k n : Nat) (c : Code) (L : Env) (S : St) (ds : List Deferred) (Q : PostD) : Prop :=
 ∀ a, Has n (a.wd []) L → a.defers = ds → ∃ m e a' S' L', execX P (fns P K m) k c a S = some (e, a', S') ∧ Has n (a'.wd []) L' ∧ Q e L' S' a'.defers
def ThnX (P : Program) (K : Known) (k n : Nat) (y : Code) (Q : PostD) : PostD := fun e L S ds => match e with
 | .normal => XX P K k n y L S ds Q
 | e => Q e L S ds
def plainX : Code → Bool
 | .seq _ _ => false
 | .cond _ _ _ => false
 | .region _ ops _ => !hasDefer ops.toList
 | _ => true
section
variable {k n : Nat} {L : Env} {S : St} {ds : List Deferred} {Q : PostD} {c : Code}
theorem xx_seq (hk : pK c = 3) (h : XX P K k n (pA c) L S ds (ThnX P K k n (pB c) Q)) : XX P K (k + 1) n c L S ds Q := by
 have key : ∀ x y, XX P K k n x L S ds (ThnX P K k n y Q) → XX P K (k + 1) n (.seq x y) L S ds Q := by
  intro x y h a ha hd
  obtain ⟨m, e, a', S', L', h1, h2, h3⟩ := h a ha hd
  cases e with
  | normal =>
   obtain ⟨m2, e2, a2, S2, L2, k1, k2, k3⟩ := h3 a' h2 rfl
   refine ⟨max m m2, e2, a2, S2, L2, ?_, k2, k3⟩
   rw [execX]
   rw [execX_mono (fns_le (Nat.le_max_left m m2)) _ h1]
   exact execX_mono (fns_le (Nat.le_max_right m m2)) _ k1
  | _ =>
   refine ⟨m, _, a', S', L', ?_, h2, h3⟩
   rw [execX]
   rw [h1]
 cases c <;> first | exact key _ _ h | (rename_i d; cases d <;> cases hk) | cases hk
theorem xx_cond {b : Bool} (hk : pK c = 4) (hc : evE L (pC c) = some (.bool b)) (h1 : b = true → XX P K k n (pA c) L S ds Q) (h2 : b = false → XX P K k n (pB c) L S ds Q) : XX P K (k + 1) n c L S ds Q := by
 have key : ∀ x y z, evE L x = some (.bool b) → (b = true → XX P K k n y L S ds Q) → (b = false → XX P K k n z L S ds Q) → XX P K (k + 1) n (.cond x y z) L S ds Q := by
  intro x y z hx h1 h2 a ha hd
  have hev : a.ev x = .bool b := ha.ev hx
  cases b with
  | true =>
   obtain ⟨m, e, a', S', L', k1, k2, k3⟩ := h1 rfl a ha hd
   refine ⟨m, e, a', S', L', ?_, k2, k3⟩
   rw [execX]
   simp only [hev]
   exact k1
  | false =>
   obtain ⟨m, e, a', S', L', k1, k2, k3⟩ := h2 rfl a ha hd
   refine ⟨m, e, a', S', L', ?_, k2, k3⟩
   rw [execX]
   simp only [hev]
   exact k1
 cases c <;> first | exact key _ _ _ hc h1 h2 | (rename_i d; cases d <;> cases hk) | cases hk
theorem xx_code (hp : plainX c = true) (h : XD P K n none c L S ds Q) : XX P K (k + 1) n c L S ds Q := by
 intro a ha hd
 obtain ⟨m, e, a', S', L', h1, h2, h3⟩ := h a ha hd
 refine ⟨m, e, a', S', L', ?_, h2, h3⟩
 cases c with
 | region id ops draw =>
  have : hasDefer ops.toList = false := by
   have h' : (!hasDefer ops.toList) = true := hp
   simpa using h'
  unfold execX
  simp only [this, cond_false]
  exact h1
 | seq x y => cases hp
 | cond x y z => cases hp
 | _ =>
  unfold execX
  exact h1
theorem xx_defer (hk : pK c = 1) (hd : hasDefer (pO c) = true) (hc : constsOk P (pO c) = true) (h : RED P K n (pO c) 0 L S ds Q) : XX P K (k + 1) n c L S ds Q := by
 have key : ∀ id ops, hasDefer ops.toList = true → constsOk P ops.toList = true → RED P K n ops.toList 0 L S ds Q → XX P K (k + 1) n (.region id ops false) L S ds Q := by
  intro id ops hd hc h a ha hds
  obtain ⟨m, e, a', S', L', h1, h2, h3⟩ := h a ha hds
  refine ⟨m, e, a', S', L', ?_, h2, h3⟩
  rw [execX]
  simp only [hd, hc, cond_true, Bool.not_true, Bool.or_false, cond_false]
  exact h1
 cases c <;> first | (rename_i d; cases d <;> first | exact key _ _ hd hc h | cases hk) | cases hk
end
abbrev PostM := Env → St → Mode → Prop
def RDD (P : Program) (n : Nat) (ops : List Oper) (i : Nat) (L : Env) (S : St) (md : Mode) (Q : PostM) : Prop :=
 ∀ a, Has n a L → ∃ a' S' md' L', runD P ops (ops.drop i) a S md = some (a', S', md') ∧ Has n a' L' ∧ Q L' S' md'
section
variable {n : Nat} {L : Env} {S : St} {md : Mode} {Q : PostM} {ops : List Oper} {i d : Nat} {o : Oper}
theorem rdd_end (hi : Nat.ble ops.length i = true) (h : Q L S md) : RDD P n ops i L S md Q := by
 intro a ha
 refine ⟨a, S, md, L, ?_, ha, h⟩
 rw [List.drop_eq_nil_of_le (Nat.le_of_ble_eq_true hi)]
 rfl
theorem rdd_rd {v : Value} (ho : nth ops i = some o) (hw : wantE ops L o = some true) (hd : o.dst = some d) (hn : Nat.blt d n = true) (hrec : isRec o = false) (hr : Rd P n L S o v) (h : RDD P n ops (i + 1) ((d, v) :: L) S md Q) : RDD P n ops i L S md Q := by
 intro a ha
 obtain ⟨a1, hp, ha1⟩ := ha.put hn v
 obtain ⟨a', S2, md2, L', h1, h2, h3⟩ := h a1 ha1
 refine ⟨a', S2, md2, L', ?_, h2, h3⟩
 rw [drop_nth _ _ _ ho]
 rw [runD, wantE_eq ha hw, hrec]
 simp only [cond_true, cond_false]
 unfold stepD
 rw [hr.1]
 simp only [hr.2 a ha, hd, hp]
 exact h1
theorem rdd_rec (ho : nth ops i = some o) (hw : wantE ops L o = some true) (hd : o.dst = some d) (hn : Nat.blt d n = true) (hrec : isRec o = true) (h : RDD P n ops (i + 1) ((d, (recoverM md).1) :: L) S (recoverM md).2 Q) : RDD P n ops i L S md Q := by
 intro a ha
 obtain ⟨a1, hp, ha1⟩ := ha.put hn (recoverM md).1
 obtain ⟨a', S2, md2, L', h1, h2, h3⟩ := h a1 ha1
 refine ⟨a', S2, md2, L', ?_, h2, h3⟩
 rw [drop_nth _ _ _ ho]
 rw [runD, wantE_eq ha hw, hrec]
 simp only [cond_true, hd, hp]
 exact h1
theorem rdd_store {t : TypeId} {x y : Operand} {u v : Value} {S' : St} (ho : nth ops i = some o) (hop : o.op = .store t x y) (hw : wantE ops L o = some true) (hd : o.dst = none) (hx : evE L x = some u) (hy : evE L y = some v)
  (hv : storeV P t u v S = some S') (h : RDD P n ops (i + 1) L S' md Q) : RDD P n ops i L S md Q := by
 intro a ha
 obtain ⟨a', S2, md2, L', h1, h2, h3⟩ := h a ha
 refine ⟨a', S2, md2, L', ?_, h2, h3⟩
 rw [drop_nth _ _ _ ho]
 have hrec : isRec o = false := by unfold isRec; rw [hop]
 rw [runD, wantE_eq ha hw, hrec]
 simp only [cond_true, cond_false]
 unfold stepD
 rw [hop]
 simp only [kindOf, heavyOp, ha.ev hx, ha.ev hy, hv, hd, Ca.put]
 exact h1
end
def XR (P : Program) (K : Known) (k n : Nat) (c : Code) (L : Env) (S : St) (md : Mode) (Q : Exit → PostM) : Prop :=
 ∀ a, Has n a L → ∃ m e a' S' md' L', execD P (fns P K m) k c a S md = some (e, a', S', md') ∧ Has n a' L' ∧ Q e L' S' md'
def ThnR (P : Program) (K : Known) (k n : Nat) (y : Code) (Q : Exit → PostM) : Exit → PostM := fun e L S md => match e with
 | .normal => XR P K k n y L S md Q
 | e => Q e L S md
section
variable {k n : Nat} {L : Env} {S : St} {md : Mode} {Q : Exit → PostM} {c : Code}
theorem xr_skip (hk : pK c = 0) (h : Q .normal L S md) : XR P K (k + 1) n c L S md Q := by
 cases c <;> first | exact fun a ha => ⟨0, _, a, S, md, L, rfl, ha, h⟩ | (rename_i d; cases d <;> cases hk) | cases hk
theorem xr_region (hk : pK c = 1) (hc : constsOk P (pO c) = true) (h : RDD P n (pO c) 0 L S md (Q .normal)) : XR P K (k + 1) n c L S md Q := by
 have key : ∀ id ops, constsOk P ops.toList = true → RDD P n ops.toList 0 L S md (Q .normal) → XR P K (k + 1) n (.region id ops false) L S md Q := by
  intro id ops hc h a ha
  obtain ⟨a', S', md', L', h1, h2, h3⟩ := h a ha
  refine ⟨0, _, a', S', md', L', ?_, h2, h3⟩
  rw [execD]
  simp only [hc, Bool.not_true, cond_false]
  have : runD P ops.toList ops.toList a S md = some (a', S', md') := h1
  rw [this]
 cases c <;> first | (rename_i d; cases d <;> first | exact key _ _ hc h | cases hk) | cases hk
theorem xr_seq (hk : pK c = 3) (h : XR P K k n (pA c) L S md (ThnR P K k n (pB c) Q)) : XR P K (k + 1) n c L S md Q := by
 have key : ∀ x y, XR P K k n x L S md (ThnR P K k n y Q) → XR P K (k + 1) n (.seq x y) L S md Q := by
  intro x y h a ha
  obtain ⟨m, e, a', S', md', L', h1, h2, h3⟩ := h a ha
  cases e with
  | normal =>
   obtain ⟨m2, e2, a2, S2, md2, L2, k1, k2, k3⟩ := h3 a' h2
   refine ⟨max m m2, e2, a2, S2, md2, L2, ?_, k2, k3⟩
   rw [execD]
   rw [execD_mono (fns_le (Nat.le_max_left m m2)) _ h1]
   exact execD_mono (fns_le (Nat.le_max_right m m2)) _ k1
  | _ =>
   refine ⟨m, _, a', S', md', L', ?_, h2, h3⟩
   rw [execD]
   rw [h1]
 cases c <;> first | exact key _ _ h | (rename_i d; cases d <;> cases hk) | cases hk
theorem xr_cond {b : Bool} (hk : pK c = 4) (hc : evE L (pC c) = some (.bool b)) (h1 : b = true → XR P K k n (pA c) L S md Q) (h2 : b = false → XR P K k n (pB c) L S md Q) : XR P K (k + 1) n c L S md Q := by
 have key : ∀ x y z, evE L x = some (.bool b) → (b = true → XR P K k n y L S md Q) → (b = false → XR P K k n z L S md Q) → XR P K (k + 1) n (.cond x y z) L S md Q := by
  intro x y z hx h1 h2 a ha
  have hev : a.ev x = .bool b := ha.ev hx
  cases b with
  | true =>
   obtain ⟨m, e, a', S', md', L', k1, k2, k3⟩ := h1 rfl a ha
   refine ⟨m, e, a', S', md', L', ?_, k2, k3⟩
   rw [execD]
   simp only [hev]
   exact k1
  | false =>
   obtain ⟨m, e, a', S', md', L', k1, k2, k3⟩ := h2 rfl a ha
   refine ⟨m, e, a', S', md', L', ?_, k2, k3⟩
   rw [execD]
   simp only [hev]
   exact k1
 cases c <;> first | exact key _ _ _ hc h1 h2 | (rename_i d; cases d <;> cases hk) | cases hk
end
def DD (P : Program) (K : Known) (f : FuncId) (args : List Value) (md : Mode) (S : St) (Q : Mode → St → Prop) : Prop :=
 ∃ m md' S', callD P (fns P K m) f args md S = some (md', S') ∧ Q md' S'
def DoneD (P : Program) (rs : List ResultVar) (Q : Mode → St → Prop) : Exit → PostM := fun e L S md => match e with
 | .normal => (∃ vs, ress P L S rs = some vs) ∧ Q md S
 | .ret => (∃ vs, ress P L S rs = some vs) ∧ Q md S
 | _ => False
theorem dd_enter {f : FuncId} {fn : Func} {c : Code} {args : List Value} {S : St} {md : Mode} {Q : Mode → St → Prop} {n : Nat} (hf : P.funcs[f]? = some fn) (hb : fn.body = some c) (hnm : (fn.name == "runtime.NumGoroutine") = false)
  (hn : maxN fn.ntmps args.length = n) (h256 : Nat.ble n 256 = true) (h : XR P K 1000 n c (numb 0 args) S md (DoneD P fn.results.toList Q)) : DD P K f args md S Q := by
 have h256 := Nat.le_of_ble_eq_true h256
 have hl : args.length ≤ n := by
  rw [← hn]
  unfold maxN
  cases hb : Nat.ble fn.ntmps args.length with
  | true => exact Nat.le_refl _
  | false =>
   have : ¬ fn.ntmps ≤ args.length := fun e => by rw [Nat.ble_eq_true_of_le e] at hb; cases hb
   simp only [cond_false]
   omega
 obtain ⟨m, e, a', S', md', L', h1, h2, h3⟩ := h _ (has_start h256 hl)
 have hblt : Nat.blt 256 n = false := by
  rw [PT.blt_iff]; exact decide_eq_false (by omega)
 refine ⟨m, md', S', ?_, ?_⟩
 ·unfold callD
  simp only [hf, hb, hnm, Bool.false_or, hn, hblt, cond_false]
  rw [h1]
  cases e with
  | normal => obtain ⟨⟨vs, k1⟩, _⟩ := h3; simp only [h2.df, ress_eq h2 k1]
  | ret => obtain ⟨⟨vs, k1⟩, _⟩ := h3; simp only [h2.df, ress_eq h2 k1]
  | _ => exact h3.elim
 ·cases e with
  | normal => exact h3.2
  | ret => exact h3.2
  | _ => exact h3.elim
def LV (P : Program) (K : Known) (ds : List Deferred) (md : Mode) (S : St) (Q : Mode → St → Prop) : Prop :=
 ∃ m md' S', leaveD P (fns P K m) ds md S = some (md', S') ∧ Q md' S'
theorem lv_nil {md : Mode} {S : St} {Q : Mode → St → Prop} (h : Q md S) : LV P K [] md S Q := ⟨0, md, S, rfl, h⟩
theorem lv_mark {r : Nat} {ds : List Deferred} {md : Mode} {S : St} {Q : Mode → St → Prop} (hg : S.get r = some (.defs false)) (h : LV P K ds md (S.set r (.defs true)) Q) : LV P K (markOf r :: ds) md S Q := by
 obtain ⟨m, md', S', h1, h2⟩ := h
 refine ⟨m, md', S', ?_, h2⟩
 rw [leaveD]
 simp only [markOf, hg]
 exact h1
theorem lv_func {f : FuncId} {ca : Array Value} {as : Array Value} {ds : List Deferred} {md : Mode} {S : St} {Q : Mode → St → Prop} (h : DD P K f (as.toList ++ ca.toList) md S fun md' S' => LV P K ds (settleM md') S' Q) : LV P K ({ target := .fn (.func f) ca, args := as } :: ds) md S Q := by
 obtain ⟨m, md1, S1, h1, m2, md', S', h2, h3⟩ := h
 refine ⟨max m m2, md', S', ?_, h3⟩
 rw [leaveD]
 simp only [callD_mono (fns_le (Nat.le_max_left m m2)) h1]
 exact leaveD_mono (fns_le (Nat.le_max_right m m2)) _ h2
def EndQ (P : Program) (rs : List ResultVar) (L : Env) (Q : Ending → St → Prop) : Mode → St → Prop := fun md S => match md with
 | .ret => ∃ vs, ress P L S rs = some vs ∧ Q (.returned (tupV vs)) S
 | .pan ch => Q (.panicked ch) S
def DoneX (P : Program) (K : Known) (rs : List ResultVar) (Q : Ending → St → Prop) : PostD := fun e L S ds => match e with
 | .normal => LV P K ds .ret S (EndQ P rs L Q)
 | .ret => LV P K ds .ret S (EndQ P rs L Q)
 | .panic ch => LV P K ds (.pan ch) S (EndQ P rs L Q)
 | _ => False
theorem ress_wd {n : Nat} {a : Ca} {L : Env} {S : St} (ha : Has n (a.wd []) L) {rs : List ResultVar} {vs : List Value} (h : ress P L S rs = some vs) : resultsL P a S rs = some vs := by
 have h0 := ress_eq ha h
 have : ∀ rs : List ResultVar, resultsL P (a.wd []) S rs = resultsL P a S rs := by
  intro rs
  induction rs with
  | nil => rfl
  | cons r rs ih => cases r <;> (simp only [resultsL, ih]; rfl)
 rw [← this]
 exact h0
theorem ce_enterD {f : FuncId} {fn : Func} {c : Code} {args : List Value} {S : St} {Q : Ending → St → Prop} {n : Nat} (hf : P.funcs[f]? = some fn) (hb : fn.body = some c) (hk : K.call f args S = none) (hd : K.defers f = true) (hnm : (fn.name == "runtime.NumGoroutine") = false)
  (hn : maxN fn.ntmps args.length = n) (h256 : Nat.ble n 256 = true) (h : XX P K 1000 n c (numb 0 args) S [] (DoneX P K fn.results.toList Q)) : CE P K f args S Q := by
 have h256 := Nat.le_of_ble_eq_true h256
 have hl : args.length ≤ n := by
  rw [← hn]
  unfold maxN
  cases hb : Nat.ble fn.ntmps args.length with
  | true => exact Nat.le_refl _
  | false =>
   have : ¬ fn.ntmps ≤ args.length := fun e => by rw [Nat.ble_eq_true_of_le e] at hb; cases hb
   simp only [cond_false]
   omega
 obtain ⟨m, e, a', S', L', h1, h2, h3⟩ := h { n := n, t := PT.ofList 0 (PT.nil 8) args, defers := [] } (has_start h256 hl) rfl
 have hblt : Nat.blt 256 n = false := by
  rw [PT.blt_iff]; exact decide_eq_false (by omega)
 have key : ∀ md0, (match e with
   | .normal | .ret => some Mode.ret
   | .panic ch => some (.pan ch)
   | _ => none) = some md0 → LV P K a'.defers md0 S' (EndQ P fn.results.toList L' Q) → CE P K f args S Q := by
  intro md0 hm hlv
  obtain ⟨m2, md', S2, k1, k2⟩ := hlv
  have hend : ∀ r, endD P a' fn.results.toList (some (md', S2)) = some r → enterF P K (fns P K (max m m2)) f args S = some r := by
   intro r hr
   unfold enterF
   rw [hk]
   simp only [hd, cond_true]
   unfold enterD
   simp only [hf, hb, hnm, Bool.false_or, hn, hblt, cond_false]
   rw [execX_mono (fns_le (Nat.le_max_left m m2)) _ h1]
   have k1' := leaveD_mono (fns_le (Nat.le_max_right m m2)) _ k1
   cases e with
   | normal => cases hm; simp only [k1']; exact hr
   | ret => cases hm; simp only [k1']; exact hr
   | panic ch => cases hm; simp only [k1']; exact hr
   | _ => cases hm
  cases md' with
  | ret =>
   obtain ⟨vs, j1, j2⟩ := k2
   refine ⟨_, _, S2, hend _ ?_, j2⟩
   unfold endD
   simp only [ress_wd h2 j1]
   exact tup_eq vs S2
  | pan ch => exact ⟨_, _, S2, hend _ rfl, k2⟩
 cases e with
 | normal => exact key _ rfl h3
 | ret => exact key _ rfl h3
 | panic ch => exact key _ rfl h3
 | _ => exact h3.elim
end Go.Cm

namespace Go.Cm
open Go
variable {P : Program} {K : Known}
section
variable {n : Nat} {L : Env} {S : St} {o : Oper}
def noIf : TypeDesc → Bool
 | .interface _ => false
 | _ => true
theorem rd_assert {x : Operand} {m t : TypeId} {ok : Bool} {u v : Value} (hop : o.op = .typeAssert x m t ok) (hx : evE L x = some u) (hv : typeAssertV P u t ok = some v) : Rd P n L S o v :=
 ⟨by rw [hop]; rfl, fun a ha => by rw [hop]; simp only [readOp, pureOp, ha.ev hx, hv]⟩
end
section
variable {n : Nat} {ro : Option Nat} {L : Env} {S : St} {ds : List Deferred} {Q : Exit → Env → St → List Deferred → Prop}
def BlkD (id : Nat) (Q : Exit → Env → St → List Deferred → Prop) : Exit → Env → St → List Deferred → Prop := fun e L S ds => match e with
 | .exit j => bif Nat.beq j id then Q .normal L S ds else Q (.exit j) L S ds
 | e => Q e L S ds
theorem xd_block {id : Nat} {c : Code} (h : XD P K n ro c L S ds (BlkD id Q)) : XD P K n ro (.block id c) L S ds Q := by
 intro a ha hd
 obtain ⟨m, e, a', S', L', h1, h2, h3⟩ := h a ha hd
 cases e with
 | exit j =>
  have h3' : bif Nat.beq j id then Q .normal L' S' a'.defers else Q (.exit j) L' S' a'.defers := h3
  by_cases hj : j = id
  ·rw [hj, nbeq_tt] at h3'
   refine ⟨m + 1, _, a', S', L', ?_, h2, h3'⟩
   show execF P (fns P K m) ro (.block id c) a S = _
   simp only [execF]
   rw [h1]
   simp only [hj, nbeq_tt, cond_true]
  ·rw [nbeq_ff hj] at h3'
   refine ⟨m + 1, _, a', S', L', ?_, h2, h3'⟩
   show execF P (fns P K m) ro (.block id c) a S = _
   simp only [execF]
   rw [h1]
   simp only [nbeq_ff hj, cond_false]
 | _ =>
  refine ⟨m + 1, _, a', S', L', ?_, h2, h3⟩
  show execF P (fns P K m) ro (.block id c) a S = _
  simp only [execF]
  rw [h1]
theorem xdp_block {c : Code} (hk : pK c = 5) (h : XD P K n ro (pA c) L S ds (BlkD (pI c) Q)) : XD P K n ro c L S ds Q := by
 cases c <;> first | exact xd_block h | (rename_i d; cases d <;> cases hk) | cases hk
end
section
variable {n : Nat} {L : Env} {S : St} {md : Mode} {Q : PostM} {ops : List Oper} {i d : Nat} {o : Oper}
theorem rdd_alloc {e : TypeId} {z : List Value} (ho : nth ops i = some o) (hop : o.op = .alloc e) (hw : wantE ops L o = some true) (hd : o.dst = some d) (hn : Nat.blt d n = true) (hz : zeroOf P e = some z)
  (h : RDD P n ops (i + 1) ((d, ptrTo S.size 0) :: L) (S.new (.cells z e false true [])).2 md Q) : RDD P n ops i L S md Q := by
 intro a ha
 obtain ⟨a1, hp, ha1⟩ := ha.put hn (ptrTo S.size 0)
 obtain ⟨a', S2, md2, L', h1, h2, h3⟩ := h a1 ha1
 refine ⟨a', S2, md2, L', ?_, h2, h3⟩
 rw [drop_nth _ _ _ ho]
 have hrec : isRec o = false := by unfold isRec; rw [hop]
 rw [runD, wantE_eq ha hw, hrec]
 simp only [cond_true, cond_false]
 unfold stepD
 rw [hop]
 have : newOp P a.ev (.alloc e) S = some (ptrTo S.size 0, (S.new (.cells z e false true [])).2) := by
  unfold newOp
  simp only [hz]
  rfl
 simp only [kindOf, this, hd, hp]
 exact h1
theorem rdd_allocL {S0 : St} {Ts : List St} {l : List (Nat × Blk)} {gs : List Gr} (hl : HoldG S0 Ts S l gs) {e : TypeId} {z : List Value} (ho : nth ops i = some o) (hop : o.op = .alloc e) (hw : wantE ops L o = some true) (hd : o.dst = some d) (hn : Nat.blt d n = true) (hz : zeroOf P e = some z)
  (h : ∀ B S', HoldG S0 Ts S' ((B, .cells z e false true []) :: l) gs → RDD P n ops (i + 1) ((d, ptrTo B 0) :: L) S' md Q) : RDD P n ops i L S md Q :=
 rdd_alloc ho hop hw hd hn hz (h _ _ (hl.new _))
theorem rdd_storeL {S0 : St} {Ts : List St} {l : List (Nat × Blk)} {gs : List Gr} (hl : HoldG S0 Ts S l gs) (k : Nat) {t : TypeId} {x y : Operand} {v : Value} {b off : Nat} {c c' : List Value} {e : TypeId} (hk : nth l k = some (b, .cells c e false true [])) (ho : nth ops i = some o) (hop : o.op = .store t x y) (hw : wantE ops L o = some true) (hd : o.dst = none) (hx : evE L x = some (ptrTo b off)) (hy : evE L y = some v)
  (hz : storeOk P t v = true) (hs : setN off (cellsL v) c = some c')
  (h : ∀ S', HoldG S0 Ts S' (putB k (.cells c' e false true []) l) gs → RDD P n ops (i + 1) L S' md Q) : RDD P n ops i L S md Q :=
 rdd_store ho hop hw hd hx hy (store_local hz (hl.get k hk) hs) (h _ (hl.put hk rfl _))
end
end Go.Cm

namespace Go.Cm
open Go
variable {P : Program} {K : Known}
def st1 (ops : List Oper) (i : Nat) (L : Env) (n : Nat) : Option (Oper × Nat) := match nth ops i with
 | some o => match wantE ops L o with
  | some true => match o.dst with
   | some d => bif Nat.blt d n then some (o, d) else none
   | none => none
  | _ => none
 | none => none
def pv (L : Env) (op : Op) : Option Value := match op with
 | .move x => evE L x
 | .assign x => evE L x
 | .extract x j => match evE L x with
  | some (.tuple vs) => nth vs.toList j
  | _ => none
 | .pick c x y => match evE L c with
  | some (.bool true) => evE L x
  | some (.bool false) => evE L y
  | _ => none
 | _ => none
def stV (ops : List Oper) (i : Nat) (L : Env) (n : Nat) : Option (Nat × Value) := match st1 ops i L n with
 | some (o, d) => match pv L o.op with
  | some v => some (d, v)
  | none => none
 | none => none
def stP (ops : List Oper) (i : Nat) (L : Env) (n : Nat) : Option Nat := match nth ops i with
 | some o => match wantE ops L o with
  | some false => match o.dst with
   | some d => bif Nat.blt d n then some d else none
   | none => none
  | _ => none
 | none => none
section
variable {n : Nat} {ro : Option Nat} {L : Env} {S S0 : St} {Q : Post} {ops : List Oper} {i d : Nat} {o : Oper}
theorem st1_some (h : st1 ops i L n = some (o, d)) : nth ops i = some o ∧ wantE ops L o = some true ∧ o.dst = some d ∧ Nat.blt d n = true := by
 unfold st1 at h
 split at h
 ·rename_i o' h1
  split at h
  ·rename_i h2
   split at h
   ·rename_i d' h3
    cases hb : Nat.blt d' n with
    | true =>
     rw [hb] at h
     cases h
     exact ⟨h1, h2, h3, hb⟩
    | false => rw [hb] at h; cases h
   ·cases h
  ·cases h
 ·cases h
theorem stP_some (h : stP ops i L n = some d) : ∃ o, nth ops i = some o ∧ wantE ops L o = some false ∧ o.dst = some d ∧ Nat.blt d n = true := by
 unfold stP at h
 split at h
 ·rename_i o' h1
  split at h
  ·rename_i h2
   split at h
   ·rename_i d' h3
    cases hb : Nat.blt d' n with
    | true =>
     rw [hb] at h
     cases h
     exact ⟨o', h1, h2, h3, hb⟩
    | false => rw [hb] at h; cases h
   ·cases h
  ·cases h
 ·cases h
theorem pv_rd {v : Value} (h : pv L o.op = some v) : Rd P n L S o v := by
 unfold pv at h
 split at h
 ·rename_i x hop; exact rd_move hop h
 ·rename_i x hop; exact rd_assign hop h
 ·rename_i x j hop
  split at h
  ·rename_i vs hx; exact rd_extract hop hx h
  ·cases h
 ·rename_i c x y hop
  split at h
  ·rename_i hc; exact rd_pick_t hop hc h
  ·rename_i hc; exact rd_pick_f hop hc h
  ·cases h
 ·cases h
theorem stV_some {v : Value} (h : stV ops i L n = some (d, v)) : ∃ o, st1 ops i L n = some (o, d) ∧ pv L o.op = some v := by
 unfold stV at h
 split at h
 ·rename_i o' d' h1
  split at h
  ·rename_i v' h2; cases h; exact ⟨o', h1, h2⟩
  ·cases h
 ·cases h
theorem rr {v : Value} (h : st1 ops i L n = some (o, d)) (hr : Rd P n L S o v) (k : RE P K n ops (i + 1) ((d, v) :: L) S Q) : RE P K n ops i L S Q :=
 re_rd (st1_some h).1 (st1_some h).2.1 (st1_some h).2.2.1 (st1_some h).2.2.2 hr k
theorem rm {v : Value} (h : stV ops i L n = some (d, v)) (k : RE P K n ops (i + 1) ((d, v) :: L) S Q) : RE P K n ops i L S Q := by
 obtain ⟨o, h1, h2⟩ := stV_some h
 exact rr h1 (pv_rd h2) k
theorem rz (h : stP ops i L n = some d) (k : RE P K n ops (i + 1) ((d, undef) :: L) S Q) : RE P K n ops i L S Q := by
 obtain ⟨o, h1, h2, h3, h4⟩ := stP_some h
 exact re_pass h1 h2 h3 h4 k
theorem xg {c : Code} (h : (Nat.beq (pK c) 1 && constsOk P (pO c)) = true) (k : RE P K n (pO c) 0 L S Q) : XE P K n ro c L S Q := by
 rw [Bool.and_eq_true] at h
 exact xp_region (of_nbeq h.1) h.2 k
theorem xs {c : Code} (h : (Nat.beq (pK c) 3 && (Nat.beq (pK (pA c)) 1 && constsOk P (pO (pA c)))) = true) (k : RE P K n (pO (pA c)) 0 L S (Thn P K n ro (pB c) Q)) : XE P K n ro c L S Q := by
 rw [Bool.and_eq_true] at h
 exact xp_seq (of_nbeq h.1) (xg h.2 k)
theorem rl {Ts : List St} {l : List (Nat × Blk)} {gs : List Gr} (hl : HoldG S0 Ts S l gs) (k : Nat) {t : TypeId} {x : Operand} {b off : Nat} {c : List Value} {e : TypeId} {row own : Bool} {kin : List Nat} {v : Value} (hop : o.op = .load t x) (hx : evE L x = some (ptrTo b off)) (ha : aggOf P t = some false)
  (hk : nth l k = some (b, .cells c e row own kin)) (hv : nth c off = some v) : Rd P n L S o v := rd_load hop hx (load1_of ha (hl.get k hk) hv)
def allSz (P : Program) (t : TypeId) : Bool := match P.underlying t with
 | some (.struct fs) => fs.toList.all fun f => hasSz P f.type
 | _ => false
theorem fa {t : TypeId} {fs : Array Field} (hu : P.underlying t = some (.struct fs)) (ha : allSz P t = true) {f : Field} {j b o : Nat} (hf : nth fs.toList j = some f) : fieldAddrV P t (ptrTo b o) j = some (ptrTo b (o + f.offset)) := by
 unfold allSz at ha
 rw [hu] at ha
 exact fieldAddr_at hu hf (List.all_eq_true.1 ha f (nth_mem hf))
section
variable {bef : List Nat} {pl : List (Oper × Nat)} {q j : Nat} {E : List CkE}
def ps1 (pl : List (Oper × Nat)) (ops : List Oper) (q : Nat) (L : Env) (n : Nat) (w : Bool) : Option (Oper × Nat × Nat) := match nth pl q with
 | some (o, j) => match wantE ops L o with
  | some true => match o.dst with
   | some d => bif Nat.blt d n && (looks o.op == w) then some (o, j, d) else none
   | none => none
  | _ => none
 | none => none
def psV (pl : List (Oper × Nat)) (ops : List Oper) (q : Nat) (L : Env) (n : Nat) : Option (Nat × Value) := match ps1 pl ops q L n false with
 | some (o, _, d) => match pv L o.op with
  | some v => some (d, v)
  | none => none
 | none => none
def psP (pl : List (Oper × Nat)) (ops : List Oper) (q : Nat) (L : Env) (n : Nat) : Option Nat := match nth pl q with
 | some (o, _) => match wantE ops L o with
  | some false => match o.dst with
   | some d => bif Nat.blt d n then some d else none
   | none => none
  | _ => none
 | none => none
theorem ps1_some {w : Bool} (h : ps1 pl ops q L n w = some (o, j, d)) : nth pl q = some (o, j) ∧ wantE ops L o = some true ∧ o.dst = some d ∧ Nat.blt d n = true ∧ looks o.op = w := by
 unfold ps1 at h
 split at h
 ·rename_i o' j' h1
  split at h
  ·rename_i h2
   split at h
   ·rename_i d' h3
    cases hb : (Nat.blt d' n && (looks o'.op == w)) with
    | true =>
     rw [hb] at h
     cases h
     rw [Bool.and_eq_true] at hb
     exact ⟨h1, h2, h3, hb.1, by simpa using hb.2⟩
    | false => rw [hb] at h; cases h
   ·cases h
  ·cases h
 ·cases h
theorem pr {v : Value} (h : ps1 pl ops q L n false = some (o, j, d)) (hr : Rd P n L S o v) (k : RP P K n ops bef pl (q + 1) E ((d, v) :: L) S Q) : RP P K n ops bef pl q E L S Q :=
 have ⟨a, b, c, e, f⟩ := ps1_some h
 rp_rd a b c e f hr k
theorem pk {v : Value} (h : ps1 pl ops q L n true = some (o, j, d)) (hr : Rd P n L S o v) (k : RP P K n ops bef pl (q + 1) (⟨j, o.op, v, L, none⟩ :: E) ((d, v) :: L) S Q) : RP P K n ops bef pl q E L S Q :=
 have ⟨a, b, c, e, f⟩ := ps1_some h
 rp_lk a b c e f hr k
theorem pm {v : Value} (h : psV pl ops q L n = some (d, v)) (k : RP P K n ops bef pl (q + 1) E ((d, v) :: L) S Q) : RP P K n ops bef pl q E L S Q := by
 unfold psV at h
 split at h
 ·rename_i o' j' d' h1
  split at h
  ·rename_i v' h2; cases h; exact pr h1 (pv_rd h2) k
  ·cases h
 ·cases h
theorem pz (h : psP pl ops q L n = some d) (k : RP P K n ops bef pl (q + 1) E ((d, undef) :: L) S Q) : RP P K n ops bef pl q E L S Q := by
 unfold psP at h
 split at h
 ·rename_i o' j' h1
  split at h
  ·rename_i h2
   split at h
   ·rename_i d' h3
    cases hb : Nat.blt d' n with
    | true =>
     rw [hb] at h
     cases h
     exact rp_pass h1 h2 h3 hb k
    | false => rw [hb] at h; cases h
   ·cases h
  ·cases h
 ·cases h
end
end
end Go.Cm

namespace Go.Cm
open Go
variable {P : Program} {K : Known}
section
variable {n : Nat} {ro : Option Nat} {L : Env} {S : St} {ds : List Deferred} {Q : PostD} {c : Code}
def RoundD (I : Nat → Env → St → List Deferred → Prop) (m : Nat) (Q : PostD) : PostD := fun e L S ds => match e with
 | .normal => ∃ k, k < m ∧ I k L S ds
 | e => Q e L S ds
theorem xd_loop {x : Code} (I : Nat → Env → St → List Deferred → Prop) (h : ∀ m L S ds, I m L S ds → XD P K n ro x L S ds (RoundD I m Q)) {m : Nat} (h0 : I m L S ds) : XD P K n ro (.loop x) L S ds Q := by
 have key : ∀ k m, m ≤ k → ∀ L S ds, I m L S ds → XD P K n ro (.loop x) L S ds Q := by
  intro k
  induction k with
  | zero =>
   intro m hm L S ds hi a ha hd
   obtain ⟨j, e, a', S', L', h1, h2, h3⟩ := h m L S ds hi a ha hd
   cases e with
   | normal => obtain ⟨k, hk, _⟩ := h3; omega
   | _ =>
    refine ⟨j + 1, _, a', S', L', ?_, h2, h3⟩
    show execF P (fns P K j) ro (.loop x) a S = _
    simp only [execF]
    rw [h1]
  | succ k ih =>
   intro m hm L S ds hi a ha hd
   obtain ⟨j, e, a', S', L', h1, h2, h3⟩ := h m L S ds hi a ha hd
   cases e with
   | normal =>
    obtain ⟨k', hk, hi'⟩ := h3
    obtain ⟨j2, e2, a2, S2, L2, k1, k2, k3⟩ := ih k' (by omega) L' S' _ hi' a' h2 rfl
    refine ⟨max j j2 + 1, e2, a2, S2, L2, ?_, k2, k3⟩
    show execF P (fns P K (max j j2)) ro (.loop x) a S = _
    simp only [execF]
    rw [exec_le (Nat.le_max_left j j2) h1]
    exact exec_le (Nat.le_max_right j j2) k1
   | _ =>
    refine ⟨j + 1, _, a', S', L', ?_, h2, h3⟩
    show execF P (fns P K j) ro (.loop x) a S = _
    simp only [execF]
    rw [h1]
 exact key m m (Nat.le_refl _) L S ds h0
theorem xdp_loop (hk : pK c = 6) (I : Nat → Env → St → List Deferred → Prop) (h : ∀ m L S ds, I m L S ds → XD P K n ro (pA c) L S ds (RoundD I m Q)) {m : Nat} (h0 : I m L S ds) : XD P K n ro c L S ds Q := by
 cases c <;> first | exact xd_loop I h h0 | (rename_i d; cases d <;> cases hk) | cases hk
theorem xd_sub {L' : Env} (hs : SubE L' L) (h : XD P K n ro c L' S ds Q) : XD P K n ro c L S ds Q := by
 intro a ha hd
 exact h a (ha.sub hs) hd
theorem resultsL_wd (ds : List Deferred) (a : Ca) (S : St) : ∀ rs : List ResultVar, resultsL P (a.wd ds) S rs = resultsL P a S rs
 | [] => rfl
 | .tmp x :: r => by
  unfold resultsL
  rw [resultsL_wd ds a S r]
  rfl
 | .cell x e :: r => by
  unfold resultsL
  rw [resultsL_wd ds a S r]
  rfl
def DoneM (P : Program) (rs : List ResultVar) (Q : Value → St → Prop) : PostD := fun e L S ds => match e with
 | .normal => ∃ S2 vs, takeMarks ds S = some S2 ∧ ress P L S2 rs = some vs ∧ Q (tupV vs) S2
 | .ret => ∃ S2 vs, takeMarks ds S = some S2 ∧ ress P L S2 rs = some vs ∧ Q (tupV vs) S2
 | _ => False
theorem cc_enterM {f : FuncId} {fn : Func} {args : List Value} {Q : Value → St → Prop} (hf : P.funcs[f]? = some fn) (hb : fn.body = some c) (hk : K.call f args S = none) (hd : K.defers f = false) (hnm : (fn.name == "runtime.NumGoroutine") = false)
  (hn : maxN fn.ntmps args.length = n) (h256 : Nat.ble n 256 = true) (h : XD P K n none c (numb 0 args) S [] (DoneM P fn.results.toList Q)) : CC P K f args S Q := by
 have h256 := Nat.le_of_ble_eq_true h256
 have hl : args.length ≤ n := by
  rw [← hn]
  unfold maxN
  cases hb : Nat.ble fn.ntmps args.length with
  | true => exact Nat.le_refl _
  | false =>
   have : ¬ fn.ntmps ≤ args.length := fun e => by rw [Nat.ble_eq_true_of_le e] at hb; cases hb
   simp only [cond_false]
   omega
 obtain ⟨m, e, a', S', L', h1, h2, h3⟩ := h { n := n, t := PT.ofList 0 (PT.nil 8) args, defers := [] } (has_start h256 hl) rfl
 have hblt : Nat.blt 256 n = false := by
  rw [PT.blt_iff]; exact decide_eq_false (by omega)
 have key : ∀ e, (e = .normal ∨ e = .ret) → (fns P K m).exec none c { n := n, t := PT.ofList 0 (PT.nil 8) args, defers := [] } S = some (e, a', S') → ∀ S2 vs, takeMarks a'.defers S' = some S2 → ress P L' S2 fn.results.toList = some vs → enterF P K (fns P K m) f args S = some (.returned (tupV vs), S2) := by
  intro e he hx S2 vs ht hvs
  have hr : resultsL P a' S2 fn.results.toList = some vs := (resultsL_wd [] a' S2 fn.results.toList).symm.trans (ress_eq h2 hvs)
  unfold enterF
  rw [hk]
  simp only [hd, cond_false]
  unfold enterB
  rw [hf]
  simp only [hb, hnm, Bool.false_or, hn, hblt, cond_false, hx]
  rcases he with rfl | rfl <;> (simp only [ht, hr]; exact tup_eq vs S2)
 cases e with
 | normal => obtain ⟨S2, vs, k0, k1, k2⟩ := h3; exact ⟨m, _, S2, key _ (.inl rfl) h1 S2 vs k0 k1, k2⟩
 | ret => obtain ⟨S2, vs, k0, k1, k2⟩ := h3; exact ⟨m, _, S2, key _ (.inr rfl) h1 S2 vs k0 k1, k2⟩
 | _ => exact h3.elim
end
section
variable {n : Nat} {ro : Option Nat} {L : Env} {S S0 : St} {Q : Post} {ops : List Oper} {i d : Nat} {o : Oper} {Ts : List St} {l : List (Nat × Blk)}
end
end Go.Cm

namespace Go.Cm
open Go
variable {P : Program} {K : Known}
theorem Flat.eq {ρ : Rmap} {v : Value} (h : Flat v) : ∀ {v' : Value}, VR ρ v v' → v' = v := by
 induction h with
 | func f =>
  intro v' k
  cases k with
  | func _ ha h1 hc h2 =>
   rw [List.length_eq_zero_iff.1 ha.symm, List.length_eq_zero_iff.1 hc.symm]
 | iface t _ i => intro v' k; cases k with | iface _ h => rw [i h]
 | agg _ i =>
  rename_i a _
  intro v' k
  cases k with
  | agg ha h =>
   rename_i a'
   congr 2
   apply List.ext_getElem? ; intro j
   cases e : a[j]? with
   | none => rw [List.getElem?_eq_none_iff] at e ⊢; omega
   | some x =>
    have hj : j < a'.length := ha ▸ (List.getElem?_eq_some_iff.1 e).1
    rw [List.getElem?_eq_getElem hj, i j x e (h j x _ e (List.getElem?_eq_getElem hj))]
 | tuple _ i =>
  rename_i a _
  intro v' k
  cases k with
  | tuple ha h =>
   rename_i a'
   congr 2
   apply List.ext_getElem? ; intro j
   cases e : a[j]? with
   | none => rw [List.getElem?_eq_none_iff] at e ⊢; omega
   | some x =>
    have hj : j < a'.length := ha ▸ (List.getElem?_eq_some_iff.1 e).1
    rw [List.getElem?_eq_getElem hj, i j x e (h j x _ e (List.getElem?_eq_getElem hj))]
 | _ => intro v' k; cases k; rfl
theorem flats_eq {ρ : Rmap} : ∀ {l l' : List Value}, l.all (flatV 9) = true → VRs ρ l l' → l' = l
 | [], _, _, h => h.nil_inv
 | v :: l, l', hf, h => by
  rw [List.all_cons, Bool.and_eq_true] at hf
  obtain ⟨v', k, rfl, h1, h2⟩ := h.cons_inv
  rw [(flatV_spec 9 v hf.1).eq h1, flats_eq hf.2 h2]
theorem flats_refl (ρ : Rmap) : ∀ {l : List Value}, l.all (flatV 9) = true → VRs ρ l l
 | [], _ => VRs.nil
 | v :: l, hf => by
  rw [List.all_cons, Bool.and_eq_true] at hf
  exact VRs.cons ((flatV_spec 9 v hf.1).refl ρ) (flats_refl ρ hf.2)
def retEq (v : Value) (r : Option (Ending × St)) : Bool := match r with
 | some (.returned u, _) => sameV 100000 u v
 | _ => false
theorem flat_calls (hm : P.follows .mixedOrders = true) {W : World} (hK : KnownSound P K W) {n : Nat} {f : FuncId} {fn : Func} {c : Code} (hf : P.funcs[f]? = some fn) (hb : fn.body = some c) (hnm : (fn.name == "runtime.NumGoroutine") = false)
  {G : List (Nat × List Value)} {args : List Value} {v : Value} (ha : args.all (flatV 9) = true) (hv : flatV 9 v = true) (h : retEq v ((fnsG P K n).call (.fn (.func f) #[]) args (startS G P.globals.size)) = true) (hn : P.globals.size ≤ W.heap.size)
  (hG : ∀ g l, (g, l) ∈ G → ∃ (arr : Array Value) (e : TypeId) (fz : Nat × Nat), W.heap[g]? = some (.cells arr e fz) ∧ arr.toList = l) (hfl : ∀ g l, (g, l) ∈ G → ∀ v ∈ l, flatV flatN v = true) :
  Calls P f ⟨args⟩ W fun e w => e = .returned v ∧ Kept W w := by
 rw [fnsG_eq] at h
 cases hr : (fns P K n).call (.fn (.func f) #[]) args (startS G P.globals.size) with
 | none => rw [hr] at h; cases h
 | some x =>
  obtain ⟨e, S'⟩ := x
  rw [hr] at h
  have hsim := start_sim (P := P) hn hG hfl
  have := (fns_sound hm hK n n (Nat.le_refl _) (fun _ => false)).call _ _ _ _ _ hr _ W (.fn (.func f) #[]) ⟨args⟩ hsim ⟨.func f, .func f, #[], #[], rfl, rfl, .func f rfl nil_all rfl nil_all⟩ (flats_refl _ ha)
  have hcall : (invoke (.fn (.func f) #[]) ⟨args⟩).run P W = .ok (.enter f ⟨args⟩) W := by
   have := run_callFunc hf hb hnm ⟨args⟩ W
   simpa [invoke] using this
  rw [hcall] at this
  refine (callsIn_wide.1 this).mono ?_
  rintro e' w ⟨ρ', _, h2, h3⟩
  have hk := h3.kept
  cases h2 with
  | ret hu =>
   have := sameV_eq _ _ _ h
   subst this
   exact ⟨by rw [(flatV_spec 9 _ hv).eq hu], hk⟩
  | pan hp => cases h
theorem flatKnown {W : World} {f : FuncId} {v : Value} {S : St} {args : List Value} (ha : args.all (flatV 9) = true) (h : ∀ w, Kept W w → Calls P f ⟨args⟩ w fun e w' => e = .returned v ∧ Kept w w') :
  ∀ (w0 : Base) (ρ : Rmap) (w : World) (args' : Array Value), w0.toWorld = W → Sim P w0 ρ S w → VRs ρ args args'.toList → Calls P f args' w fun e w' => e = .returned v ∧ Kept w w' := by
 intro w0 ρ w args' e hs hv
 subst e
 have : args' = ⟨args⟩ := by
  apply Array.ext'
  exact flats_eq ha hv
 subst this
 exact h w hs.kept
end Go.Cm

namespace Go.Cm
open Go
variable {P : Program} {w0 : Base}
theorem mapM_some {α β : Type} {f : α → Option β} : ∀ {l : List α} {r : List β}, l.mapM f = some r → r.length = l.length ∧ ∀ (i : Nat) (x : α), l[i]? = some x → ∃ y, f x = some y ∧ r[i]? = some y
 | [], r, h => by
  simp only [List.mapM_nil, Option.pure_def, Option.some.injEq] at h
  subst h
  exact ⟨rfl, fun i x hx => by simp at hx⟩
 | a :: l, r, h => by
  rw [List.mapM_cons] at h
  obtain ⟨y, hy, h⟩ := Option.mem_bind_iff.1 h
  obtain ⟨ys, hys, h⟩ := Option.mem_bind_iff.1 h
  cases h
  obtain ⟨h1, h2⟩ := mapM_some hys
  refine ⟨by simp [h1], fun i x hx => ?_⟩
  cases i with
  | zero => simp at hx; subst hx; exact ⟨y, hy, rfl⟩
  | succ i => simpa using h2 i x (by simpa using hx)
theorem cells_spec {w : World} {base : Nat} {a : Addr} {n : Nat} {cs : List Value} (h : w.cells? base a n = some cs) (hn : 0 < n) :
  ∃ (arr : Array Value) (e : TypeId) (fz : Nat × Nat), w.heap[a.block]? = some (.cells arr e fz) ∧ a.spot = none ∧ a.off + n ≤ arr.size ∧ cs = (arr.toList.drop a.off).take n := by
 unfold World.cells? at h
 split at h
 ·obtain ⟨h1, h2⟩ := mapM_some h
  have hl : cs.length = n := by simpa using h1
  have each : ∀ i, i < n → ∃ (arr : Array Value) (e : TypeId) (fz : Nat × Nat), w.heap[a.block]? = some (.cells arr e fz) ∧ (a.add i).spot = none ∧ ∃ v, arr[a.off + i]? = some v ∧ cs[i]? = some v := by
   intro i hi
   obtain ⟨y, hy, hc⟩ := h2 i i (by simp [hi])
   unfold World.cell? at hy
   have hb : (a.add i).block = a.block := by unfold Addr.add; split <;> rfl
   have ho : (a.add i).off = a.off + i := by
    unfold Addr.add
    split
    ·rename_i e; subst e; rfl
    ·rfl
   rw [hb, ho] at hy
   split at hy
   ·rename_i arr e fz hh
    split at hy
    ·cases hy
    ·rename_i hs
     exact ⟨arr, e, fz, hh, by simpa using hs, y, hy, hc⟩
   ·cases hy
  obtain ⟨arr, e, fz, hh, hs, _⟩ := each 0 hn
  have hs' : a.spot = none := hs
  refine ⟨arr, e, fz, hh, hs', ?_, ?_⟩
  ·obtain ⟨arr2, e2, fz2, hh2, _, v, hv, _⟩ := each (n - 1) (by omega)
   rw [hh] at hh2
   cases hh2
   have := (Array.getElem?_eq_some_iff.1 hv).1
   omega
  ·apply List.ext_getElem?
   intro i
   rw [List.getElem?_take]
   by_cases hi : i < n
   ·obtain ⟨arr2, e2, fz2, hh2, _, v, hv, hc⟩ := each i hi
    rw [hh] at hh2
    cases hh2
    rw [if_pos hi, hc, List.getElem?_drop, Array.getElem?_toList, hv]
   ·rw [if_neg hi, List.getElem?_eq_none (by omega)]
 ·cases h
def plainT (P : Program) : Nat → TypeId → Bool
 | 0, _ => false
 | n + 1, t => match P.underlying t with
  | some .bool => true
  | some (.int _) => true
  | some .string => true
  | some (.slice e) => plainT P n e && (Nat.blt 0 (P.cellsOf e) && (match szOf P e with | some z => Nat.beq z (P.cellsOf e) | none => false))
  | some (.struct fs) => contigF P (P.cellsOf t) fs.toList 0 && fs.toList.all fun f => plainT P n f.type
  | some (.array m e) => Nat.beq (P.cellsOf t) (m * P.cellsOf e) && plainT P n e
  | _ => false
def Rep (P : Program) : Nat → TypeId → St → List Value → Prop
 | 0, _, _, _ => False
 | n + 1, t, S, c => match P.underlying t with
  | some .bool => ∃ b, c = [.bool b]
  | some (.int k) => ∃ m, c = [.int k m] ∧ (Lit.int k m).wf = true
  | some .string => ∃ s : ByteArray, c = [.string s] ∧ s.size ≤ maxLen
  | some (.slice e) => c = [.slice none 0 0] ∨ (∃ b o k, c = [.slice (some ⟨b, o, some k⟩) 0 0]) ∨
    ∃ b len cs, c = [.slice (some ⟨b, 0, none⟩) len len] ∧ b < S.size ∧ S.get b = some (.cells cs e true false []) ∧ cs.length = len * P.cellsOf e ∧ len ≤ maxLen ∧ ∀ i, i < len → Rep P n e S ((cs.drop (i * P.cellsOf e)).take (P.cellsOf e))
  | some (.struct fs) => c.length = P.cellsOf t ∧ ∀ f, f ∈ fs.toList → Rep P n f.type S ((c.drop f.offset).take (P.cellsOf f.type))
  | some (.array m e) => c.length = P.cellsOf t ∧ ∀ i, i < m → Rep P n e S ((c.drop (i * P.cellsOf e)).take (P.cellsOf e))
  | _ => False
theorem Rep.keep {S T : St} (h : Keep S T) : ∀ (n : Nat) (t : TypeId) (c : List Value), Rep P n t S c → Rep P n t T c
 | 0, _, _, h => h
 | n + 1, t, c, hr => by
  unfold Rep at hr ⊢
  split
  ·rename_i hu; rw [hu] at hr; exact hr
  ·rename_i hu; rw [hu] at hr; exact hr
  ·rename_i hu; rw [hu] at hr; exact hr
  ·rename_i e hu
   rw [hu] at hr
   rcases hr with hr | hr | ⟨b, len, cs, h1, h2, h3, h4, h5, h6⟩
   ·exact .inl hr
   ·exact .inr (.inl hr)
   ·exact .inr (.inr ⟨b, len, cs, h1, Nat.lt_of_lt_of_le h2 h.1, by rw [h.2 b h2]; exact h3, h4, h5, fun i hi => Rep.keep h n e _ (h6 i hi)⟩)
  ·rename_i fs hu
   rw [hu] at hr
   exact ⟨hr.1, fun f hf => Rep.keep h n _ _ (hr.2 f hf)⟩
  ·rename_i m e hu
   rw [hu] at hr
   exact ⟨hr.1, fun i hi => Rep.keep h n _ _ (hr.2 i hi)⟩
  ·rename_i h1 h2 h3 h4 h5 h6
   cases hu : P.underlying t with
   | none => rw [hu] at hr; exact hr
   | some d =>
    rw [hu] at hr
    cases d <;> first
     | exact hr
     | exact absurd hu h1
     | exact absurd hu (h2 _)
     | exact absurd hu h3
     | exact absurd hu (h4 _)
     | exact absurd hu (h5 _)
     | exact absurd hu (h6 _ _)
theorem VRs.length {ρ : Rmap} {a b : List Value} (h : VRs ρ a b) : a.length = b.length := h.1
theorem take_succ_mul {α : Type} (l : List α) (k z : Nat) : l.take ((k + 1) * z) = l.take (k * z) ++ (l.drop (k * z)).take z := by
 rw [Nat.succ_mul, List.take_add]
section
variable {H : Type} {enc : TypeId × Value → H} {sp : Nat → Bool} {held : Bool}
theorem lay : ∀ (n : Nat) (t : TypeId) (fuel : Nat) (cs : List Value) (d : DataW H) (p : List MemPlace), plainT P n t = true → (∀ b, sp b = true) → DataW.trod enc P w0.toWorld 0 sp held fuel t cs = some (d, p) →
  ∀ (ρ : Rmap) (S : St), Sim P w0 ρ S w0.toWorld → ∃ ρ' S' c, Ext ρ ρ' ∧ Sim P w0 ρ' S' w0.toWorld ∧ Keep S S' ∧ VRs ρ' c cs ∧ Rep P n t S' c
 | 0, t, fuel, cs, d, p, hp, _, h, ρ, S, hs => by cases hp
 | n + 1, t, 0, cs, d, p, hp, _, h, ρ, S, hs => by simp [DataW.trod] at h
 | n + 1, t, fuel + 1, cs, d, p, hp, hsp, h, ρ, S, hs => by
  unfold plainT at hp
  split at hp
  ·rename_i hu
   simp only [DataW.trod, hu] at h
   split at h
   all_goals first | (simp_all; done) | skip
   refine ⟨ρ, S, [.bool _], Ext.refl _, hs, Keep.refl _, VRs.cons (.bool _) .nil, ?_⟩
   unfold Rep
   rw [hu]
   exact ⟨_, rfl⟩
  ·rename_i k hu
   simp only [DataW.trod, hu] at h
   split at h
   all_goals first | (simp_all; done) | skip
   rename_i k' m
   split at h
   ·rename_i hk
    obtain ⟨rfl, hwf⟩ := hk
    refine ⟨ρ, S, [.int _ _], Ext.refl _, hs, Keep.refl _, VRs.cons (.int _ _) .nil, ?_⟩
    unfold Rep
    simp_all
   ·cases h
  ·rename_i hu
   simp only [DataW.trod, hu] at h
   split at h
   all_goals first | (simp_all; done) | skip
   rename_i s
   split at h
   ·rename_i hle
    refine ⟨ρ, S, [.string _], Ext.refl _, hs, Keep.refl _, VRs.cons (.string _) .nil, ?_⟩
    unfold Rep
    simp_all
   ·cases h
  ·rename_i e hu
   simp only [Bool.and_eq_true] at hp
   obtain ⟨hp1, hp2, hp3⟩ := hp
   have hz := nblt_tt hp2
   have hsz : szOf P e = some (P.cellsOf e) := by
    split at hp3
    ·rename_i z hz'; rw [hz', of_nbeq hp3]
    ·cases hp3
   generalize hzz : P.cellsOf e = z at *
   simp only [DataW.trod, hu] at h
   split at h
   all_goals first | (simp_all; done) | skip
   ·-- nil
    refine ⟨ρ, S, [.slice none 0 0], Ext.refl _, hs, Keep.refl _, VRs.cons .snil .nil, ?_⟩
    unfold Rep
    simp_all
   ·rename_i a len cap he
    cases he
    simp only [hzz] at h
    split at h
    ·rename_i hle
     obtain ⟨els, hels, h⟩ := Option.mem_bind_iff.1 h
     obtain ⟨rest, hrest, h⟩ := Option.map_eq_some_iff.1 h
     rw [if_pos (hsp _)] at hrest
     obtain ⟨e1, e2⟩ := mapM_some hels
     obtain ⟨r1, r2⟩ := mapM_some hrest
     by_cases hc0 : cap = 0
     ·obtain rfl : len = 0 := by omega
      subst hc0
      refine ⟨ρ, S, [.slice (some ⟨0, 0, some 0⟩) 0 0], Ext.refl _, hs, Keep.refl _, VRs.cons (.szero _ _ _ _) .nil, ?_⟩
      unfold Rep
      rw [hu]
      exact .inr (.inl ⟨0, 0, 0, rfl⟩)
     ·-- the row lies in memory
      have helem : ∀ i, i < cap → ∃ csi, w0.toWorld.cells? 0 (a.add (i * z)) z = some csi ∧ ∃ d' p', DataW.trod enc P w0.toWorld 0 sp held fuel e csi = some (d', p') := by
       intro i hi
       by_cases hil : i < len
       ·obtain ⟨y, hy, _⟩ := e2 i i (by simp [hil])
        obtain ⟨csi, h1, h2⟩ := Option.bind_eq_some_iff.1 hy
        exact ⟨csi, h1, y.1, y.2, h2⟩
       ·obtain ⟨y, hy, _⟩ := r2 (i - len) (i - len) (List.getElem?_range (by omega))
        obtain ⟨csi, h1, h2⟩ := Option.bind_eq_some_iff.1 hy
        rw [show len + (i - len) = i by omega] at h1
        exact ⟨csi, h1, y.1, y.2, h2⟩
      obtain ⟨cs0, q0, _⟩ := helem 0 (by omega)
      obtain ⟨arr, e', fz, hh, hspot, _, _⟩ := cells_spec q0 hz
      have hblk : (a.add (0 * z)) = a := by simp [Addr.add]
      rw [hblk] at hh hspot
      have hadd : ∀ i, (a.add (i * z)).block = a.block ∧ (a.add (i * z)).off = a.off + i * z := by
       intro i
       unfold Addr.add
       split
       ·rename_i e0; rw [e0]; exact ⟨rfl, rfl⟩
       ·exact ⟨rfl, rfl⟩
      have hroom : a.off + cap * z ≤ arr.size := by
       obtain ⟨csi, h1, _⟩ := helem (cap - 1) (by omega)
       obtain ⟨arr2, e2', fz2, hh2, _, hle2, _⟩ := cells_spec h1 hz
       rw [(hadd _).1, hh] at hh2
       cases hh2
       rw [(hadd _).2] at hle2
       have : (cap - 1) * z + z = cap * z := by rw [← Nat.succ_mul]; congr 1; omega
       omega
      have rows : ∀ k, k ≤ len → ∃ ρ' S' c, Ext ρ ρ' ∧ Sim P w0 ρ' S' w0.toWorld ∧ Keep S S' ∧ VRs ρ' c ((arr.toList.drop a.off).take (k * z)) ∧ c.length = k * z ∧ ∀ i, i < k → Rep P n e S' ((c.drop (i * z)).take z) := by
       intro k
       induction k with
       | zero => intro _; exact ⟨ρ, S, [], Ext.refl _, hs, Keep.refl _, by simpa using VRs.nil, by simp, fun i hi => by omega⟩
       | succ k ih =>
        intro hk
        obtain ⟨ρ1, S1, c1, x1, x2, x3, x4, x5, x6⟩ := ih (by omega)
        obtain ⟨csi, h1, d', p', h2⟩ := helem k (by omega)
        obtain ⟨arr2, e2', fz2, hh2, _, hle2, hcs⟩ := cells_spec h1 hz
        rw [(hadd _).1, hh] at hh2
        cases hh2
        rw [(hadd _).2] at hcs
        obtain ⟨ρ2, S2, c2, y1, y2, y3, y4, y5⟩ := lay n e fuel csi d' p' hp1 hsp h2 ρ1 S1 x2
        have hl2 : c2.length = z := by
         rw [y4.length, hcs, List.length_take, List.length_drop, Array.length_toList]
         rw [(hadd _).2] at hle2
         omega
        refine ⟨ρ2, S2, c1 ++ c2, x1.trans y1, y2, x3.trans y3, ?_, by rw [List.length_append, x5, hl2, Nat.succ_mul], fun i hi => ?_⟩
        ·rw [take_succ_mul]
         refine VRs.append (x4.mono y1) ?_
         rw [List.drop_drop, ← hcs]
         exact y4
        ·by_cases hik : i < k
         ·have hle3 : i * z + z ≤ k * z := by rw [← Nat.succ_mul]; exact Nat.mul_le_mul_right _ hik
          rw [List.drop_append_of_le_length (by omega), List.take_append_of_le_length (by rw [List.length_drop]; omega)]
          exact Rep.keep y3 n e _ (x6 i hik)
         ·obtain rfl : i = k := by omega
          rw [← x5, List.drop_left, ← hl2, List.take_length]
          exact y5
      obtain ⟨ρ1, S1, c1, x1, x2, x3, x4, x5, x6⟩ := rows len (Nat.le_refl _)
      have hlt : a.block < w0.heap.size := (Array.getElem?_eq_some_iff.1 hh).1
      have hnone : ρ1 S1.size = none := by
       cases hx : ρ1 S1.size with
       | none => rfl
       | some M => exact absurd (x2.dom _ _ hx).1 (Nat.lt_irrefl _)
      have hv := x2.view (c := c1) (e := e) (L := ⟨a.block, a.off, arr.size, z⟩) hlt ⟨arr, e', fz, hh, rfl, fun i v hiv => ?_, (fun h => nomatch h), fun _ => hsz, (fun h => nomatch h), fun h => h.elim (fun h => nomatch h) (fun h => nomatch h)⟩
      ·refine ⟨_, _, [.slice (some ⟨S1.size, 0, none⟩) len len], x1.trans hv.1, hv.2, x3.trans (Keep.new _ _), VRs.cons ?_ .nil, ?_⟩
       ·obtain ⟨bb, oo, ss⟩ := a
        simp only at hspot
        subst hspot
        exact VR.slice (L := ⟨bb, oo, arr.size, z⟩) (upd_same _ _ _) (Nat.le_refl _) hle.2.1 (fun _ => hroom) (.inl (by simp))
       ·unfold Rep
        rw [hu]
        refine .inr (.inr ⟨S1.size, len, c1, rfl, Nat.lt_succ_self _, get_new _ _, by rw [hzz]; exact x5, by have := hle.2; omega, fun i hi => ?_⟩)
        rw [hzz]
        exact Rep.keep (Keep.new _ _) n e _ (x6 i hi)
      ·obtain ⟨v', q1, q2⟩ := x4.get hiv
       rw [List.getElem?_take] at q1
       split at q1
       ·rw [List.getElem?_drop, Array.getElem?_toList] at q1
        exact ⟨v', q1, q2.mono (ext_upd _ hnone)⟩
       ·cases q1
    ·cases h
  ·rename_i fs hu
   simp only [Bool.and_eq_true, List.all_eq_true] at hp
   obtain ⟨hp1, hp2⟩ := hp
   simp only [DataW.trod, hu] at h
   split at h
   ·rename_i hlen
    obtain ⟨xs, hm, _⟩ := Option.map_eq_some_iff.1 h
    obtain ⟨m1, m2⟩ := mapM_some hm
    -- field by field
    have fields : ∀ (gs : List Field) (o : Nat), contigF P (P.cellsOf t) gs o = true → (∀ f, f ∈ gs → f ∈ fs.toList) → ∀ (ρ1 : Rmap) (S1 : St), Sim P w0 ρ1 S1 w0.toWorld →
      ∃ ρ' S' c, Ext ρ1 ρ' ∧ Sim P w0 ρ' S' w0.toWorld ∧ Keep S1 S' ∧ VRs ρ' c (cs.drop o) ∧ ∀ f, f ∈ gs → o ≤ f.offset ∧ Rep P n f.type S' ((c.drop (f.offset - o)).take (P.cellsOf f.type)) := by
     intro gs
     induction gs with
     | nil =>
      intro o hc _ ρ1 S1 hs1
      refine ⟨ρ1, S1, [], Ext.refl _, hs1, Keep.refl _, ?_, fun f hf => by simp at hf⟩
      rw [of_nbeq hc, ← hlen, List.drop_length]
      exact VRs.nil
     | cons g gs ih =>
      intro o hc hin ρ1 S1 hs1
      simp only [contigF, Bool.and_eq_true] at hc
      have ho := of_nbeq hc.1
      obtain ⟨i, hi⟩ := List.getElem?_of_mem (hin g (by simp))
      obtain ⟨y, hy, _⟩ := m2 i g hi
      obtain ⟨ρ2, S2, c2, y1, y2, y3, y4, y5⟩ := lay n g.type fuel _ y.1 y.2 (hp2 g (hin g (by simp))) hsp hy ρ1 S1 hs1
      obtain ⟨ρ3, S3, c3, z1, z2, z3, z4, z5⟩ := ih (o + P.cellsOf g.type) hc.2 (fun f hf => hin f (by simp [hf])) ρ2 S2 y2
      have hcl : c2.length = min (P.cellsOf g.type) (cs.length - o) := by rw [y4.length, List.length_take, List.length_drop, ho]
      refine ⟨ρ3, S3, c2 ++ c3, y1.trans z1, z2, y3.trans z3, ?_, fun f hf => ?_⟩
      ·have e1 : cs.drop o = (cs.drop o).take (P.cellsOf g.type) ++ cs.drop (o + P.cellsOf g.type) := by
        rw [← List.drop_drop, List.take_append_drop]
       rw [e1]
       rw [ho] at y4
       exact VRs.append (y4.mono z1) z4
      ·rcases List.mem_cons.1 hf with rfl | hf
       ·refine ⟨Nat.le_of_eq ho.symm, ?_⟩
        rw [ho, Nat.sub_self, List.drop_zero]
        have hfit : c2.length = P.cellsOf f.type := by
         have hle : o + P.cellsOf f.type ≤ P.cellsOf t := by
          clear ih hin z5
          have : ∀ (gs : List Field) (o : Nat), contigF P (P.cellsOf t) gs o = true → o ≤ P.cellsOf t := by
           intro gs
           induction gs with
           | nil => intro o h; exact Nat.le_of_eq (of_nbeq h)
           | cons g gs ih =>
            intro o h
            simp only [contigF, Bool.and_eq_true] at h
            have := ih _ h.2
            omega
          exact this gs _ hc.2
         rw [hcl, hlen]
         omega
        rw [← hfit, List.take_left]
        exact Rep.keep z3 n _ _ (by
         have := y5
         rwa [] at this)
       ·obtain ⟨q1, q2⟩ := z5 f hf
        refine ⟨by omega, ?_⟩
        have hfit : c2.length ≤ f.offset - o := by rw [hcl]; omega
        have hfit2 : c2.length = P.cellsOf g.type ∨ c3 = [] := by
         by_cases hle : P.cellsOf g.type ≤ cs.length - o
         ·left; rw [hcl]; omega
         ·right
          have := z4.length
          rw [List.length_drop] at this
          exact List.eq_nil_of_length_eq_zero (by omega)
        rcases hfit2 with e3 | e3
        ·rw [List.drop_append, List.drop_eq_nil_of_le hfit, List.nil_append, e3]
         rw [show f.offset - o - P.cellsOf g.type = f.offset - (o + P.cellsOf g.type) by omega]
         exact q2
        ·subst e3
         rw [List.append_nil, List.drop_eq_nil_of_le hfit]
         rw [List.drop_nil] at q2
         exact q2
    obtain ⟨ρ', S', c, x1, x2, x3, x4, x5⟩ := fields fs.toList 0 hp1 (fun f hf => hf) ρ S hs
    rw [List.drop_zero] at x4
    refine ⟨ρ', S', c, x1, x2, x3, x4, ?_⟩
    unfold Rep
    rw [hu]
    refine ⟨by rw [x4.length, hlen], fun f hf => ?_⟩
    have := (x5 f hf).2
    rwa [Nat.sub_zero] at this
   ·cases h
  ·rename_i m e hu
   simp only [Bool.and_eq_true] at hp
   have hsz := of_nbeq hp.1
   simp only [DataW.trod, hu] at h
   split at h
   ·rename_i hlen
    obtain ⟨xs, hm, _⟩ := Option.map_eq_some_iff.1 h
    obtain ⟨m1, m2⟩ := mapM_some hm
    generalize hzz : P.cellsOf e = z at *
    have rows : ∀ k, k ≤ m → ∃ ρ' S' c, Ext ρ ρ' ∧ Sim P w0 ρ' S' w0.toWorld ∧ Keep S S' ∧ VRs ρ' c (cs.take (k * z)) ∧ c.length = k * z ∧ ∀ i, i < k → Rep P n e S' ((c.drop (i * z)).take z) := by
     intro k
     induction k with
     | zero => intro _; exact ⟨ρ, S, [], Ext.refl _, hs, Keep.refl _, by simpa using VRs.nil, by simp, fun i hi => by omega⟩
     | succ k ih =>
      intro hk
      obtain ⟨ρ1, S1, c1, x1, x2, x3, x4, x5, x6⟩ := ih (by omega)
      obtain ⟨y, hy, _⟩ := m2 k k (List.getElem?_range (by omega))
      obtain ⟨ρ2, S2, c2, y1, y2, y3, y4, y5⟩ := lay n e fuel _ y.1 y.2 hp.2 hsp hy ρ1 S1 x2
      have hle3 : k * z + z ≤ m * z := by rw [← Nat.succ_mul]; exact Nat.mul_le_mul_right _ hk
      have hl2 : c2.length = z := by
       rw [y4.length, List.length_take, List.length_drop]
       omega
      refine ⟨ρ2, S2, c1 ++ c2, x1.trans y1, y2, x3.trans y3, ?_, by rw [List.length_append, x5, hl2, Nat.succ_mul], fun i hi => ?_⟩
      ·rw [take_succ_mul]
       exact VRs.append (x4.mono y1) y4
      ·by_cases hik : i < k
       ·have hle3 : i * z + z ≤ k * z := by rw [← Nat.succ_mul]; exact Nat.mul_le_mul_right _ hik
        rw [List.drop_append_of_le_length (by omega), List.take_append_of_le_length (by rw [List.length_drop]; omega)]
        exact Rep.keep y3 n e _ (x6 i hik)
       ·obtain rfl : i = k := by omega
        rw [← x5, List.drop_left, ← hl2, List.take_length]
        exact y5
    obtain ⟨ρ', S', c, x1, x2, x3, x4, x5, x6⟩ := rows m (Nat.le_refl _)
    rw [List.take_of_length_le (by omega)] at x4
    refine ⟨ρ', S', c, x1, x2, x3, x4, ?_⟩
    unfold Rep
    rw [hu]
    refine ⟨by rw [x5, hsz], fun i hi => ?_⟩
    rw [hzz]
    exact x6 i hi
   ·cases h
  ·cases hp
end
end Go.Cm

namespace Go.Cm
open Go
variable {P : Program} {K : Known}
theorem calls_of_cc (hm : P.follows .mixedOrders = true) {W : World} (hK : KnownSound P K W) {f : FuncId} {fn : Func} {c : Code} (hf : P.funcs[f]? = some fn) (hb : fn.body = some c) (hnm : (fn.name == "runtime.NumGoroutine") = false)
  {args : List Value} {args' : Array Value} {ρ : Rmap} {S : St} (hs : Sim P ⟨W, fun _ => false⟩ ρ S W) (hv : VRs ρ args args'.toList) {Q : Value → Prop} (h : CC P K f args S fun v _ => Q v) :
  Calls P f args' W fun e w => ∃ v ρ' v', Q v ∧ VR ρ' v v' ∧ e = .returned v' ∧ Kept W w := by
 obtain ⟨m, v, S', h1, h2⟩ := h
 have hcall0 : (fns P K (m + 1)).call (.fn (.func f) #[]) args S = some (.returned v, S') := by
  show enterF P K (fns P K m) f (args ++ (#[] : Array Value).toList) S = _
  simpa using h1
 have := (fns_sound hm hK (m + 1) (m + 1) (Nat.le_refl _) (fun _ => false)).call _ _ _ _ _ hcall0 ρ W (.fn (.func f) #[]) args' hs ⟨.func f, .func f, #[], #[], rfl, rfl, .func f rfl nil_all rfl nil_all⟩ hv
 have hcall : (invoke (.fn (.func f) #[]) args').run P W = .ok (.enter f args') W := by
  have := run_callFunc hf hb hnm args' W
  simpa [invoke] using this
 rw [hcall] at this
 refine (callsIn_wide.1 this).mono ?_
 rintro e' w ⟨ρ', _, q2, q3⟩
 cases q2 with
 | ret hvr => exact ⟨v, ρ', _, h2, hvr, rfl, q3.kept⟩
theorem mapM_congr {α β : Type} {f g : α → Option β} : ∀ {l : List α} {r : List β}, l.mapM f = some r → (∀ x, x ∈ l → ∀ y, f x = some y → g x = some y) → l.mapM g = some r
 | [], r, h, _ => by simpa using h
 | a :: l, r, h, hc => by
  rw [List.mapM_cons] at h ⊢
  obtain ⟨y, hy, h⟩ := Option.mem_bind_iff.1 h
  obtain ⟨ys, hys, h⟩ := Option.mem_bind_iff.1 h
  cases h
  rw [hc a (by simp) y hy, mapM_congr hys fun x hx => hc x (by simp [hx])]
  rfl
theorem cell_kept {W W' : World} (h : Kept W W') {a : Addr} {v : Value} (hc : W.cell? a = some v) : W'.cell? a = some v := by
 have hb : a.block < W.heap.size := by
  rcases Nat.lt_or_ge a.block W.heap.size with h1 | h1
  ·exact h1
  ·unfold World.cell? at hc
   simp only [Array.getElem?_eq_none h1] at hc
   cases hc
 unfold World.cell? at hc ⊢
 rw [h.old _ hb]
 exact hc
theorem cells_kept {W W' : World} (h : Kept W W') {base n : Nat} {a : Addr} {cs : List Value} (hc : W.cells? base a n = some cs) : W'.cells? base a n = some cs := by
 unfold World.cells? at hc ⊢
 split at hc
 ·rename_i hb
  rw [if_pos hb]
  exact mapM_congr hc fun x _ y hy => cell_kept h hy
 ·cases hc
section
variable {H : Type} {enc : TypeId × Value → H} {held : Bool} {W W' : World}
theorem retrod (hk : Kept W W') : ∀ (n : Nat) (t : TypeId) (fuel : Nat) (cs : List Value) (r : DataW H × List MemPlace), plainT P n t = true → DataW.trod enc P W 0 (fun _ => true) held fuel t cs = some r →
  DataW.trod enc P W' 0 (fun b => decide (b < W.heap.size)) held fuel t cs = some r
 | 0, t, fuel, cs, r, hp, h => by cases hp
 | n + 1, t, 0, cs, r, hp, h => by simp [DataW.trod] at h
 | n + 1, t, fuel + 1, cs, r, hp, h => by
  unfold plainT at hp
  split at hp
  ·rename_i hu
   simp only [DataW.trod, hu] at h ⊢
   split at h
   all_goals first | (simp_all; done) | skip
  ·rename_i k hu
   simp only [DataW.trod, hu] at h ⊢
   split at h
   all_goals first | (simp_all; done) | skip
  ·rename_i hu
   simp only [DataW.trod, hu] at h ⊢
   split at h
   all_goals first | (simp_all; done) | skip
  ·rename_i e hu
   simp only [Bool.and_eq_true] at hp
   have hz := nblt_tt hp.2.1
   simp only [DataW.trod, hu] at h ⊢
   split at h
   all_goals first | (simp_all; done) | skip
   rename_i a len cap he
   cases he
   split at h
   ·rename_i hle
    rw [if_pos hle]
    obtain ⟨els, hels, h⟩ := Option.mem_bind_iff.1 h
    obtain ⟨rest, hrest, h⟩ := Option.map_eq_some_iff.1 h
    have each : ∀ (i : Nat) (y : DataW H × List MemPlace), (W.cells? 0 (a.add (i * P.cellsOf e)) (P.cellsOf e)).bind (DataW.trod enc P W 0 (fun _ => true) held fuel e) = some y →
      (W'.cells? 0 (a.add (i * P.cellsOf e)) (P.cellsOf e)).bind (DataW.trod enc P W' 0 (fun b => decide (b < W.heap.size)) held fuel e) = some y := by
     intro i y hy
     obtain ⟨csi, h1, h2⟩ := Option.bind_eq_some_iff.1 hy
     rw [cells_kept hk h1]
     exact retrod hk n e fuel csi y hp.1 h2
    rw [if_pos trivial] at hrest
    refine Option.mem_bind_iff.2 ⟨els, mapM_congr hels fun i _ y hy => each i y hy, ?_⟩
    refine Option.map_eq_some_iff.2 ⟨rest, ?_, h⟩
    by_cases hb : a.block < W.heap.size
    ·rw [if_pos (by simpa using hb)]
     exact mapM_congr hrest fun i _ y hy => each (len + i) y hy
    ·rw [if_neg (by simpa using hb)]
     -- no room at all
     have : cap - len = 0 := by
      rcases Nat.eq_zero_or_pos (cap - len) with h0 | h0
      ·exact h0
      ·exfalso
       obtain ⟨_, r2⟩ := mapM_some hrest
       obtain ⟨y, hy, _⟩ := r2 0 0 (List.getElem?_range (by omega))
       obtain ⟨csi, h1, _⟩ := Option.bind_eq_some_iff.1 hy
       obtain ⟨arr, e', fz, hh, _⟩ := cells_spec h1 hz
       have hbk : (a.add ((len + 0) * P.cellsOf e)).block = a.block := by unfold Addr.add; split <;> rfl
       rw [hbk] at hh
       exact hb (Array.getElem?_eq_some_iff.1 hh).1
     rw [this] at hrest
     simpa using hrest
   ·cases h
  ·rename_i fs hu
   simp only [Bool.and_eq_true, List.all_eq_true] at hp
   simp only [DataW.trod, hu] at h ⊢
   split at h
   ·rename_i hl
    rw [if_pos hl]
    obtain ⟨xs, hm, h⟩ := Option.map_eq_some_iff.1 h
    exact Option.map_eq_some_iff.2 ⟨xs, mapM_congr hm fun f hf y hy => retrod hk n _ fuel _ y (hp.2 f hf) hy, h⟩
   ·cases h
  ·rename_i m e hu
   simp only [Bool.and_eq_true] at hp
   simp only [DataW.trod, hu] at h ⊢
   split at h
   ·rename_i hl
    rw [if_pos hl]
    obtain ⟨xs, hm, h⟩ := Option.map_eq_some_iff.1 h
    exact Option.map_eq_some_iff.2 ⟨xs, mapM_congr hm fun i _ y hy => retrod hk n _ fuel _ y hp.2 hy, h⟩
   ·cases h
  ·cases hp
theorem retrodAll (hk : Kept W W') (n : Nat) : ∀ (ts : List TypeId) (vs : List Value) (ds : List (DataW H)) (ps : List MemPlace), (ts.all fun t => plainT P n t) = true → DataW.TrodAll enc P W 0 (fun _ => true) held ts vs ds ps →
  DataW.TrodAll enc P W' 0 (fun b => decide (b < W.heap.size)) held ts vs ds ps
 | [], [], [], ps, _, h => h
 | t :: ts, v :: vs, d :: ds, ps, hp, ⟨p, q, ⟨fuel, h1⟩, h2, h3⟩ => by
  simp only [List.all_cons, Bool.and_eq_true] at hp
  exact ⟨p, q, ⟨fuel, retrod hk n t fuel _ _ hp.1 h1⟩, retrodAll hk n ts vs ds q hp.2 h2, h3⟩
 | [], _ :: _, _, ps, _, h => h.elim
 | [], [], _ :: _, ps, _, h => h.elim
 | _ :: _, [], _, ps, _, h => h.elim
 | _ :: _, _ :: _, [], ps, _, h => h.elim
def RepAll (P : Program) (n : Nat) (S : St) : List TypeId → List Value → Prop
 | [], [] => True
 | t :: ts, v :: vs => Rep P n t S (cellsL v) ∧ RepAll P n S ts vs
 | _, _ => False
theorem RepAll.keep {S T : St} (h : Keep S T) {n : Nat} : ∀ {ts : List TypeId} {vs : List Value}, RepAll P n S ts vs → RepAll P n T ts vs
 | [], [], _ => trivial
 | _ :: _, _ :: _, ⟨a, b⟩ => ⟨Rep.keep h n _ _ a, RepAll.keep h b⟩
 | [], _ :: _, h => h.elim
 | _ :: _, [], h => h.elim
end
end Go.Cm

