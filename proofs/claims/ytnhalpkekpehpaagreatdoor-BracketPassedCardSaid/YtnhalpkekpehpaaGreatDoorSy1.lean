/-
  The evaluator of the model, and that it is sound: part 5.
-/
import Derived.Test.YtnhalpkekpehpaaGreatDoorCm4
namespace Go.Cm
open Go
variable {P : Program} {K : A1} {a b : Bo}
structure Dh (a b : Bo) : Prop where
 exec : ∀ ro c x S r, a.exec ro c x S = some r → b.exec ro c x S = some r
 call : ∀ t args S r, a.call t args S = some r → b.call t args S = some r
theorem Ul (h : Dh a b) {ρ : Operand → Value} {c : Call} {S : St} {r : Ending × St} (e : Kw a ρ c S = some r) : Kw b ρ c S = some r := by
 unfold Kw at e ⊢
 cases hc : c.callee with
 | builtin x => rw [hc] at e; cases e
 | invoke x n => rw [hc] at e; exact h.call _ _ _ _ e
 | value f =>
  rw [hc] at e
  simp only at e ⊢
  split at e
  ·exact h.call _ _ _ _ e
  cases e
theorem Jr (h : Dh a b) {ρ : Operand → Value} {op : Op} {S : St} {r : N8 × St} (e : CF P a ρ op S = some r) : CF P b ρ op S = some r := by
 unfold CF at e ⊢
 split
 ·rename_i hk; rw [hk] at e; exact e
 ·rename_i hk; rw [hk] at e; exact e
 rename_i hk
 rw [hk] at e
 simp only at e ⊢
 cases op with
 | call c =>
  obtain ⟨callee, as, ts⟩ := c
  cases callee with
  | builtin x => exact e
  | invoke x n =>
   simp only at e ⊢
   split at e
   ·rename_i hx; rw [Ul h hx]; exact e
   ·rename_i hx; rw [Ul h hx]; exact e
   cases e
  | value f =>
   simp only at e ⊢
   split at e
   ·rename_i hx; rw [Ul h hx]; exact e
   ·rename_i hx; rw [Ul h hx]; exact e
   cases e
 | _ => exact e
theorem Qs (h : Dh a b) {full : List Oper} : ∀ (l : List Oper) {x : Ca} {S : St} {r : Exit × Ca × St}, E1 P a full l x S = some r → E1 P b full l x S = some r
 | [], x, S, r, e => e
 | o :: l, x, S, r, e => by
  unfold E1 at e ⊢
  cases hw : CY full x o with
  | true =>
   rw [hw] at e
   simp only [cond_true] at e ⊢
   split at e
   ·rename_i v S' hs
    rw [Jr h hs]
    simp only
    split at e
    ·rename_i x' hp
     exact Qs h l e
    cases e
   ·rename_i ch S' hs
    rw [Jr h hs]
    exact e
   cases e
  | false =>
   rw [hw] at e
   simp only [cond_false] at e ⊢
   split at e
   ·exact Qs h l e
   cases e
theorem Me (h : Dh a b) {full : List Oper} {AE : List Nat} : ∀ (l : List (Oper × Nat)) {AX : List (Nat × CZ)} {x : Ca} {S : St} {r : Exit × Ca × St}, Ce P a full AE l AX x S = some r → Ce P b full AE l AX x S = some r
 | [], AX, x, S, r, e => e
 | (o, i) :: l, AX, x, S, r, e => by
  unfold Ce at e ⊢
  cases hw : CY full x o with
  | true =>
   rw [hw] at e
   simp only [cond_true] at e ⊢
   cases hk : kindOf o.op with
   | read =>
    rw [hk] at e
    simp only at e ⊢
    split at e
    ·split at e
     ·exact Me h l e
     cases e
    cases e
   | fresh =>
    rw [hk] at e
    simp only at e ⊢
    split at e
    ·split at e
     ·exact Me h l e
     cases e
    cases e
   | Ed =>
    rw [hk] at e
    simp only at e ⊢
    split at e
    ·rename_i v S' hs
     rw [Jr h hs]
     simp only
     split at e
     ·rename_i x' hp
      cases hc : ((AX.filter fun x => !((nth AE i).getD 0).testBit x.1).all fun x => x.2.ok P S') with
      | true =>
       rw [hc] at e
       exact Me h l e
      | false => rw [hc] at e; cases e
     cases e
    cases e
  | false =>
   rw [hw] at e
   simp only [cond_false] at e ⊢
   split at e
   ·exact Me h l e
   cases e
theorem ACA (h : Dh a b) {full : List Oper} {x : Ca} {S : St} {r : Exit × Ca × St} (e : Nw P a full x S = some r) : Nw P b full x S = some r := by
 unfold Nw at e ⊢
 split at e
 ·exact Me h _ e
 cases e
theorem th (h : Dh a b) {ro : Option Nat} {code : Code} {x : Ca} {S : St} {r : Exit × Ca × St} (e : Aq P a ro code x S = some r) : Aq P b ro code x S = some r := by
 cases code with
 | skip => exact e
 | label _ => exact e
 | exit _ => exact e
 | ret => exact e
 | goto _ => exact e
 | refuse _ => exact e
 | region i ops d =>
  simp only [Aq] at e ⊢
  cases hc : DZ P ops.toList with
  | false => rw [hc] at e; cases e
  | true =>
   rw [hc] at e
   simp only [cond_true] at e ⊢
   cases d with
   | true => exact ACA h e
   | false => exact Qs h _ e
 | seq y z =>
  simp only [Aq] at e ⊢
  split at e
  ·rename_i hx
   rw [h.exec _ _ _ _ _ hx]
   exact h.exec _ _ _ _ _ e
  rename_i r' AR
  rw [h.exec _ _ _ _ _ e]
  split
  ·rename_i heq
   cases heq
   exact absurd e (by intro h'; exact AR _ _ h')
  rfl
 | cond c y z =>
  simp only [Aq] at e ⊢
  split at e
  ·exact h.exec _ _ _ _ _ e
  cases e
 | block i c =>
  simp only [Aq] at e ⊢
  split at e
  ·rename_i j a' S' hx
   rw [h.exec _ _ _ _ _ hx]
   exact e
  rename_i r' AR
  rw [h.exec _ _ _ _ _ e]
  split
  ·rename_i heq
   cases heq
   exact absurd e (AR _ _ _)
  rfl
 | loop c =>
  simp only [Aq] at e ⊢
  split at e
  ·rename_i hx
   rw [h.exec _ _ _ _ _ hx]
   exact h.exec _ _ _ _ _ e
  rename_i r' AR
  rw [h.exec _ _ _ _ _ e]
  split
  ·rename_i heq
   cases heq
   exact absurd e (AR _ _)
  rfl
 | scope c =>
  simp only [Aq] at e ⊢
  split at e
  ·cases e
  rename_i r' AR
  rw [h.exec _ _ _ _ _ e]
  split
  ·rename_i heq
   cases heq
   exact absurd e (AR _ _ _)
  rfl
 | rangeFunc f params assign body =>
  simp only [Aq] at e ⊢
  split at e
  ·rename_i fn first cap hf
   cases hc : (isConst f || !J4 P fn) with
   | true => rw [hc] at e; cases e
   | false =>
    rw [hc] at e
    simp only [cond_false] at e ⊢
    split at e
    ·rename_i d mark S1 hs
     skip
     split at e
     ·rename_i v S3 hx
      rw [h.call _ _ _ _ hx]
      exact e
     ·rename_i ch S3 hx
      rw [h.call _ _ _ _ hx]
      exact e
     cases e
    cases e
  cases e
theorem tU (h : Dh a b) {f : FuncId} {args : List Value} {S : St} {r : Ending × St} (e : Lt P K a f args S = some r) : Lt P K b f args S = some r := by
 unfold Lt at e ⊢
 split at e
 ·split at e
  ·rename_i fn _ _ c _
   cases hc : ((fn.name == "runtime.NumGoroutine") || Nat.blt 256 (DK fn.ntmps args.length)) with
   | true => rw [hc] at e; cases e
   | false =>
    rw [hc] at e
    simp only [cond_false] at e ⊢
    split at e
    ·rename_i hx
     rw [h.exec _ _ _ _ _ hx]
     exact e
    cases e
  exact e
 cases e
theorem WM (h : Dh a b) {full : List Oper} : ∀ (l : List Oper) {x : Ca} {S : St} {r : Exit × Ca × St}, Hi P a full l x S = some r → Hi P b full l x S = some r
 | [], x, S, r, e => e
 | o :: l, x, S, r, e => by
  unfold Hi at e ⊢
  cases hw : CY full x o with
  | true =>
   rw [hw] at e
   simp only [cond_true] at e ⊢
   split
   ·rename_i c AH
    rw [AH] at e
    simp only at e
    split at e
    ·split at e
     ·exact WM h l e
     cases e
    cases e
   rename_i AR
   split at e
   ·rename_i c AH; exact absurd AH (AR c)
   split at e
   ·rename_i v S' hs
    rw [Jr h hs]
    simp only
    split at e
    ·rename_i x' hp
     exact WM h l e
    cases e
   ·rename_i ch S' hs
    rw [Jr h hs]
    exact e
   cases e
  | false =>
   rw [hw] at e
   simp only [cond_false] at e ⊢
   split at e
   ·exact WM h l e
   cases e
theorem M0 (h : Dh a b) : ∀ (n : Nat) {code : Code} {x : Ca} {S : St} {r : Exit × Ca × St}, Fw P a n code x S = some r → Fw P b n code x S = some r
 | 0, code, x, S, r, e => by cases e
 | n + 1, code, x, S, r, e => by
  cases code with
  | region i ops d =>
   simp only [Fw] at e ⊢
   cases hd : NG ops.toList with
   | true =>
    rw [hd] at e
    simp only [cond_true] at e ⊢
    cases hc : (d || !DZ P ops.toList) with
    | true => rw [hc] at e; cases e
    | false =>
     rw [hc] at e
     exact WM h _ e
   | false =>
    rw [hd] at e
    exact h.exec _ _ _ _ _ e
  | seq y z =>
   simp only [Fw] at e ⊢
   split at e
   ·rename_i hx
    rw [M0 h n hx]
    exact M0 h n e
   rename_i r' AR
   rw [M0 h n e]
   split
   ·rename_i heq
    cases heq
    exact absurd e (AR _ _)
   rfl
  | cond c y z =>
   simp only [Fw] at e ⊢
   split at e
   ·exact M0 h n e
   cases e
  | skip => exact h.exec _ _ _ _ _ e
  | label _ => exact h.exec _ _ _ _ _ e
  | exit _ => exact h.exec _ _ _ _ _ e
  | ret => exact h.exec _ _ _ _ _ e
  | goto _ => exact h.exec _ _ _ _ _ e
  | refuse _ => exact h.exec _ _ _ _ _ e
  | block _ _ => exact h.exec _ _ _ _ _ e
  | loop _ => exact h.exec _ _ _ _ _ e
  | scope _ => exact h.exec _ _ _ _ _ e
  | rangeFunc _ _ _ _ => exact h.exec _ _ _ _ _ e
theorem OM (h : Dh a b) : ∀ (n : Nat) {code : Code} {x : Ca} {S : St} {m : Mode} {r : Exit × Ca × St × Mode}, Gz P a n code x S m = some r → Gz P b n code x S m = some r
 | 0, code, x, S, m, r, e => by cases e
 | n + 1, code, x, S, m, r, e => by
  have other : ∀ {code : Code}, (match a.exec none code x S with
    | some (.normal, a', S') => some (Exit.normal, a', S', m)
    | _ => none) = some r → (match b.exec none code x S with
    | some (.normal, a', S') => some (Exit.normal, a', S', m)
    | _ => none) = some r := by
   intro code e
   split at e
   ·rename_i hx
    rw [h.exec _ _ _ _ _ hx]
    exact e
   cases e
  cases code with
  | region i ops d =>
   cases d with
   | false => exact e
   | true => exact other e
  | seq y z =>
   simp only [Gz] at e ⊢
   split at e
   ·rename_i hx
    rw [OM h n hx]
    exact OM h n e
   rename_i r' AR
   rw [OM h n e]
   split
   ·rename_i heq
    cases heq
    exact absurd e (AR _ _ _)
   rfl
  | cond c y z =>
   simp only [Gz] at e ⊢
   split at e
   ·exact OM h n e
   cases e
  | skip => exact e
  | ret => exact e
  | label _ => exact other e
  | exit _ => exact other e
  | goto _ => exact other e
  | refuse _ => exact other e
  | block _ _ => exact other e
  | loop _ => exact other e
  | scope _ => exact other e
  | rangeFunc _ _ _ _ => exact other e
theorem fT (h : Dh a b) {f : FuncId} {args : List Value} {m : Mode} {S : St} {r : Mode × St} (e : Ms P a f args m S = some r) : Ms P b f args m S = some r := by
 unfold Ms at e ⊢
 split at e
 ·split at e
  ·rename_i fn _ _ c _
   cases hc : ((fn.name == "runtime.NumGoroutine") || Nat.blt 256 (DK fn.ntmps args.length)) with
   | true => rw [hc] at e; cases e
   | false =>
    rw [hc] at e
    simp only [cond_false] at e ⊢
    split at e
    ·rename_i hx
     rw [OM h _ hx]
     exact e
    cases e
  cases e
 cases e
theorem TM (h : Dh a b) : ∀ (ds : List Deferred) {m : Mode} {S : St} {r : Mode × St}, GH P a ds m S = some r → GH P b ds m S = some r
 | [], m, S, r, e => e
 | d :: ds, m, S, r, e => by
  simp only [GH] at e ⊢
  split at e
  ·split at e
   ·exact TM h ds e
   cases e
  ·split at e
   ·rename_i hx
    rw [fT h hx]
    exact TM h ds e
   cases e
  cases e
theorem Xv (h : Dh a b) {x : Ca} {rs : List ResultVar} {ds : List Deferred} {m : Mode} {S : St} {r : Ending × St} (e : K2 P x rs (GH P a ds m S) = some r) : K2 P x rs (GH P b ds m S) = some r := by
 cases hl : GH P a ds m S with
 | none => rw [hl] at e; cases e
 | some y => rw [TM h ds hl, ← hl]; exact e
theorem tW (h : Dh a b) {f : FuncId} {args : List Value} {S : St} {r : Ending × St} (e : OL P a f args S = some r) : OL P b f args S = some r := by
 unfold OL at e ⊢
 split at e
 ·split at e
  ·rename_i fn _ _ c _
   cases hc : ((fn.name == "runtime.NumGoroutine") || Nat.blt 256 (DK fn.ntmps args.length)) with
   | true => rw [hc] at e; cases e
   | false =>
    rw [hc] at e
    simp only [cond_false] at e ⊢
    split at e
    ·rename_i hx
     rw [M0 h _ hx]
     simp only
     split at e
     ·exact Xv h e
     ·exact Xv h e
     ·exact Xv h e
     cases e
    cases e
  cases e
 cases e
theorem Rg (h : Dh a b) {f : FuncId} {args : List Value} {S : St} {r : Ending × St} (e : Et P K a f args S = some r) : Et P K b f args S = some r := by
 unfold Et at e ⊢
 split at e
 ·exact e
 cases hd : K.defers f with
 | true => rw [hd] at e; exact tW h e
 | false => rw [hd] at e; exact tU h e
theorem ABv (h : Dh a b) {l : Nat} {args : List Value} {S : St} {r : Ending × St} (e : Nu a l args S = some r) : Nu b l args S = some r := by
 unfold Nu at e ⊢
 split at e
 ·rename_i n t ps x y d _
  cases hc : Nat.blt 256 n with
  | true => rw [hc] at e; cases e
  | false =>
   rw [hc] at e
   simp only [cond_false] at e ⊢
   split at e
   ·split at e
    ·rename_i hx
     rw [h.exec _ _ _ _ _ hx]
     simp only
     split at e
     ·rename_i hl
      split at e
      ·rename_i hy
       rw [h.exec _ _ _ _ _ hy]
       exact e
      cases e
     cases e
    cases e
   cases e
 cases e
theorem sU (h : Dh a b) {t : Target} {args : List Value} {S : St} {r : Ending × St} (e : Mt P K a t args S = some r) : Mt P K b t args S = some r := by
 unfold Mt at e ⊢
 split at e
 ·exact Rg h e
 ·exact ABv h e
 ·split at e
  ·split at e
   ·exact Rg h e
   cases e
  cases e
 ·rename_i t path f ptr _
  split at e
  ·cases hp : path.isEmpty with
   | false => rw [hp] at e; cases e
   | true =>
    rw [hp] at e
    simp only [cond_true] at e ⊢
    split at e
    ·exact Rg h e
    ·split at e
     ·exact Rg h e
     cases e
    ·exact Rg h e
    cases e
  cases e
 cases e
theorem X9 : ∀ n, Dh (fns P K n) (fns P K (n + 1))
 | 0 => ⟨fun _ _ _ _ _ h => (by cases h), fun _ _ _ _ h => (by cases h)⟩
 | n + 1 => ⟨fun _ _ _ _ _ h => th (X9 n) h, fun _ _ _ _ h => sU (X9 n) h⟩
theorem Dh.refl (a : Bo) : Dh a a := ⟨fun _ _ _ _ _ h => h, fun _ _ _ _ h => h⟩
theorem Dh.trans {a b c : Bo} (h : Dh a b) (k : Dh b c) : Dh a c := ⟨fun _ _ _ _ _ x => k.exec _ _ _ _ _ (h.exec _ _ _ _ _ x), fun _ _ _ _ x => k.call _ _ _ _ (h.call _ _ _ _ x)⟩
theorem gw (n : Nat) : ∀ k, Dh (fns P K n) (fns P K (n + k))
 | 0 => Dh.refl _
 | k + 1 => (gw n k).trans (X9 _)
theorem EV {n m : Nat} (h : n ≤ m) : Dh (fns P K n) (fns P K m) := by
 obtain ⟨k, rfl⟩ := Nat.exists_eq_add_of_le h
 exact gw n k
end Go.Cm
namespace Go.Cm
open Go
variable {P : Program} {K : A1}
abbrev Env := List (Nat × Value)
def look : Env → Nat → Option Value
 | [], _ => none
 | (k, v) :: L, i => bif Nat.beq k i then some v else look L i
def Ae (L : Env) : Operand → Option Value
 | .tmp t => look L t
 | .const v => some v
 | .global g => some (.pointer (some ⟨g, 0, none⟩))
 | .func f => some (.func (.func f) #[] #[])
def X0 (L : Env) (x : Operand) : Value := match Ae L x with
 | some v => v
 | none => undef
structure Has (n : Nat) (a : Ca) (L : Env) : Prop where
 nn : a.n = n
 le : n ≤ 256
 df : a.defers = []
 val : ∀ k v, look L k = some v → a.get k = v
theorem Has.ev {n : Nat} {a : Ca} {L : Env} (h : Has n a L) {x : Operand} {v : Value} (hx : Ae L x = some v) : a.ev x = v := by
 cases x with
 | tmp t => exact h.val _ _ hx
 | const v => exact Option.some.inj hx
 | global g => exact Option.some.inj hx
 | func f => exact Option.some.inj hx
theorem Has.X0 {n : Nat} {a : Ca} {L : Env} (h : Has n a L) {x : Operand} (hx : (Ae L x).isSome = true) : a.ev x = X0 L x := by
 cases hv : Ae L x with
 | none => rw [hv] at hx; cases hx
 | some v => rw [h.ev hv]; unfold Cm.X0; rw [hv]
theorem sR (n : Nat) (t : Tm) (ds : List Deferred) (d k : Nat) (v : Value) (hd : d < 256) : Ca.get ⟨n, t.set d (some v), ds⟩ k = if k = d then v else Ca.get ⟨n, t, ds⟩ k := by
 unfold Ca.get
 rw [PT.U8 _ _ _ (show d < 2 ^ 8 from hd)]
 by_cases h : k = d
 ·rw [if_pos h, if_pos h]
 rw [if_neg h, if_neg h]
theorem LO {k i : Nat} {v : Value} {L : Env} : look ((k, v) :: L) i = if i = k then some v else look L i := by
 show (bif Nat.beq k i then some v else look L i) = _
 by_cases h : i = k
 ·subst h; rw [if_pos rfl, IJ]; rfl
 rw [if_neg h, Ni (fun e => h e.symm)]; rfl
theorem Has.put {n : Nat} {a : Ca} {L : Env} (h : Has n a L) {d : Nat} (hd : Nat.blt d n = true) (v : Value) : ∃ a', a.put (some d) v = some a' ∧ Has n a' ((d, v) :: L) := by
 have Ym := HA hd
 have hle := h.le
 obtain ⟨m, t, ds⟩ := a
 obtain rfl : m = n := h.nn
 refine ⟨⟨m, t.set d (some v), ds⟩, by unfold Ca.put; simp only [hd, cond_true], ⟨rfl, h.le, h.df, fun k w hk => ?_⟩⟩
 show Ca.get ⟨m, t.set d (some v), ds⟩ k = w
 rw [sR _ _ _ _ _ _ (by omega)]
 rw [LO] at hk
 by_cases e : k = d
 ·rw [if_pos e] at hk ⊢; exact Option.some.inj hk
 rw [if_neg e] at hk ⊢; exact h.val _ _ hk
def Af : Env → Env → Prop
 | [], _ => True
 | (k, v) :: r, L => look L k = some v ∧ Af r L
theorem Af.look : ∀ {L' L : Env}, Af L' L → ∀ k v, look L' k = some v → look L k = some v
 | [], _, _, k, v, h => by cases h
 | (j, u) :: r, L, hs, k, v, h => by
  rw [LO] at h
  by_cases e : k = j
  ·rw [if_pos e] at h; cases h; rw [e]; exact hs.1
  rw [if_neg e] at h; exact Af.look hs.2 k v h
theorem Has.sub {n : Nat} {a : Ca} {L L' : Env} (h : Has n a L) (hs : Af L' L) : Has n a L' := ⟨h.nn, h.le, h.df, fun k v hk => h.val k v (hs.look k v hk)⟩
abbrev Bi := Exit → Env → St → Prop
def XE (P : Program) (K : A1) (n : Nat) (ro : Option Nat) (c : Code) (L : Env) (S : St) (Q : Bi) : Prop :=
 ∀ a, Has n a L → ∃ m e a' S' L', (fns P K m).exec ro c a S = some (e, a', S') ∧ Has n a' L' ∧ Q e L' S'
def RE (P : Program) (K : A1) (n : Nat) (ops : List Oper) (i : Nat) (L : Env) (S : St) (Q : Bi) : Prop :=
 ∀ a, Has n a L → ∃ m e a' S' L', E1 P (fns P K m) ops (ops.drop i) a S = some (e, a', S') ∧ Has n a' L' ∧ Q e L' S'
def CC (P : Program) (K : A1) (f : FuncId) (args : List Value) (S : St) (Q : Value → St → Prop) : Prop :=
 ∃ m v S', Et P K (fns P K m) f args S = some (.returned v, S') ∧ Q v S'
theorem K3 {m k : Nat} (h : m ≤ k) {ro : Option Nat} {c : Code} {a : Ca} {S : St} {r : Exit × Ca × St} (e : (fns P K m).exec ro c a S = some r) : (fns P K k).exec ro c a S = some r := (EV h).exec _ _ _ _ _ e
section
variable {n : Nat} {ro : Option Nat} {L : Env} {S : St} {Q : Bi}
theorem AK {c : Code} {L' : Env} (hs : Af L' L) (h : XE P K n ro c L' S Q) : XE P K n ro c L S Q := fun a ha => h a (ha.sub hs)
theorem pE {c : Code} {Q' : Bi} (h : XE P K n ro c L S Q') (hq : ∀ e L' S', Q' e L' S' → Q e L' S') : XE P K n ro c L S Q := by
 intro a ha
 obtain ⟨m, e, a', S', L', h1, h2, h3⟩ := h a ha
 exact ⟨m, e, a', S', L', h1, h2, hq _ _ _ h3⟩
theorem AFR (h : Q .normal L S) : XE P K n ro .skip L S Q := fun a ha => ⟨1, _, a, S, L, rfl, ha, h⟩
theorem AFL {id : Nat} (h : Q (.exit id) L S) : XE P K n ro (.exit id) L S Q := fun a ha => ⟨1, _, a, S, L, rfl, ha, h⟩
theorem AFO (h : Q .ret L S) : XE P K n ro .ret L S Q := fun a ha => ⟨1, _, a, S, L, rfl, ha, h⟩
def Mn (P : Program) (K : A1) (n : Nat) (ro : Option Nat) (y : Code) (Q : Bi) : Bi := fun e L S => match e with
 | .normal => XE P K n ro y L S Q
 | e => Q e L S
theorem AFQ {x y : Code} (h : XE P K n ro x L S (Mn P K n ro y Q)) : XE P K n ro (.seq x y) L S Q := by
 intro a ha
 obtain ⟨m, e, a', S', L', h1, h2, h3⟩ := h a ha
 cases e with
 | normal =>
  obtain ⟨m2, e2, a2, S2, L2, k1, k2, k3⟩ := h3 a' h2
  refine ⟨max m m2 + 1, e2, a2, S2, L2, ?_, k2, k3⟩
  show Aq P (fns P K (max m m2)) ro (.seq x y) a S = _
  simp only [Aq]
  rw [K3 (Nat.le_max_left m m2) h1]
  exact K3 (Nat.le_max_right m m2) k1
 | _ =>
  refine ⟨m + 1, _, a', S', L', ?_, h2, h3⟩
  show Aq P (fns P K m) ro (.seq x y) a S = _
  simp only [Aq]
  rw [h1]
theorem AFJ {c : Operand} {x y : Code} {b : Bool} (hc : Ae L c = some (.bool b)) (h1 : b = true → XE P K n ro x L S Q) (h2 : b = false → XE P K n ro y L S Q) : XE P K n ro (.cond c x y) L S Q := by
 intro a ha
 cases b with
 | true =>
  obtain ⟨m, e, a', S', L', k1, k2, k3⟩ := h1 rfl a ha
  refine ⟨m + 1, e, a', S', L', ?_, k2, k3⟩
  show Aq P (fns P K m) ro (.cond c x y) a S = _
  simp only [Aq, ha.ev hc]
  exact k1
 | false =>
  obtain ⟨m, e, a', S', L', k1, k2, k3⟩ := h2 rfl a ha
  refine ⟨m + 1, e, a', S', L', ?_, k2, k3⟩
  show Aq P (fns P K m) ro (.cond c x y) a S = _
  simp only [Aq, ha.ev hc]
  exact k1
def UM (id : Nat) (Q : Bi) : Bi := fun e L S => match e with
 | .exit j => bif Nat.beq j id then Q .normal L S else Q (.exit j) L S
 | e => Q e L S
theorem AFI {id : Nat} {c : Code} (h : XE P K n ro c L S (UM id Q)) : XE P K n ro (.block id c) L S Q := by
 intro a ha
 obtain ⟨m, e, a', S', L', h1, h2, h3⟩ := h a ha
 cases e with
 | exit j =>
  have JR : bif Nat.beq j id then Q .normal L' S' else Q (.exit j) L' S' := h3
  by_cases hj : j = id
  ·rw [hj, IJ] at JR
   refine ⟨m + 1, _, a', S', L', ?_, h2, JR⟩
   show Aq P (fns P K m) ro (.block id c) a S = _
   simp only [Aq]
   rw [h1]
   simp only [hj, IJ, cond_true]
  rw [Ni hj] at JR
  refine ⟨m + 1, _, a', S', L', ?_, h2, JR⟩
  show Aq P (fns P K m) ro (.block id c) a S = _
  simp only [Aq]
  rw [h1]
  simp only [Ni hj, cond_false]
 | _ =>
  refine ⟨m + 1, _, a', S', L', ?_, h2, h3⟩
  show Aq P (fns P K m) ro (.block id c) a S = _
  simp only [Aq]
  rw [h1]
theorem AFP {c : Code} (h : XE P K n ro c L S fun e L' S' => (∀ l, e ≠ .goto l) ∧ Q e L' S') : XE P K n ro (.scope c) L S Q := by
 intro a ha
 obtain ⟨m, e, a', S', L', h1, h2, h3, h4⟩ := h a ha
 refine ⟨m + 1, e, a', S', L', ?_, h2, h4⟩
 show Aq P (fns P K m) ro (.scope c) a S = _
 simp only [Aq]
 rw [h1]
 cases e with
 | goto l => exact absurd rfl (h3 l)
 | _ => rfl
def Round (I : Nat → Env → St → Prop) (m : Nat) (Q : Bi) : Bi := fun e L S => match e with
 | .normal => ∃ k, k < m ∧ I k L S
 | e => Q e L S
theorem AFM {c : Code} (I : Nat → Env → St → Prop) (h : ∀ m L S, I m L S → XE P K n ro c L S (Round I m Q)) {m : Nat} (h0 : I m L S) : XE P K n ro (.loop c) L S Q := by
 have key : ∀ k m, m ≤ k → ∀ L S, I m L S → XE P K n ro (.loop c) L S Q := by
  intro k
  induction k with
  | zero =>
   intro m hm L S hi a ha
   obtain ⟨j, e, a', S', L', h1, h2, h3⟩ := h m L S hi a ha
   cases e with
   | normal => obtain ⟨k, hk, _⟩ := h3; omega
   | _ =>
    refine ⟨j + 1, _, a', S', L', ?_, h2, h3⟩
    show Aq P (fns P K j) ro (.loop c) a S = _
    simp only [Aq]
    rw [h1]
  | succ k ih =>
   intro m hm L S hi a ha
   obtain ⟨j, e, a', S', L', h1, h2, h3⟩ := h m L S hi a ha
   cases e with
   | normal =>
    obtain ⟨k', hk, Dn⟩ := h3
    obtain ⟨j2, e2, a2, S2, L2, k1, k2, k3⟩ := ih k' (by omega) L' S' Dn a' h2
    refine ⟨max j j2 + 1, e2, a2, S2, L2, ?_, k2, k3⟩
    show Aq P (fns P K (max j j2)) ro (.loop c) a S = _
    simp only [Aq]
    rw [K3 (Nat.le_max_left j j2) h1]
    exact K3 (Nat.le_max_right j j2) k1
   | _ =>
    refine ⟨j + 1, _, a', S', L', ?_, h2, h3⟩
    show Aq P (fns P K j) ro (.loop c) a S = _
    simp only [Aq]
    rw [h1]
 exact key m m (Nat.le_refl _) L S h0
theorem AFN {id : Nat} {ops : Array Oper} (hc : DZ P ops.toList = true) (h : RE P K n ops.toList 0 L S Q) : XE P K n ro (.region id ops false) L S Q := by
 intro a ha
 obtain ⟨m, e, a', S', L', h1, h2, h3⟩ := h a ha
 refine ⟨m + 1, e, a', S', L', ?_, h2, h3⟩
 show Aq P (fns P K m) ro (.region id ops false) a S = _
 simp only [Aq, hc, cond_true, cond_false]
 exact h1
theorem MW {ops : List Oper} {i : Nat} (hi : Nat.ble ops.length i = true) (h : Q .normal L S) : RE P K n ops i L S Q := by
 intro a ha
 refine ⟨0, _, a, S, L, ?_, ha, h⟩
 rw [List.drop_eq_nil_of_le (Nat.le_of_ble_eq_true hi)]
 rfl
theorem EU {α : Type} : ∀ (l : List α) (i : Nat) (o : α), nth l i = some o → l.drop i = o :: l.drop (i + 1)
 | [], i, o, h => by cases h
 | x :: l, 0, o, h => by cases h; rfl
 | x :: l, i + 1, o, h => by simpa using EU l i o h
def As (ops : List Oper) (L : Env) (o : Oper) : Option Bool := match o.guard with
 | none => some true
 | some (j, w) => match nth ops j with
  | some oj => match oj.dst with
   | some d => match look L d with
    | some (.bool b) => some (b == w)
    | some (.tuple _) => some false
    | _ => none
   | none => none
  | none => none
theorem E3 {ops : List Oper} {o : Oper} {a : Ca} (ha : Has n a L) {b : Bool} (h : As ops L o = some b) : CY ops a o = b := by
 unfold As at h
 unfold CY
 split at h
 ·rename_i hg; rw [hg]; exact Option.some.inj h
 rename_i j w hg
 rw [hg]
 simp only
 split at h
 ·rename_i oj hj
  rw [hj]
  simp only
  split at h
  ·rename_i d hd
   rw [hd]
   simp only
   split at h
   ·rename_i x hx
    have hv := ha.val _ _ hx
    unfold Ca.get at hv
    split at hv
    ·rename_i v BY
     rw [BY]
     subst hv
     exact Option.some.inj h
    cases hv
   ·rename_i x hx
    have hv := ha.val _ _ hx
    unfold Ca.get at hv
    split at hv
    ·rename_i v BY
     rw [BY]
     subst hv
     exact Option.some.inj h
    rename_i BY
    rw [BY]
    exact Option.some.inj h
   cases h
  cases h
 cases h
theorem MY {ops : List Oper} {i d : Nat} {o : Oper} {v : Value} {S' : St} (ho : nth ops i = some o) (hw : As ops L o = some true) (hd : o.dst = some d) (hn : Nat.blt d n = true)
  (hs : ∀ a, Has n a L → ∃ m, CF P (fns P K m) a.ev o.op S = some (.val v, S')) (h : RE P K n ops (i + 1) ((d, v) :: L) S' Q) : RE P K n ops i L S Q := by
 intro a ha
 obtain ⟨m, hs⟩ := hs a ha
 obtain ⟨a1, hp, Cc⟩ := ha.put hn v
 obtain ⟨m2, e, a', S2, L', h1, h2, h3⟩ := h a1 Cc
 refine ⟨max m m2, e, a', S2, L', ?_, h2, h3⟩
 rw [EU _ _ _ ho]
 unfold E1
 rw [E3 ha hw, Jr (EV (Nat.le_max_left m m2)) hs]
 simp only [cond_true, hd, hp]
 exact Qs (EV (Nat.le_max_right m m2)) _ h1
theorem bI {ops : List Oper} {i : Nat} {o : Oper} {v : Value} {S' : St} (ho : nth ops i = some o) (hw : As ops L o = some true) (hd : o.dst = none)
  (hs : ∀ a, Has n a L → ∃ m, CF P (fns P K m) a.ev o.op S = some (.val v, S')) (h : RE P K n ops (i + 1) L S' Q) : RE P K n ops i L S Q := by
 intro a ha
 obtain ⟨m, hs⟩ := hs a ha
 obtain ⟨m2, e, a', S2, L', h1, h2, h3⟩ := h a ha
 refine ⟨max m m2, e, a', S2, L', ?_, h2, h3⟩
 rw [EU _ _ _ ho]
 unfold E1
 rw [E3 ha hw, Jr (EV (Nat.le_max_left m m2)) hs]
 simp only [cond_true, hd, Ca.put]
 exact Qs (EV (Nat.le_max_right m m2)) _ h1
theorem ABa {ops : List Oper} {i d : Nat} {o : Oper} (ho : nth ops i = some o) (hw : As ops L o = some false) (hd : o.dst = some d) (hn : Nat.blt d n = true) (h : RE P K n ops (i + 1) ((d, undef) :: L) S Q) : RE P K n ops i L S Q := by
 intro a ha
 obtain ⟨a1, hp, Cc⟩ := ha.put hn undef
 obtain ⟨m2, e, a', S2, L', h1, h2, h3⟩ := h a1 Cc
 refine ⟨m2, e, a', S2, L', ?_, h2, h3⟩
 rw [EU _ _ _ ho]
 unfold E1
 rw [E3 ha hw]
 simp only [cond_false, hd, hp]
 exact h1
theorem BH {ops : List Oper} {i d : Nat} {b : Bool} (hl : look L d = some (.bool b)) (h1 : b = true → RE P K n ops i ((d, .bool true) :: L) S Q) (h2 : b = false → RE P K n ops i ((d, .bool false) :: L) S Q) : RE P K n ops i L S Q := by
 have sub : Af ((d, .bool b) :: L) L → True := fun _ => trivial
 cases b with
 | true =>
  intro a ha
  refine h1 rfl a ⟨ha.nn, ha.le, ha.df, fun k v hk => ?_⟩
  rw [LO] at hk
  split at hk
  ·rename_i e; cases hk; rw [e]; exact ha.val _ _ hl
  exact ha.val _ _ hk
 | false =>
  intro a ha
  refine h2 rfl a ⟨ha.nn, ha.le, ha.df, fun k v hk => ?_⟩
  rw [LO] at hk
  split at hk
  ·rename_i e; cases hk; rw [e]; exact ha.val _ _ hl
  exact ha.val _ _ hk
def found (L : Env) (op : Op) : Bool := op.operands.toList.all fun x => (Ae L x).isSome
theorem bJ {ops : List Oper} {i : Nat} {o : Oper} {t : TypeId} {x y : Operand} {u v : Value} {S' : St} (ho : nth ops i = some o) (AH : o.op = .store t x y) (hw : As ops L o = some true) (hd : o.dst = none) (hx : Ae L x = some u) (hy : Ae L y = some v)
  (hv : Gv P t u v S = some S') (h : RE P K n ops (i + 1) L S' Q) : RE P K n ops i L S Q :=
 bI (v := undef) ho hw hd (fun a ha => ⟨0, by rw [AH]; unfold CF; simp only [kindOf, JW]; rw [ha.ev hx, ha.ev hy, hv]⟩) h
def DE (L : Env) : List Operand → Option (List Value)
 | [] => some []
 | x :: r => match Ae L x, DE L r with
  | some v, some l => some (v :: l)
  | _, _ => none
theorem Ii {a : Ca} (ha : Has n a L) : ∀ {l : List Operand} {vs : List Value}, DE L l = some vs → l.map a.ev = vs
 | [], vs, h => by cases h; rfl
 | x :: r, vs, h => by
  unfold DE at h
  split at h
  ·rename_i v l h1 h2
   cases h
   rw [List.map_cons, ha.ev h1, Ii ha h2]
  cases h
theorem Kf {ops : List Oper} {i d : Nat} {o : Oper} {b : Builtin} {as : Array Operand} {ts : Array TypeId} {vs : List Value} {v : Value} {S' : St} (ho : nth ops i = some o) (AH : o.op = .call ⟨.builtin b, as, ts⟩) (hw : As ops L o = some true) (hd : o.dst = some d) (hn : Nat.blt d n = true)
  (hb : kindOf (.call ⟨.builtin b, as, ts⟩) = .Ed) (hx : DE L as.toList = some vs) (hv : Dj P b ts.toList vs S = some (v, S')) (h : RE P K n ops (i + 1) ((d, v) :: L) S' Q) : RE P K n ops i L S Q :=
 MY ho hw hd hn (fun a ha => ⟨0, by rw [AH]; unfold CF; rw [hb]; simp only [Ii ha hx, hv]⟩) h
theorem bH {ops : List Oper} {i d : Nat} {o : Oper} {s t : TypeId} {x : Operand} {u v : Value} {S' : St} (ho : nth ops i = some o) (AH : o.op = .convert s t x) (hw : As ops L o = some true) (hd : o.dst = some d) (hn : Nat.blt d n = true)
  (hx : Ae L x = some u) (hv : Uu P S s t u = some (v, S')) (h : RE P K n ops (i + 1) ((d, v) :: L) S' Q) : RE P K n ops i L S Q :=
 MY ho hw hd hn (fun a ha => ⟨0, by rw [AH]; unfold CF; simp only [kindOf, JW, ha.ev hx, hv]⟩) h
theorem ABY {ops : List Oper} {i d : Nat} {o : Oper} {t : TypeId} {x y : Operand} {u w v : Value} {S' : St} (ho : nth ops i = some o) (AH : o.op = .makeSlice t x y) (hw : As ops L o = some true) (hd : o.dst = some d) (hn : Nat.blt d n = true)
  (hx : Ae L x = some u) (hy : Ae L y = some w) (hv : QY P t u w S = some (v, S')) (h : RE P K n ops (i + 1) ((d, v) :: L) S' Q) : RE P K n ops i L S Q :=
 MY ho hw hd hn (fun a ha => ⟨0, by rw [AH]; unfold CF; simp only [kindOf, JW, ha.ev hx, ha.ev hy, hv]⟩) h
theorem Ct {ops : List Oper} {i d : Nat} {o : Oper} {x : Operand} {as : Array Operand} {ts : Array TypeId} {f : FuncId} {fi ca : Array Value} {vs : List Value} (ho : nth ops i = some o) (AH : o.op = .call ⟨.value x, as, ts⟩) (hw : As ops L o = some true)
  (hd : o.dst = some d) (hn : Nat.blt d n = true) (hx : Ae L x = some (.func (.func f) fi ca)) (hv : DE L as.toList = some vs)
  (h : CC P K f ((fi.toList ++ vs) ++ ca.toList) S fun v S' => RE P K n ops (i + 1) ((d, v) :: L) S' Q) : RE P K n ops i L S Q := by
 obtain ⟨m, v, S', h1, h2⟩ := h
 refine MY ho hw hd hn (fun a ha => ⟨m + 1, ?_⟩) h2
 rw [AH]
 unfold CF
 simp only [kindOf, Kw, ha.ev hx, Ii ha hv]
 have : (fns P K (m + 1)).call (.fn (.func f) ca) (fi.toList ++ vs) S = some (.returned v, S') := h1
 rw [this]
end
def Ka : Nat → List Value → Env
 | _, [] => []
 | k, v :: l => (k, v) :: Ka (k + 1) l
theorem lF : ∀ (l : List Value) (k i : Nat), look (Ka k l) i = if k ≤ i then l[i - k]? else none
 | [], k, i => by
  show none = _
  split <;> simp
 | v :: l, k, i => by
  rw [Ka, LO, lF l (k + 1) i]
  by_cases h : i = k
  ·subst h; simp
  rw [if_neg h]
  by_cases h2 : k ≤ i
  ·rw [if_pos h2, if_pos (by omega)]
   have : i - k = (i - (k + 1)) + 1 := by omega
   rw [this]; simp
  rw [if_neg h2, if_neg (by omega)]
theorem SF {n : Nat} (hn : n ≤ 256) {args : List Value} (hl : args.length ≤ n) : Has n { n := n, t := PT.ofList 0 (PT.nil 8) args, defers := [] } (Ka 0 args) := by
 refine ⟨rfl, hn, rfl, fun k v hk => ?_⟩
 rw [lF] at hk
 simp only [Nat.zero_le, if_true, Nat.sub_zero] at hk
 unfold Ca.get
 rw [PT.YL _ _ _ _ (by show 0 + args.length ≤ 256; omega)]
 have AJ := (List.getElem?_eq_some_iff.1 hk).1
 rw [if_pos ⟨Nat.zero_le _, by omega⟩, Nat.sub_zero, hk]
def Dy (P : Program) (L : Env) (S : St) : List ResultVar → Option (List Value)
 | [] => some []
 | .tmp x :: r => match look L x, Dy P L S r with
  | some v, some l => some (v :: l)
  | _, _ => none
 | .cell x e :: r => match look L x with
  | some p => match DJ P e p S, Dy P L S r with
   | some v, some l => some (v :: l)
   | _, _ => none
  | none => none
theorem Mc {n : Nat} {a : Ca} {L : Env} {S : St} (ha : Has n a L) : ∀ {rs : List ResultVar} {vs : List Value}, Dy P L S rs = some vs → Dq P a S rs = some vs
 | [], vs, h => h
 | .tmp x :: r, vs, h => by
  unfold Dy at h
  split at h
  ·rename_i v l h1 h2
   cases h
   unfold Dq
   rw [Mc ha h2, ha.val _ _ h1]
  cases h
 | .cell x e :: r, vs, h => by
  unfold Dy at h
  split at h
  ·rename_i p hp
   split at h
   ·rename_i v l h1 h2
    cases h
    unfold Dq
    rw [Mc ha h2, ha.val _ _ hp, h1]
   cases h
  cases h
def AN : List Value → Value
 | [v] => v
 | vs => .tuple vs.toArray
def Fm (P : Program) (rs : List ResultVar) (Q : Value → St → Prop) : Bi := fun e L S => match e with
 | .normal => ∃ vs, Dy P L S rs = some vs ∧ Q (AN vs) S
 | .ret => ∃ vs, Dy P L S rs = some vs ∧ Q (AN vs) S
 | _ => False
theorem UC : ∀ (vs : List Value) (S : St), (match some vs with
  | some [v] => some (Ending.returned v, S)
  | some vs => some (Ending.returned (.tuple vs.toArray), S)
  | none => none) = some (Ending.returned (AN vs), S)
 | [], _ => rfl
 | [_], _ => rfl
 | _ :: _ :: _, _ => rfl
theorem sY {f : FuncId} {fn : Func} {c : Code} {args : List Value} {S : St} {Q : Value → St → Prop} {n : Nat} (hf : P.funcs[f]? = some fn) (hb : fn.body = some c) (hk : K.call f args S = none) (hd : K.defers f = false) (Ez : (fn.name == "runtime.NumGoroutine") = false)
  (hn : DK fn.ntmps args.length = n) (EY : Nat.ble n 256 = true) (h : XE P K n none c (Ka 0 args) S (Fm P fn.results.toList Q)) : CC P K f args S Q := by
 have EY := Nat.le_of_ble_eq_true EY
 have hl : args.length ≤ n := by
  rw [← hn]
  unfold DK
  cases hb : Nat.ble fn.ntmps args.length with
  | true => exact Nat.le_refl _
  | false =>
   have : ¬ fn.ntmps ≤ args.length := fun e => by rw [Nat.ble_eq_true_of_le e] at hb; cases hb
   simp only [cond_false]
   omega
 obtain ⟨m, e, a', S', L', h1, h2, h3⟩ := h _ (SF EY hl)
 have L7 : Nat.blt 256 n = false := by
  rw [PT.FQ]; exact decide_eq_false (by omega)
 have key : ∀ e, (e = .normal ∨ e = .ret) → (fns P K m).exec none c { n := n, t := PT.ofList 0 (PT.nil 8) args, defers := [] } S = some (e, a', S') → ∀ vs, Dy P L' S' fn.results.toList = some vs → Et P K (fns P K m) f args S = some (.returned (AN vs), S') := by
  intro e he hx vs F1
  unfold Et
  rw [hk]
  simp only [hd, cond_false]
  unfold Lt
  rw [hf]
  simp only [hb, Ez, Bool.false_or, hn, L7, cond_false, hx]
  rcases he with rfl | rfl <;> (simp only [h2.df, Fj, Mc h2 F1]; exact UC vs S')
 cases e with
 | normal => obtain ⟨vs, k1, k2⟩ := h3; exact ⟨m, _, S', key _ (.inl rfl) h1 vs k1, k2⟩
 | ret => obtain ⟨vs, k1, k2⟩ := h3; exact ⟨m, _, S', key _ (.inr rfl) h1 vs k1, k2⟩
 | _ => exact h3.elim
theorem CK {rs : List ResultVar} {Q : Value → St → Prop} {L : Env} {S : St} {vs : List Value} (h : Dy P L S rs = some vs) (hq : Q (AN vs) S) : Fm P rs Q .ret L S := ⟨vs, h, hq⟩
theorem Gy {rs : List ResultVar} {Q : Value → St → Prop} {L : Env} {S : St} {vs : List Value} (h : Dy P L S rs = some vs) (hq : Q (AN vs) S) : Fm P rs Q .normal L S := ⟨vs, h, hq⟩
theorem Bp {f : FuncId} {args : List Value} {S : St} {Q Q' : Value → St → Prop} (h : CC P K f args S Q') (hq : ∀ v S', Q' v S' → Q v S') : CC P K f args S Q := by
 obtain ⟨m, v, S', h1, h2⟩ := h
 exact ⟨m, v, S', h1, hq _ _ h2⟩
def Ad (S : St) : Prop := ∀ b, S.size ≤ b → S.get b = none
structure AG (S S' : St) : Prop where
 le : S.size ≤ S'.size
 same : ∀ b, b < S.size → S'.get b = S.get b
 fr : Ad S → Ad S'
theorem AG.refl (S : St) : AG S S := ⟨Nat.le_refl _, fun _ _ => rfl, id⟩
theorem AG.trans {A B C : St} (h : AG A B) (k : AG B C) : AG A C := ⟨Nat.le_trans h.1 k.1, fun b hb => (k.2 b (Nat.lt_of_lt_of_le hb h.1)).trans (h.2 b hb), fun f => k.3 (h.3 f)⟩
theorem AG.new (S : St) (B : AD) : AG S (S.new B).2 := by
 refine ⟨Nat.le_succ _, fun b hb => ?_, fun f b hb => ?_⟩
 ·show (⟨S.heap.set S.size (some B), S.size + 1⟩ : St).get b = _
  simp only [St.get, Cf.HQ]
  rw [if_neg (Nat.ne_of_lt hb)]
 have BS : S.size + 1 ≤ b := hb
 show (⟨S.heap.set S.size (some B), S.size + 1⟩ : St).get b = _
 simp only [St.get, Cf.HQ]
 rw [if_neg (by omega)]
 exact f b (by omega)
theorem JQ (S : St) (B : AD) : (S.new B).2.get S.size = some B := by
 show (⟨S.heap.set S.size (some B), S.size + 1⟩ : St).get S.size = _
 simp only [St.get, Cf.HQ, if_true]
theorem np (S : St) (B : AD) : (S.new B).2.size = S.size + 1 := rfl
theorem AG.set {S T : St} (h : AG S T) {b : Nat} (hb : S.size ≤ b) (hT : b < T.size) (B : AD) : AG S (T.set b B) := by
 refine ⟨h.1, fun x hx => ?_, fun f x hx => ?_⟩
 ·rw [Ev, if_neg (by omega)]
  exact h.2 x hx
 have BZ : T.size ≤ x := hx
 rw [Ev, if_neg (by omega)]
 exact h.3 f x BZ
theorem AG.kill {S T : St} (h : AG S T) {l : List Nat} (hl : ∀ b ∈ l, S.size ≤ b) : AG S (T.kill l) := by
 refine ⟨by rw [Nd]; exact h.1, fun x hx => ?_, fun f x hx => ?_⟩
 ·rw [LN, if_neg (fun e => by have := hl x e; omega)]
  exact h.2 x hx
 rw [Nd] at hx
 rw [LN]
 split
 ·rfl
 exact h.3 f x hx
section
variable {n : Nat} {ro : Option Nat} {L : Env} {S : St} {Q : Bi} {ops : List Oper} {i d : Nat} {o : Oper}
def Rd (P : Program) (n : Nat) (L : Env) (S : St) (o : Oper) (v : Value) : Prop := kindOf o.op = .read ∧ ∀ a, Has n a L → Cl P a.ev o.op S = some v
theorem MX {v : Value} (ho : nth ops i = some o) (hw : As ops L o = some true) (hd : o.dst = some d) (hn : Nat.blt d n = true) (hr : Rd P n L S o v) (h : RE P K n ops (i + 1) ((d, v) :: L) S Q) : RE P K n ops i L S Q :=
 MY ho hw hd hn (fun a ha => ⟨0, by unfold CF; rw [hr.1]; simp only; rw [hr.2 a ha]⟩) h
theorem Tc {x : Operand} {v : Value} (AH : o.op = .move x) (hx : Ae L x = some v)
   : Rd P n L S o (v) :=
 ⟨by rw [AH]; rfl, fun a ha => by rw [AH]; show some (a.ev x) = _; rw [ha.ev hx]⟩
theorem mq {x : Operand} {v : Value} (AH : o.op = .assign x) (hx : Ae L x = some v)
   : Rd P n L S o (v) :=
 ⟨by rw [AH]; rfl, fun a ha => by rw [AH]; show some (a.ev x) = _; rw [ha.ev hx]⟩
theorem ABL {c x y : Operand} {v : Value} (AH : o.op = .pick c x y) (hc : Ae L c = some (.bool true)) (hx : Ae L x = some v)
   : Rd P n L S o (v) :=
 ⟨by rw [AH]; rfl, fun a ha => by rw [AH]; simp only [Cl, Hf, ha.ev hc, ha.ev hx, if_true]⟩
theorem ABK {c x y : Operand} {v : Value} (AH : o.op = .pick c x y) (hc : Ae L c = some (.bool false)) (hy : Ae L y = some v)
   : Rd P n L S o (v) :=
 ⟨by rw [AH]; rfl, fun a ha => by rw [AH]; simp only [Cl, Hf, ha.ev hc, ha.ev hy, Bool.false_eq_true, if_false]⟩
theorem Ff {op : BinOp} {t t' : TypeId} {x y : Operand} {u w v : Value} (AH : o.op = .binOp op t x y t') (hx : Ae L x = some u) (hy : Ae L y = some w)
  (hv : Fu P op t x y u w = some v)  : Rd P n L S o (v) :=
 ⟨by rw [AH]; rfl, fun a ha => by rw [AH]; simp only [Cl, Hf, ha.ev hx, ha.ev hy, hv]⟩
theorem BC {op : UnOp} {t : TypeId} {x : Operand} {u v : Value} (AH : o.op = .unOp op t x) (hx : Ae L x = some u)
  (hv : Wz op u = some v)  : Rd P n L S o (v) :=
 ⟨by rw [AH]; rfl, fun a ha => by rw [AH]; simp only [Cl, Hf, ha.ev hx, hv]⟩
theorem Ba {t : TypeId} {x : Operand} {u v : Value} (AH : o.op = .load t x) (hx : Ae L x = some u)
  (hv : DJ P t u S = some v)  : Rd P n L S o (v) :=
 ⟨by rw [AH]; rfl, fun a ha => by rw [AH]; simp only [Cl, ha.ev hx, hv]⟩
theorem ABI {t : TypeId} {x : Operand} {j : Nat} {u v : Value} (AH : o.op = .fieldAddr t x j) (hx : Ae L x = some u)
  (hv : K5 P t u j = some v)  : Rd P n L S o (v) :=
 ⟨by rw [AH]; rfl, fun a ha => by rw [AH]; simp only [Cl, Hf, ha.ev hx, hv]⟩
theorem Qm {t : TypeId} {x y : Operand} {u w v : Value} (AH : o.op = .indexAddr t x y) (hx : Ae L x = some u) (hy : Ae L y = some w)
  (hv : KT P t u w = some v)  : Rd P n L S o (v) :=
 ⟨by rw [AH]; rfl, fun a ha => by rw [AH]; simp only [Cl, Hf, ha.ev hx, ha.ev hy, hv]⟩
theorem Ql {t : TypeId} {x y : Operand} {u w v : Value} (AH : o.op = .index t x y) (hx : Ae L x = some u) (hy : Ae L y = some w)
  (hv : KU P t u w = some v)  : Rd P n L S o (v) :=
 ⟨by rw [AH]; rfl, fun a ha => by rw [AH]; simp only [Cl, Hf, ha.ev hx, ha.ev hy, hv]⟩
theorem bE {x : Operand} {j : Nat} {vs : Array Value} {v : Value} (AH : o.op = .extract x j) (hx : Ae L x = some (.tuple vs))
  (hv : nth vs.toList j = some v)  : Rd P n L S o (v) :=
 ⟨by rw [AH]; rfl, fun a ha => by rw [AH]; simp only [Cl, Hf, ha.ev hx, hv]⟩
theorem ABJ {x : Operand} {u v : Value} (AH : o.op = .nilCheck x) (hx : Ae L x = some u)
  (hv : Vx u = some v)  : Rd P n L S o (v) :=
 ⟨by rw [AH]; rfl, fun a ha => by rw [AH]; simp only [Cl, Hf, ha.ev hx, hv]⟩
theorem mr {x : Operand} {t : TypeId} {u v : Value} (AH : o.op = .call ⟨.builtin .len, #[x], #[t]⟩) (hx : Ae L x = some u)
  (hv : G' P t u S = some v)  : Rd P n L S o (v) :=
 ⟨by rw [AH]; rfl, fun a ha => by rw [AH]; show G' P t (a.ev x) S = _; rw [ha.ev hx, hv]⟩
def Rm (L : Env) : Option Operand → Option (Option Value)
 | none => some none
 | some x => match Ae L x with
  | some v => some (some v)
  | none => none
theorem X1 {a : Ca} (ha : Has n a L) {x : Option Operand} {v : Option Value} (h : Rm L x = some v) : x.map a.ev = v := by
 cases x with
 | none => cases h; rfl
 | some x =>
  unfold Rm at h
  simp only at h
  split at h
  ·rename_i v hv; cases h; simp [ha.ev hv]
  cases h
theorem LX {t : TypeId} {x : Operand} {lo hi mx : Option Operand} {u v : Value} {lv F0 mv : Option Value} (AH : o.op = .slice t x lo hi mx) (hx : Ae L x = some u)
  (h1 : Rm L lo = some lv) (h2 : Rm L hi = some F0) (h3 : Rm L mx = some mv) (hv : Fi P t u lv F0 mv S = some v)  : Rd P n L S o (v) :=
 ⟨by rw [AH]; rfl, fun a ha => by rw [AH]; simp only [Cl, ha.ev hx, X1 ha h1, X1 ha h2, X1 ha h3, hv]⟩
def H0 (L : Env) : List (Nat × Operand) → Option (List (Nat × Value))
 | [] => some []
 | (k, x) :: r => match Ae L x, H0 L r with
  | some v, some l => some ((k, v) :: l)
  | _, _ => none
theorem Uy {a : Ca} (ha : Has n a L) : ∀ {l : List (Nat × Operand)} {vs : List (Nat × Value)}, H0 L l = some vs → Kc a.ev l = vs
 | [], vs, h => by cases h; rfl
 | (k, x) :: r, vs, h => by
  unfold H0 at h
  split at h
  ·rename_i v l h1 h2
   cases h
   have := Uy ha h2
   unfold Kc at this ⊢
   rw [List.map_cons, ha.ev h1, this]
  cases h
theorem Ak {t : TypeId} {ps : Array (Nat × Operand)} {us : List (Nat × Value)} {v : Value} (AH : o.op = .build t ps) (hx : H0 L ps.toList = some us)
  (hv : Uj P t us = some v)  : Rd P n L S o (v) :=
 ⟨by rw [AH]; rfl, fun a ha => by rw [AH]; simp only [Cl, Hf, Uy ha hx, hv]⟩
theorem Fg {fn : FuncId} {x y : Array Operand} {us ws : List Value} (AH : o.op = .makeFunc (.func fn) x y) (hx : DE L x.toList = some us) (hy : DE L y.toList = some ws)
   : Rd P n L S o (.func (.func fn) ⟨us⟩ ⟨ws⟩) :=
 ⟨by rw [AH]; rfl, fun a ha => by rw [AH]; simp only [Cl, Hf, Ii ha hx, Ii ha hy]⟩
theorem mu {t : TypeId} {x y : Operand} {ok : Bool} {u w v : Value} (AH : o.op = .lookup t x y ok) (hx : Ae L x = some u) (hy : Ae L y = some w)
  (hv : Ji P t u w ok S = some v)  : Rd P n L S o (v) :=
 ⟨by rw [AH]; rfl, fun a ha => by rw [AH]; simp only [Cl, ha.ev hx, ha.ev hy, hv]⟩
theorem ABR {e : TypeId} {z : List Value} (ho : nth ops i = some o) (AH : o.op = .alloc e) (hw : As ops L o = some true) (hd : o.dst = some d) (hn : Nat.blt d n = true) (hz : zeroOf P e = some z)
  (h : RE P K n ops (i + 1) ((d, ptrTo S.size 0) :: L) (S.new (.cells z e false true [])).2 Q) : RE P K n ops i L S Q :=
 MY ho hw hd hn (fun a _ => ⟨0, by rw [AH]; unfold CF; simp only [kindOf, C1, hz]; rfl⟩) h
theorem ABU {e : TypeId} {x : Operand} {v : Value} (ho : nth ops i = some o) (AH : o.op = .box e x) (hw : As ops L o = some true) (hd : o.dst = some d) (hn : Nat.blt d n = true) (hx : Ae L x = some v)
  (h : RE P K n ops (i + 1) ((d, ptrTo S.size 0) :: L) (S.new (.cells (AP v) e false true [])).2 Q) : RE P K n ops i L S Q :=
 MY ho hw hd hn (fun a ha => ⟨0, by rw [AH]; unfold CF; simp only [kindOf, C1, ha.ev hx]; rfl⟩) h
theorem ABW {t elem : TypeId} {len : Nat} {ps : Array (Nat × Operand)} {us : List (Nat × Value)} {ei : TypeInfo} {z : Value} {c : List Value} (ho : nth ops i = some o) (AH : o.op = .buildSlice t len ps) (hw : As ops L o = some true) (hd : o.dst = some d) (hn : Nat.blt d n = true)
  (hu : P.underlying t = some (.slice elem)) (hi : P.info? elem = some ei) (hz : zeroV P elem = some z) (hle : len * ei.size ≤ 1000000) (QU : (AP z).length = ei.size) (hx : H0 L ps.toList = some us)
  (hc : JP (fun i => some (i * ei.size, ei.size)) (Dp len (AP z)) us = some c)
  (h : RE P K n ops (i + 1) ((d, .slice (some ⟨S.size, 0, none⟩) len len) :: L) (S.new (.cells c elem true true [])).2 Q) : RE P K n ops i L S Q :=
 MY ho hw hd hn (fun a ha => ⟨0, by rw [AH]; unfold CF; simp only [kindOf, C1, hu, hi, hz, Uy ha hx]; rw [if_pos ⟨hle, QU⟩]; simp only [hc]; rfl⟩) h
structure Cb where
 j : Nat
 op : Op
 v : Value
 L : Env
 fr : Option (Nat × List Value × TypeId × Bool)
def dp (n : Nat) (c : CZ) (e : Cb) : Prop := match e.fr with
 | none => ∃ a, Has n a e.L ∧ c = .read a e.op e.v
 | some (b, cs, t, r) => c = .cells b cs t r
def Ht (P : Program) (n : Nat) (S' : St) (e : Cb) : Prop := match e.fr with
 | none => (∀ a, Has n a e.L → Cl P a.ev e.op S' = some e.v) ∧ CO 100000 e.v e.v = true
 | some (b, cs, t, r) => S'.get b = some (.cells cs t r true []) ∧ GN 100000 cs cs = true
def UN (n : Nat) : List (Nat × CZ) → List Cb → Prop
 | [], [] => True
 | x :: l, e :: r => (x.1 = e.j ∧ dp n x.2 e) ∧ UN n l r
 | _, _ => False
def RP (P : Program) (K : A1) (n : Nat) (ops : List Oper) (AE : List Nat) (pl : List (Oper × Nat)) (k : Nat) (E : List Cb) (L : Env) (S : St) (Q : Bi) : Prop :=
 ∀ AX, UN n AX E → ∀ a, Has n a L → ∃ m e a' S' L', Ce P (fns P K m) ops AE (pl.drop k) AX a S = some (e, a', S') ∧ Has n a' L' ∧ Q e L' S'
section
variable {AE : List Nat} {pl : List (Oper × Nat)} {k j : Nat} {E : List Cb}
theorem WJ (hi : Nat.ble pl.length k = true) (h : Q .normal L S) : RP P K n ops AE pl k E L S Q := by
 intro AX _ a ha
 refine ⟨0, _, a, S, L, ?_, ha, h⟩
 rw [List.drop_eq_nil_of_le (Nat.le_of_ble_eq_true hi)]
 rfl
theorem Ej {b : Bool} (hl : look L d = some (.bool b)) (h1 : b = true → RP P K n ops AE pl k E ((d, .bool true) :: L) S Q) (h2 : b = false → RP P K n ops AE pl k E ((d, .bool false) :: L) S Q) : RP P K n ops AE pl k E L S Q := by
 cases b with
 | true =>
  intro AX hc a ha
  refine h1 rfl AX hc a ⟨ha.nn, ha.le, ha.df, fun k v hk => ?_⟩
  rw [LO] at hk
  split at hk
  ·rename_i e; cases hk; rw [e]; exact ha.val _ _ hl
  exact ha.val _ _ hk
 | false =>
  intro AX hc a ha
  refine h2 rfl AX hc a ⟨ha.nn, ha.le, ha.df, fun k v hk => ?_⟩
  rw [LO] at hk
  split at hk
  ·rename_i e; cases hk; rw [e]; exact ha.val _ _ hl
  exact ha.val _ _ hk
theorem AB9 (ho : nth pl k = some (o, j)) (hw : As ops L o = some false) (hd : o.dst = some d) (hn : Nat.blt d n = true) (h : RP P K n ops AE pl (k + 1) E ((d, undef) :: L) S Q) : RP P K n ops AE pl k E L S Q := by
 intro AX hc a ha
 obtain ⟨a1, hp, Cc⟩ := ha.put hn undef
 obtain ⟨m2, e, a', S2, L', h1, h2, h3⟩ := h AX hc a1 Cc
 refine ⟨m2, e, a', S2, L', ?_, h2, h3⟩
 rw [EU _ _ _ ho]
 unfold Ce
 rw [E3 ha hw]
 simp only [cond_false, hd, hp]
 exact h1
theorem AB' {v : Value} (ho : nth pl k = some (o, j)) (hw : As ops L o = some true) (hd : o.dst = some d) (hn : Nat.blt d n = true) (hl : looks o.op = false) (hr : Rd P n L S o v) (h : RP P K n ops AE pl (k + 1) E ((d, v) :: L) S Q) : RP P K n ops AE pl k E L S Q := by
 intro AX hc a ha
 obtain ⟨a1, hp, Cc⟩ := ha.put hn v
 obtain ⟨m2, e, a', S2, L', h1, h2, h3⟩ := h AX hc a1 Cc
 refine ⟨m2, e, a', S2, L', ?_, h2, h3⟩
 rw [EU _ _ _ ho]
 unfold Ce
 rw [E3 ha hw]
 simp only [cond_true, hr.1, hr.2 a ha, hd, hp, hl, cond_false]
 exact h1
theorem bV {v : Value} (ho : nth pl k = some (o, j)) (hw : As ops L o = some true) (hd : o.dst = some d) (hn : Nat.blt d n = true) (hl : looks o.op = true) (hr : Rd P n L S o v) (h : RP P K n ops AE pl (k + 1) (⟨j, o.op, v, L, none⟩ :: E) ((d, v) :: L) S Q) : RP P K n ops AE pl k E L S Q := by
 intro AX hc a ha
 obtain ⟨a1, hp, Cc⟩ := ha.put hn v
 obtain ⟨m2, e, a', S2, L', h1, h2, h3⟩ := h ((j, .read a o.op v) :: AX) ⟨⟨rfl, a, ha, rfl⟩, hc⟩ a1 Cc
 refine ⟨m2, e, a', S2, L', ?_, h2, h3⟩
 rw [EU _ _ _ ho]
 unfold Ce
 rw [E3 ha hw]
 simp only [cond_true, hr.1, hr.2 a ha, hd, hp, hl]
 exact h1
def E7 (P : Program) (n : Nat) (S' : St) (m : Nat) : List Cb → Prop
 | [] => True
 | e :: r => (m.testBit e.j = false → Ht P n S' e) ∧ E7 P n S' m r
def left (m : Nat) : List Cb → List Cb
 | [] => []
 | e :: r => bif m.testBit e.j then left m r else e :: left m r
theorem T7 {S' : St} {m : Nat} : ∀ {AX : List (Nat × CZ)} {E : List Cb}, UN n AX E → E7 P n S' m E → ((AX.filter fun x => !m.testBit x.1).all fun x => x.2.ok P S') = true ∧ UN n (AX.filter fun x => !m.testBit x.1) (left m E)
 | [], [], _, _ => ⟨rfl, trivial⟩
 | x :: l, e :: r, ⟨⟨h1, h2⟩, h3⟩, ⟨k1, k2⟩ => by
  obtain ⟨i1, i2⟩ := T7 h3 k2
  unfold left
  cases hb : m.testBit e.j with
  | true =>
   have hf : (x :: l).filter (fun x => !m.testBit x.1) = l.filter (fun x => !m.testBit x.1) := by
    rw [List.filter_cons, h1, hb]; rfl
   rw [hf]
   exact ⟨i1, i2⟩
  | false =>
   have hf : (x :: l).filter (fun x => !m.testBit x.1) = x :: l.filter (fun x => !m.testBit x.1) := by
    rw [List.filter_cons, h1, hb]; rfl
   rw [hf]
   have q := k1 hb
   refine ⟨?_, ⟨h1, h2⟩, i2⟩
   rw [List.all_cons, i1, Bool.and_true]
   unfold dp at h2
   unfold Ht at q
   cases hf : e.fr with
   | none =>
    rw [hf] at h2 q
    obtain ⟨a, ha, h2⟩ := h2
    obtain ⟨q1, q2⟩ := q
    rw [h2]
    simp only [CZ.ok, q1 a ha, q2]
   | some w =>
    obtain ⟨b, cs, t, r⟩ := w
    rw [hf] at h2 q
    simp only at h2 q
    rw [h2]
    simp only [CZ.ok, q.1, q.2, IJ, beq_self_eq_true, Bool.and_self]
 | [], _ :: _, h, _ => h.elim
 | _ :: _, [], h, _ => h.elim
theorem To {x : Operand} {as : Array Operand} {ts : Array TypeId} {f : FuncId} {fi ca : Array Value} {vs : List Value} (ho : nth pl k = some (o, j)) (AH : o.op = .call ⟨.value x, as, ts⟩) (hw : As ops L o = some true)
  (hd : o.dst = some d) (hn : Nat.blt d n = true) (hx : Ae L x = some (.func (.func f) fi ca)) (hv : DE L as.toList = some vs)
  (h : CC P K f ((fi.toList ++ vs) ++ ca.toList) S fun v S' => E7 P n S' ((nth AE j).getD 0) E ∧ RP P K n ops AE pl (k + 1) (left ((nth AE j).getD 0) E) ((d, v) :: L) S' Q) : RP P K n ops AE pl k E L S Q := by
 obtain ⟨m, v, S', h1, h2, h3⟩ := h
 intro AX hc a ha
 obtain ⟨a1, hp, Cc⟩ := ha.put hn v
 obtain ⟨s1, s2⟩ := T7 hc h2
 obtain ⟨m2, e, a', S2, L', k1, k2, k3⟩ := h3 _ s2 a1 Cc
 refine ⟨max (m + 1) m2, e, a', S2, L', ?_, k2, k3⟩
 rw [EU _ _ _ ho]
 unfold Ce
 have wS : kindOf o.op = .Ed := by rw [AH]; rfl
 have NZ : CF P (fns P K (m + 1)) a.ev o.op S = some (.val v, S') := by
  rw [AH]
  unfold CF
  simp only [kindOf, Kw, ha.ev hx, Ii ha hv]
  have : (fns P K (m + 1)).call (.fn (.func f) ca) (fi.toList ++ vs) S = some (.returned v, S') := h1
  rw [this]
 rw [E3 ha hw, wS, Jr (EV (Nat.le_max_left (m + 1) m2)) NZ]
 simp only [cond_true, hd, hp, s1]
 exact Me (EV (Nat.le_max_right (m + 1) m2)) _ k1
end
section
variable {AE : List Nat} {pl : List (Oper × Nat)} {k j : Nat} {E : List Cb}
theorem AB3 {e : TypeId} {z : List Value} (ho : nth pl k = some (o, j)) (AH : o.op = .alloc e) (hw : As ops L o = some true) (hd : o.dst = some d) (hn : Nat.blt d n = true) (hz : zeroOf P e = some z) (hf : S.get S.size = none)
  (h : RP P K n ops AE pl (k + 1) (⟨j, o.op, undef, L, some (S.size, z, e, false)⟩ :: E) ((d, ptrTo S.size 0) :: L) (S.new (.cells z e false true [])).2 Q) : RP P K n ops AE pl k E L S Q := by
 intro AX hc a ha
 obtain ⟨a1, hp, Cc⟩ := ha.put hn (ptrTo S.size 0)
 obtain ⟨m2, e2, a', S2, L', h1, h2, h3⟩ := h ((j, .cells S.size z e false) :: AX) ⟨⟨rfl, rfl⟩, hc⟩ a1 Cc
 refine ⟨m2, e2, a', S2, L', ?_, h2, h3⟩
 rw [EU _ _ _ ho]
 unfold Ce
 have hk : kindOf o.op = .fresh := by rw [AH]; rfl
 have Bq : C1 P a.ev o.op S = some (ptrTo S.size 0, (S.new (.cells z e false true [])).2) := by rw [AH]; simp only [C1, hz]; rfl
 have HY : J7 (S.new (.cells z e false true [])).2 S.size = some (.cells S.size z e false) := by unfold J7; rw [JQ]
 rw [E3 ha hw, hk, Bq]
 simp only [cond_true, hd, hp, HY, hf]
 exact h1
theorem nN {v : Value} {S' : St} (ho : nth pl k = some (o, j)) (hk : kindOf o.op = .Ed) (hw : As ops L o = some true) (hd : o.dst = none)
  (hs : ∀ a, Has n a L → ∃ m, CF P (fns P K m) a.ev o.op S = some (.val v, S')) (Ag : E7 P n S' ((nth AE j).getD 0) E) (h : RP P K n ops AE pl (k + 1) (left ((nth AE j).getD 0) E) L S' Q) : RP P K n ops AE pl k E L S Q := by
 intro AX hc a ha
 obtain ⟨m, hs⟩ := hs a ha
 obtain ⟨s1, s2⟩ := T7 hc Ag
 obtain ⟨m2, e, a', S2, L', k1, k2, k3⟩ := h _ s2 a ha
 refine ⟨max m m2, e, a', S2, L', ?_, k2, k3⟩
 rw [EU _ _ _ ho]
 unfold Ce
 rw [E3 ha hw, hk, Jr (EV (Nat.le_max_left m m2)) hs]
 simp only [cond_true, hd, Ca.put, s1]
 exact Me (EV (Nat.le_max_right m m2)) _ k1
theorem bU {v : Value} {S' : St} (ho : nth pl k = some (o, j)) (hk : kindOf o.op = .Ed) (hw : As ops L o = some true) (hd : o.dst = some d) (hn : Nat.blt d n = true)
  (hs : ∀ a, Has n a L → ∃ m, CF P (fns P K m) a.ev o.op S = some (.val v, S')) (Ag : E7 P n S' ((nth AE j).getD 0) E) (h : RP P K n ops AE pl (k + 1) (left ((nth AE j).getD 0) E) ((d, v) :: L) S' Q) : RP P K n ops AE pl k E L S Q := by
 intro AX hc a ha
 obtain ⟨m, hs⟩ := hs a ha
 obtain ⟨a1, hp, Cc⟩ := ha.put hn v
 obtain ⟨s1, s2⟩ := T7 hc Ag
 obtain ⟨m2, e, a', S2, L', k1, k2, k3⟩ := h _ s2 a1 Cc
 refine ⟨max m m2, e, a', S2, L', ?_, k2, k3⟩
 rw [EU _ _ _ ho]
 unfold Ce
 rw [E3 ha hw, hk, Jr (EV (Nat.le_max_left m m2)) hs]
 simp only [cond_true, hd, hp, s1]
 exact Me (EV (Nat.le_max_right m m2)) _ k1
theorem WK {v : Value} {c : List Value} {e : TypeId} {r : Bool} (ho : nth pl k = some (o, j)) (hk : kindOf o.op = .fresh) (hw : As ops L o = some true) (hd : o.dst = some d) (hn : Nat.blt d n = true)
  (Bq : ∀ a, Has n a L → C1 P a.ev o.op S = some (v, (S.new (.cells c e r true [])).2)) (hf : S.get S.size = none)
  (h : RP P K n ops AE pl (k + 1) (⟨j, o.op, undef, L, some (S.size, c, e, r)⟩ :: E) ((d, v) :: L) (S.new (.cells c e r true [])).2 Q) : RP P K n ops AE pl k E L S Q := by
 intro AX hc a ha
 obtain ⟨a1, hp, Cc⟩ := ha.put hn v
 obtain ⟨m2, e2, a', S2, L', h1, h2, h3⟩ := h ((j, .cells S.size c e r) :: AX) ⟨⟨rfl, rfl⟩, hc⟩ a1 Cc
 refine ⟨m2, e2, a', S2, L', ?_, h2, h3⟩
 rw [EU _ _ _ ho]
 unfold Ce
 have HY : J7 (S.new (.cells c e r true [])).2 S.size = some (.cells S.size c e r) := by unfold J7; rw [JQ]
 rw [E3 ha hw, hk, Bq a ha]
 simp only [cond_true, hd, hp, HY, hf]
 exact h1
theorem I9 {t : TypeId} {x y : Operand} {u v : Value} {S' : St} (ho : nth pl k = some (o, j)) (AH : o.op = .store t x y) (hw : As ops L o = some true) (hd : o.dst = none) (hx : Ae L x = some u) (hy : Ae L y = some v)
  (hv : Gv P t u v S = some S') (Ag : E7 P n S' ((nth AE j).getD 0) E) (h : RP P K n ops AE pl (k + 1) (left ((nth AE j).getD 0) E) L S' Q) : RP P K n ops AE pl k E L S Q :=
 nN (v := undef) ho (by rw [AH]; rfl) hw hd (fun a ha => ⟨0, by rw [AH]; unfold CF; simp only [kindOf, JW]; rw [ha.ev hx, ha.ev hy, hv]⟩) Ag h
end
def I4 (ops : List Oper) : List Nat → List (Oper × Nat)
 | [] => []
 | i :: r => match nth ops i with
  | some o => (o, i) :: I4 ops r
  | none => []
theorem AFK {id : Nat} {ops : Array Oper} {idx : List Nat} (hc : DZ P ops.toList = true) (hp : V8 ops.toList = some (Cy ops.toList [], I4 ops.toList idx)) (h : RP P K n ops.toList (Cy ops.toList []) (I4 ops.toList idx) 0 [] L S Q) :
  XE P K n ro (.region id ops true) L S Q := by
 intro a ha
 obtain ⟨m, e, a', S', L', h1, h2, h3⟩ := h [] trivial a ha
 refine ⟨m + 1, e, a', S', L', ?_, h2, h3⟩
 show Aq P (fns P K m) ro (.region id ops true) a S = _
 simp only [Aq, hc, cond_true, Nw, hp]
 exact h1
end
def pA : Code → Code
 | .seq a _ => a
 | .cond _ a _ => a
 | .block _ c => c
 | .loop c => c
 | .scope c => c
 | c => c
def pB : Code → Code
 | .seq _ b => b
 | .cond _ _ b => b
 | c => c
def pC : Code → Operand
 | .cond c _ _ => c
 | _ => .const undef
def pI : Code → Nat
 | .block i _ => i
 | .exit i => i
 | _ => 0
def pO : Code → List Oper
 | .region _ ops _ => ops.toList
 | _ => []
def pK : Code → Nat
 | .skip => 0
 | .region _ _ false => 1
 | .region _ _ true => 2
 | .seq _ _ => 3
 | .cond _ _ _ => 4
 | .block _ _ => 5
 | .loop _ => 6
 | .exit _ => 7
 | .scope _ => 8
 | .ret => 9
 | _ => 10
section
variable {n : Nat} {ro : Option Nat} {L : Env} {S : St} {Q : Bi} {c : Code}
theorem Fl (hk : pK c = 0) (h : Q .normal L S) : XE P K n ro c L S Q := by
 cases c <;> first | exact AFR h | (rename_i d; cases d <;> cases hk) | cases hk
theorem Mi (hk : pK c = 9) (h : Q .ret L S) : XE P K n ro c L S Q := by
 cases c <;> first | exact AFO h | (rename_i d; cases d <;> cases hk) | cases hk
theorem de (hk : pK c = 7) (h : Q (.exit (pI c)) L S) : XE P K n ro c L S Q := by
 cases c <;> first | exact AFL h | (rename_i d; cases d <;> cases hk) | cases hk
theorem AV (hk : pK c = 3) (h : XE P K n ro (pA c) L S (Mn P K n ro (pB c) Q)) : XE P K n ro c L S Q := by
 cases c <;> first | exact AFQ h | (rename_i d; cases d <;> cases hk) | cases hk
theorem dZ {b : Bool} (hk : pK c = 4) (hc : Ae L (pC c) = some (.bool b)) (h1 : b = true → XE P K n ro (pA c) L S Q) (h2 : b = false → XE P K n ro (pB c) L S Q) : XE P K n ro c L S Q := by
 cases c <;> first | exact AFJ hc h1 h2 | (rename_i d; cases d <;> cases hk) | cases hk
theorem AFT (hk : pK c = 4) (hc : Ae L (pC c) = some (.bool true)) (h : XE P K n ro (pA c) L S Q) : XE P K n ro c L S Q := dZ hk hc (fun _ => h) (fun e => by cases e)
theorem da (hk : pK c = 4) (hc : Ae L (pC c) = some (.bool false)) (h : XE P K n ro (pB c) L S Q) : XE P K n ro c L S Q := dZ hk hc (fun e => by cases e) (fun _ => h)
theorem BF (hk : pK c = 5) (h : XE P K n ro (pA c) L S (UM (pI c) Q)) : XE P K n ro c L S Q := by
 cases c <;> first | exact AFI h | (rename_i d; cases d <;> cases hk) | cases hk
theorem Au (hk : pK c = 6) (I : Nat → Env → St → Prop) (h : ∀ m L S, I m L S → XE P K n ro (pA c) L S (Round I m Q)) {m : Nat} (h0 : I m L S) : XE P K n ro c L S Q := by
 cases c <;> first | exact AFM I h h0 | (rename_i d; cases d <;> cases hk) | cases hk
theorem N1 (hk : pK c = 1) (hc : DZ P (pO c) = true) (h : RE P K n (pO c) 0 L S Q) : XE P K n ro c L S Q := by
 cases c <;> first | (rename_i d; cases d <;> first | exact AFN hc h | cases hk) | cases hk
theorem A4 {idx : List Nat} (hk : pK c = 2) (hc : DZ P (pO c) = true) (hp : V8 (pO c) = some (Cy (pO c) [], I4 (pO c) idx)) (h : RP P K n (pO c) (Cy (pO c) []) (I4 (pO c) idx) 0 [] L S Q) : XE P K n ro c L S Q := by
 cases c <;> first | (rename_i d; cases d <;> first | exact AFK hc hp h | cases hk) | cases hk
end
section
variable {S : St}
theorem tr {t : TypeId} {fs : Array Field} {f : Field} {j b o z : Nat} (hu : P.underlying t = some (.struct fs)) (hf : nth fs.toList j = some f) (hz : A0 P f.type = some (z + 1)) :
  K5 P t (.pointer (some ⟨b, o, none⟩)) j = some (ptrTo b (o + f.offset)) := by
 unfold K5
 simp only [hu, hf, hz]
theorem Jh {t : TypeId} {b o : Nat} {c : List Value} {e : TypeId} {row own : Bool} {kin : List Nat} {v : Value} (ha : Fo P t = some false) (hb : S.get b = some (.cells c e row own kin)) (hv : nth c o = some v) :
  DJ P t (.pointer (some ⟨b, o, none⟩)) S = some v := by
 unfold DJ
 simp only [hb, FL, ha, hv]
theorem KV {t : TypeId} {b o z : Nat} {c l : List Value} {e : TypeId} {row own : Bool} {kin : List Nat} (ha : Fo P t = some true) (hz : A0 P t = some z) (hb : S.get b = some (.cells c e row own kin)) (hv : takeN z (BW o c) = some l) :
  DJ P t (.pointer (some ⟨b, o, none⟩)) S = some (AM l) := by
 unfold DJ
 simp only [hb, FL, ha, hz, hv]
theorem yV {t e : TypeId} {b o len cap z : Nat} {k : IntKind} {i : Int} (hu : P.underlying t = some (.slice e)) (hz : A0 P e = some z) (hi : 0 ≤ i ∧ i < len) :
  KT P t (.slice (some ⟨b, o, none⟩) len cap) (.int k i) = some (ptrTo b (o + i.toNat * z)) := by
 unfold KT
 simp only [hu, hz]
 rw [if_pos hi]
theorem kU {t e : TypeId} {b o len z : Nat} {k : IntKind} {i : Int} (hu : P.underlying t = some (.array len e)) (hz : A0 P e = some z) (hi : 0 ≤ i ∧ i < len) :
  KT P t (.pointer (some ⟨b, o, none⟩)) (.int k i) = some (ptrTo b (o + i.toNat * z)) := by
 unfold KT
 simp only [hu, hz]
 rw [if_pos hi]
theorem kX {t : TypeId} {s : ByteArray} {k : IntKind} {i : Int} {c : UInt8} (hu : P.underlying t = some .string) (hi : 0 ≤ i) (hc : nth s.data.toList i.toNat = some c) : KU P t (.string s) (.int k i) = some (.int .u8 c.toNat) := by
 unfold KU
 simp only [hu]
 rw [if_pos hi]
 simp only [hc]
theorem kV {t e : TypeId} {cs : Array Value} {len z : Nat} {k : IntKind} {i : Int} {v : Value} (hu : P.underlying t = some (.array len e)) (hz : A0 P e = some z) (ha : Fo P e = some false) (hi : 0 ≤ i ∧ i < len) (hv : nth cs.toList (i.toNat * z) = some v) :
  KU P t (.agg cs) (.int k i) = some v := by
 unfold KU
 simp only [hu]
 rw [if_pos hi]
 simp only [hz, FL, ha, hv]
theorem zX {t e : TypeId} {a : Option Addr} {n c : Nat} (hu : P.underlying t = some (.slice e)) : G' P t (.slice a n c) S = some (.int .i64 n) := by
 unfold G'
 simp only [hu]
end
def Di (S : St) (b : Nat) (e : TypeId) (c : List Value) : Prop := b < S.size ∧ ∃ own kin, S.get b = some (.cells c e true own kin)
def RK (S S' : St) : Prop := S.size ≤ S'.size ∧ ∀ b e c, Di S b e c → Di S' b e c
theorem RK.refl (S : St) : RK S S := ⟨Nat.le_refl _, fun _ _ _ h => h⟩
theorem RK.trans {A B C : St} (h : RK A B) (k : RK B C) : RK A C := ⟨Nat.le_trans h.1 k.1, fun b e c hb => k.2 b e c (h.2 b e c hb)⟩
theorem AG.rk {S S' : St} (h : AG S S') : RK S S' := ⟨h.1, fun b e c ⟨hb, own, kin, hg⟩ => ⟨Nat.lt_of_lt_of_le hb h.1, own, kin, by rw [h.2 b hb]; exact hg⟩⟩
def LM : AD → Bool
 | .cells _ _ r _ _ => r
 | _ => false
theorem ABt {S : St} {b : Nat} {x y : AD} (hx : S.get b = some x) (hr : LM x = false) : RK S (S.set b y) := by
 refine ⟨Nat.le_refl _, fun j e c ⟨hj, own, kin, hg⟩ => ⟨hj, own, kin, ?_⟩⟩
 rw [Ev]
 by_cases h : j = b
 ·subst h
  rw [hx] at hg
  cases hg
  cases hr
 rw [if_neg h]; exact hg
theorem ABs {S : St} {b : Nat} {c : List Value} {e : TypeId} {o o' : Bool} {k k' : List Nat} (hx : S.get b = some (.cells c e true o k)) : RK S (S.set b (.cells c e true o' k')) := by
 refine ⟨Nat.le_refl _, fun j e2 d ⟨hj, own, kin, hg⟩ => ?_⟩
 by_cases h : j = b
 ·subst h
  rw [hx] at hg
  cases hg
  exact ⟨hj, _, _, by rw [Ev, if_pos rfl]⟩
 exact ⟨hj, _, _, by rw [Ev, if_neg h]; exact hg⟩
structure Gr where
 v : Value
 e : TypeId
 z : Nat
 c : List Value
 n : Nat
def AU (S0 S : St) (g : Gr) : Prop := (g.v = .slice none 0 0 ∧ g.c = [] ∧ g.n = 0) ∨
 ∃ b kin, g.v = .slice (some ⟨b, 0, none⟩) g.n g.n ∧ S0.size ≤ b ∧ b < S.size ∧ S.get b = some (.cells g.c g.e true true kin) ∧ g.c.length = g.n * g.z
theorem AU.AA {S0 S S' : St} {g : Gr} (h : AU S0 S g) (hk : AG S S') : AU S0 S' g := by
 rcases h with h | ⟨b, kin, h1, h2, h3, h4, h5⟩
 ·exact .inl h
 exact .inr ⟨b, kin, h1, h2, Nat.lt_of_lt_of_le h3 hk.1, (hk.2 b h3).trans h4, h5⟩
theorem AU.set {S0 S : St} {g : Gr} (h : AU S0 S g) {b : Nat} {x y : AD} (hx : S.get b = some x) (hr : LM x = false) : AU S0 (S.set b y) g := by
 rcases h with h | ⟨b2, kin, h1, h2, h3, h4, h5⟩
 ·exact .inl h
 refine .inr ⟨b2, kin, h1, h2, h3, ?_, h5⟩
 rw [Ev, if_neg]
 ·exact h4
 rintro rfl
 rw [hx] at h4
 cases h4
 cases hr
theorem AU.row {S0 S : St} {g : Gr} (h : AU S0 S g) : (g.v = .slice none 0 0 ∧ g.c = [] ∧ g.n = 0) ∨ ∃ b, g.v = .slice (some ⟨b, 0, none⟩) g.n g.n ∧ Di S b g.e g.c := by
 rcases h with h | ⟨b, kin, h1, h2, h3, h4, h5⟩
 ·exact .inl h
 exact .inr ⟨b, h1, h3, _, _, h4⟩
structure AB (S0 : St) (Ts : List St) (S : St) (l : List (Nat × AD)) (gs : List Gr) : Prop where
 AA : AG S0 S
 nd : (l.map (·.1)).Nodup
 at_ : ∀ b x, (b, x) ∈ l → S.get b = some x ∧ S0.size ≤ b ∧ b < S.size
 rk : ∀ T, T ∈ Ts → RK T S
 gr : ∀ g, g ∈ gs → AU S0 S g
abbrev Jv (S0 : St) (Ts : List St) (S : St) (l : List (Nat × AD)) : Prop := AB S0 Ts S l []
theorem Am {α : Type} : ∀ {l : List α} {k : Nat} {x : α}, nth l k = some x → x ∈ l
 | [], _, _, h => by cases h
 | y :: l, 0, x, h => by cases h; exact List.mem_cons_self ..
 | y :: l, k + 1, x, h => List.mem_cons_of_mem _ (Am (l := l) (k := k) h)
section
variable {S0 S : St} {Ts : List St} {l : List (Nat × AD)} {gs : List Gr}
theorem Jv.start (S : St) : Jv S [S] S [] := ⟨AG.refl S, List.nodup_nil, fun _ _ h => (List.not_mem_nil h).elim, fun T h => by rw [List.mem_singleton.1 h]; exact RK.refl _, fun _ h => (List.not_mem_nil h).elim⟩
theorem AB.get (h : AB S0 Ts S l gs) (k : Nat) {b : Nat} {x : AD} (hk : nth l k = some (b, x)) : S.get b = some x := (h.at_ b x (Am hk)).1
theorem AB.mark (h : AB S0 Ts S l gs) : AB S0 (S :: Ts) S l gs := ⟨h.AA, h.nd, h.at_, fun T ht => by
 rcases List.mem_cons.1 ht with rfl | ht
 ·exact RK.refl _
 exact h.rk T ht, h.gr⟩
theorem AB.since (h : AB S0 Ts S l gs) (k : Nat) {T : St} (hk : nth Ts k = some T) : RK T S := h.rk T (Am hk)
theorem AB.marks (h : AB S0 Ts S l gs) {Us : List St} (hu : ∀ T, T ∈ Us → T ∈ Ts) : AB S0 Us S l gs := ⟨h.AA, h.nd, h.at_, fun T ht => h.rk T (hu T ht), h.gr⟩
theorem AB.sub (h : AB S0 Ts S l gs) {l' : List (Nat × AD)} (hs : l'.Sublist l) : AB S0 Ts S l' gs := ⟨h.AA, (hs.map (·.1)).nodup h.nd, fun b x hx => h.at_ b x (hs.subset hx), h.rk, h.gr⟩
theorem AB.tail (h : AB S0 Ts S l gs) : AB S0 Ts S l.tail gs := h.sub (List.tail_sublist l)
theorem AB.new (h : AB S0 Ts S l gs) (x : AD) : AB S0 Ts (S.new x).2 ((S.size, x) :: l) gs := by
 refine ⟨h.AA.trans (AG.new S x), ?_, fun b y hy => ?_, fun T ht => (h.rk T ht).trans (AG.new S x).rk, fun g hg => (h.gr g hg).AA (AG.new S x)⟩
 ·rw [List.map_cons, List.nodup_cons]
  refine ⟨fun hm => ?_, h.nd⟩
  obtain ⟨⟨b, y⟩, hb, e⟩ := List.mem_map.1 hm
  have := (h.at_ b y hb).2.2
  simp only at e
  omega
 rcases List.mem_cons.1 hy with e | hy
 ·cases e
  exact ⟨JQ S x, h.AA.1, by rw [np]; omega⟩
 obtain ⟨h1, h2, h3⟩ := h.at_ b y hy
 exact ⟨by rw [(AG.new S x).2 b h3]; exact h1, h2, by rw [np]; omega⟩
theorem AB.call (h : AB S0 Ts S l gs) {S' : St} (hk : AG S S') : AB S0 Ts S' l gs :=
 ⟨h.AA.trans hk, h.nd, fun b x hx => by
  obtain ⟨h1, h2, h3⟩ := h.at_ b x hx
  exact ⟨by rw [hk.2 b h3]; exact h1, h2, Nat.lt_of_lt_of_le h3 hk.1⟩, fun T ht => (h.rk T ht).trans hk.rk, fun g hg => (h.gr g hg).AA hk⟩
theorem AB.add (h : AB S0 Ts S l gs) {S1 : St} {b : Nat} {x : AD} (hl : ∀ c y, (c, y) ∈ l → c < S1.size) (h0 : AG S0 S1) (hb : S1.size ≤ b) (hs : b < S.size) (hg : S.get b = some x) : AB S0 Ts S ((b, x) :: l) gs := by
 refine ⟨h.AA, ?_, fun c y hy => ?_, h.rk, h.gr⟩
 ·rw [List.map_cons, List.nodup_cons]
  refine ⟨fun hm => ?_, h.nd⟩
  obtain ⟨⟨c, y⟩, hc, e⟩ := List.mem_map.1 hm
  have := hl c y hc
  simp only at e
  omega
 rcases List.mem_cons.1 hy with e | hy
 ·cases e
  exact ⟨hg, Nat.le_trans h0.1 hb, hs⟩
 exact h.at_ c y hy
theorem AB.below (h : AB S0 Ts S l gs) : ∀ c y, (c, y) ∈ l → c < S.size := fun c y hc => (h.at_ c y hc).2.2
def Gt : Nat → AD → List (Nat × AD) → List (Nat × AD)
 | 0, y, (b, _) :: l => (b, y) :: l
 | k + 1, y, p :: l => p :: Gt k y l
 | _, _, [] => []
theorem au : ∀ (k : Nat) (y : AD) (l : List (Nat × AD)), (Gt k y l).map (·.1) = l.map (·.1)
 | 0, y, (b, _) :: l => rfl
 | k + 1, y, p :: l => by simp only [Gt, List.map_cons, au k y l]
 | 0, _, [] => rfl
 | _ + 1, _, [] => rfl
theorem a9 : ∀ {k : Nat} {y : AD} {l : List (Nat × AD)} {b : Nat} {x : AD}, nth l k = some (b, x) → (l.map (·.1)).Nodup → ∀ c z, (c, z) ∈ Gt k y l → (c = b ∧ z = y) ∨ (c ≠ b ∧ (c, z) ∈ l)
 | 0, y, (b0, x0) :: l, b, x, h, hn, c, z, hm => by
  obtain ⟨rfl, rfl⟩ := Prod.mk.inj (Option.some.inj (show some (b0, x0) = some (b, x) from h))
  rw [List.map_cons, List.nodup_cons] at hn
  rcases List.mem_cons.1 (show (c, z) ∈ (b0, y) :: l from hm) with e | h2
  ·cases e; exact .inl ⟨rfl, rfl⟩
  exact .inr ⟨fun e => hn.1 (List.mem_map.2 ⟨(c, z), h2, e⟩), List.mem_cons_of_mem _ h2⟩
 | k + 1, y, p :: l, b, x, h, hn, c, z, hm => by
  rw [List.map_cons, List.nodup_cons] at hn
  rcases List.mem_cons.1 hm with e | hm
  ·refine .inr ⟨fun e2 => hn.1 ?_, e ▸ List.mem_cons_self ..⟩
   rw [← e, e2]
   exact List.mem_map.2 ⟨_, Am (l := l) (k := k) h, rfl⟩
  rcases a9 (l := l) (k := k) h hn.2 c z hm with h | ⟨h1, h2⟩
  ·exact .inl h
  exact .inr ⟨h1, List.mem_cons_of_mem _ h2⟩
 | _, _, [], _, _, h, _, _, _, _ => by cases h
theorem AB.put (h : AB S0 Ts S l gs) {k b : Nat} {x : AD} (hk : nth l k = some (b, x)) (hr : LM x = false) (y : AD) : AB S0 Ts (S.set b y) (Gt k y l) gs := by
 have hm := h.at_ b x (Am hk)
 refine ⟨h.AA.set hm.2.1 hm.2.2 y, by rw [au]; exact h.nd, fun c z hz => ?_, fun T ht => (h.rk T ht).trans (ABt hm.1 hr), fun g hg => (h.gr g hg).set hm.1 hr⟩
 rcases a9 hk h.nd c z hz with ⟨rfl, rfl⟩ | ⟨AR, hz⟩
 ·exact ⟨by rw [Ev, if_pos rfl], hm.2.1, hm.2.2⟩
 obtain ⟨h1, h2, h3⟩ := h.at_ c z hz
 exact ⟨by rw [Ev, if_neg AR]; exact h1, h2, h3⟩
end
def Hk (P : Program) (t : TypeId) (v : Value) : Bool := match A0 P t with
 | some z => Nat.beq (AP v).length z && (AP v).all E' && Nat.blt 0 (AP v).length
 | none => false
section
variable {n : Nat} {ro : Option Nat} {L : Env} {S S0 : St} {Q : Bi} {ops : List Oper} {i d : Nat} {o : Oper} {Ts : List St} {l : List (Nat × AD)} {gs : List Gr}
theorem ABV (hl : AB S0 Ts S l gs) {e : TypeId} {x : Operand} {v : Value} (ho : nth ops i = some o) (AH : o.op = .box e x) (hw : As ops L o = some true) (hd : o.dst = some d) (hn : Nat.blt d n = true) (hx : Ae L x = some v)
  (h : ∀ B S', AB S0 Ts S' ((B, .cells (AP v) e false true []) :: l) gs → RE P K n ops (i + 1) ((d, ptrTo B 0) :: L) S' Q) : RE P K n ops i L S Q :=
 ABU ho AH hw hd hn hx (h _ _ (hl.new _))
theorem ABS (hl : AB S0 Ts S l gs) {e : TypeId} {z : List Value} (ho : nth ops i = some o) (AH : o.op = .alloc e) (hw : As ops L o = some true) (hd : o.dst = some d) (hn : Nat.blt d n = true) (hz : zeroOf P e = some z)
  (h : ∀ B S', AB S0 Ts S' ((B, .cells z e false true []) :: l) gs → RE P K n ops (i + 1) ((d, ptrTo B 0) :: L) S' Q) : RE P K n ops i L S Q :=
 ABR ho AH hw hd hn hz (h _ _ (hl.new _))
theorem c5 {t : TypeId} {b o : Nat} {v : Value} {c c' : List Value} {e : TypeId} (hz : Hk P t v = true)
  (hg : S.get b = some (.cells c e false true [])) (hs : BJ o (AP v) c = some c') : Gv P t (ptrTo b o) v S = some (S.set b (.cells c' e false true [])) := by
 unfold Hk at hz
 unfold Gv ptrTo
 split at hz
 ·rename_i z h1
  simp only [Bool.and_eq_true] at hz
  obtain ⟨⟨h2, h3⟩, h4⟩ := hz
  simp only [h1, h2, cond_true]
  unfold JE
  rw [hg]
  simp only [h3, h4, Bool.and_true, cond_true, hs]
  rfl
 cases hz
theorem Qo (hl : AB S0 Ts S l gs) (k : Nat) {t : TypeId} {x y : Operand} {v : Value} {b off : Nat} {c c' : List Value} {e : TypeId} (hk : nth l k = some (b, .cells c e false true [])) (ho : nth ops i = some o) (AH : o.op = .store t x y) (hw : As ops L o = some true) (hd : o.dst = none) (hx : Ae L x = some (ptrTo b off)) (hy : Ae L y = some v)
  (hz : Hk P t v = true) (hs : BJ off (AP v) c = some c')
  (h : ∀ S', AB S0 Ts S' (Gt k (.cells c' e false true []) l) gs → RE P K n ops (i + 1) L S' Q) : RE P K n ops i L S Q :=
 bJ ho AH hw hd hx hy (c5 hz (hl.get k hk) hs) (h _ (hl.put hk rfl _))
theorem my (hl : AB S0 Ts S l gs) {R : Value → St → Prop} {x : Operand} {as : Array Operand} {ts : Array TypeId} {f : FuncId} {fi ca : Array Value} {vs : List Value} (ho : nth ops i = some o) (AH : o.op = .call ⟨.value x, as, ts⟩) (hw : As ops L o = some true)
  (hd : o.dst = some d) (hn : Nat.blt d n = true) (hx : Ae L x = some (.func (.func f) fi ca)) (hv : DE L as.toList = some vs)
  (hc : CC P K f ((fi.toList ++ vs) ++ ca.toList) S fun v S' => AG S S' ∧ R v S')
  (h : ∀ v S', AG S S' → R v S' → AB S0 Ts S' l gs → RE P K n ops (i + 1) ((d, v) :: L) S' Q) : RE P K n ops i L S Q :=
 Ct ho AH hw hd hn hx hv (Bp hc fun v S' ⟨h1, h2⟩ => h v S' h1 h2 (hl.call h1))
theorem PV {c : Code} (I : Env → St → Prop) (h : XE P K n ro c L S fun e L' S' => e = .normal ∧ I L' S') (hq : ∀ L' S', I L' S' → Q .normal L' S') : XE P K n ro c L S Q :=
 pE h fun e L' S' ⟨he, hi⟩ => by subst he; exact hq L' S' hi
section
variable {AE : List Nat} {pl : List (Oper × Nat)} {k j : Nat} {E : List Cb}
theorem AB7 (hl : AB S0 Ts S l gs) {R : Value → St → Prop} {x : Operand} {as : Array Operand} {ts : Array TypeId} {f : FuncId} {fi ca : Array Value} {vs : List Value} (ho : nth pl k = some (o, j)) (AH : o.op = .call ⟨.value x, as, ts⟩) (hw : As ops L o = some true)
  (hd : o.dst = some d) (hn : Nat.blt d n = true) (hx : Ae L x = some (.func (.func f) fi ca)) (hv : DE L as.toList = some vs)
  (hc : CC P K f ((fi.toList ++ vs) ++ ca.toList) S fun v S' => AG S S' ∧ R v S')
  (h : ∀ v S', AG S S' → R v S' → AB S0 Ts S' l gs → E7 P n S' ((nth AE j).getD 0) E ∧ RP P K n ops AE pl (k + 1) (left ((nth AE j).getD 0) E) ((d, v) :: L) S' Q) : RP P K n ops AE pl k E L S Q :=
 To ho AH hw hd hn hx hv (Bp hc fun v S' ⟨h1, h2⟩ => h v S' h1 h2 (hl.call h1))
end
end
def VK (P : Program) (t : TypeId) : Bool := match A0 P t with
 | some (_ + 1) => true
 | _ => false
theorem vK {t : TypeId} (h : VK P t = true) : ∃ z, A0 P t = some (z + 1) := by
 unfold VK at h
 split at h
 ·exact ⟨_, by assumption⟩
 cases h
theorem tq {t : TypeId} {fs : Array Field} {f : Field} {j b o : Nat} (hu : P.underlying t = some (.struct fs)) (hf : nth fs.toList j = some f) (hz : VK P f.type = true) :
  K5 P t (ptrTo b o) j = some (ptrTo b (o + f.offset)) := by
 obtain ⟨z, hz⟩ := vK hz
 exact tr hu hf hz
theorem D9 {L : Env} {S : St} {x : Tmp} {e : TypeId} {p v : Value} {r : List ResultVar} {l : List Value} (hx : look L x = some p) (hv : DJ P e p S = some v) (h : Dy P L S r = some l) : Dy P L S (.cell x e :: r) = some (v :: l) := by
 unfold Dy
 simp only [hx, hv, h]
theorem A7 {L : Env} {S : St} {x : Tmp} {v : Value} {r : List ResultVar} {l : List Value} (hx : look L x = some v) (h : Dy P L S r = some l) : Dy P L S (.tmp x :: r) = some (v :: l) := by
 unfold Dy
 simp only [hx, h]
theorem bl {a b : Bool} (h : a = b) : some (Value.bool a) = some (.bool b) := by rw [h]
theorem Cw {n : Nat} {ro : Option Nat} {y : Code} {L : Env} {S : St} {Q : Bi} (h : Q .ret L S) : Mn P K n ro y Q .ret L S := h
theorem CG {b : Nat} {L : Env} {S : St} {Q : Bi} (h : Q .ret L S) : UM b Q .ret L S := h
theorem GK {I : Nat → Env → St → Prop} {m : Nat} {L : Env} {S : St} {Q : Bi} (h : Q .ret L S) : Round I m Q .ret L S := h
theorem bT {S S' : St} (h : RK S S') {b : Nat} {e : TypeId} {c : List Value} (hr : Di S b e c) : Di S' b e c := h.2 b e c hr
theorem ze {S : St} {t : TypeId} {b o z : Nat} {e : TypeId} {c l : List Value} (ha : Fo P t = some true) (hz : A0 P t = some z) (hb : Di S b e c) (hv : takeN z (BW o c) = some l) : DJ P t (ptrTo b o) S = some (AM l) := by
 obtain ⟨_, own, kin, hg⟩ := hb
 exact KV ha hz hg hv
theorem lD {S : St} {t : TypeId} {b o : Nat} {e : TypeId} {c : List Value} {v : Value} (ha : Fo P t = some false) (hb : Di S b e c) (hv : nth c o = some v) : DJ P t (ptrTo b o) S = some v := by
 obtain ⟨_, own, kin, hg⟩ := hb
 exact Jh ha hg hv
def Er (S : St) (e : TypeId) (z : Nat) (v : Value) (C : List (List Value)) : Prop :=
 (C = [] ∧ (v = .slice none 0 0 ∨ ∃ b o k, v = .slice (some ⟨b, o, some k⟩) 0 0)) ∨
 ∃ b o cap cs, v = .slice (some ⟨b, o, none⟩) C.length cap ∧ C.length ≤ cap ∧ Di S b e cs ∧ ∀ k x, nth C k = some x → takeN z (BW (o + k * z) cs) = some x
theorem Er.move {S S' : St} (h : RK S S') {e : TypeId} {z : Nat} {v : Value} {C : List (List Value)} (hs : Er S e z v C) : Er S' e z v C := by
 rcases hs with hs | ⟨b, o, cap, cs, h1, h0, h2, h3⟩
 ·exact .inl hs
 exact .inr ⟨b, o, cap, cs, h1, h0, h.2 _ _ _ h2, h3⟩
theorem Er.is {S : St} {e : TypeId} {z : Nat} {v : Value} {C : List (List Value)} (h : Er S e z v C) : ∃ a cap, v = .slice a C.length cap := by
 rcases h with ⟨rfl, rfl | ⟨b, o, k, rfl⟩⟩ | ⟨b, o, cap, cs, rfl, _⟩ <;> exact ⟨_, _, rfl⟩
theorem Er.elem {S : St} {e : TypeId} {z : Nat} {a : Option Addr} {len cap : Nat} {C : List (List Value)} (h : Er S e z (.slice a len cap) C) {k : Nat} {x : List Value} (hk : nth C k = some x) :
  ∃ b o cs, a = some ⟨b, o, none⟩ ∧ len = C.length ∧ Di S b e cs ∧ takeN z (BW (o + k * z) cs) = some x := by
 rcases h with ⟨rfl, _⟩ | ⟨b, o, cap, cs, e, _, h2, h3⟩
 ·cases hk
 cases e
 exact ⟨b, o, cs, rfl, rfl, h2, h3 k x hk⟩
theorem mE {α : Type} : ∀ {l : List α} {n k : Nat} {x : α}, nth (l.take n) k = some x → nth l k = some x
 | [], n, k, x, h => by simpa using h
 | y :: l, 0, k, x, h => by cases h
 | y :: l, n + 1, 0, x, h => h
 | y :: l, n + 1, k + 1, x, h => mE (l := l) (n := n) (k := k) h
end Go.Cm
namespace Go.Cm
open Go
variable {P : Program}
theorem Rj {eq : TypeId → Value → Value → Option Bool} {xs ys : List Value} {f : Field} {fs : List Field} {x y : Value} {b r : Bool} (hn : (f.name == "_") = false)
  (hx : FL P f.type xs f.offset = some x) (hy : FL P f.type ys f.offset = some y) (he : eq f.type x y = some b) (hr : eqFields P eq xs ys fs = some r) : eqFields P eq xs ys (f :: fs) = some (b && r) := by
 unfold eqFields
 have Sa : ¬ f.name = "_" := by simpa using hn
 rw [if_neg Sa]
 simp only [hx, hy, he]
 cases b with
 | true => simpa using hr
 | false => rfl
theorem LS {t : TypeId} {cs : List Value} {o : Nat} {v : Value} (ha : Fo P t = some false) (hv : nth cs o = some v) : FL P t cs o = some v := by
 unfold FL
 simp only [ha, hv]
theorem eq_int {d : Nat} {t : TypeId} {k : IntKind} {a b : Int} (hu : P.underlying t = some (.int k)) : Ci P (d + 1) t (.int k a) (.int k b) = some (a == b) := by
 unfold Ci
 simp only [hu, if_true]
theorem gb {d : Nat} {t : TypeId} {fs : Array Field} {xs ys : List Value} {r : Bool} (hu : P.underlying t = some (.struct fs)) (hs : P.stoodInHeld t = false) (h : eqFields P (Ci P d) xs ys fs.toList = some r) :
  Ci P (d + 1) t (AM xs) (AM ys) = some r := by
 unfold Ci AM
 simp only [hu, hs, h]
 rfl
theorem rp {t : TypeId} {xo yo : Operand} {xs ys : List Value} {r : Bool} (hg : P.eqGuardType P.depth t = false) (h : Ci P EF t (AM xs) (AM ys) = some r) : Fu P .eql t xo yo (AM xs) (AM ys) = some (.bool r) := by
 unfold Fu AM
 simp only [M7, hg]
 have h' : Ci P EF t (.agg xs.toArray) (.agg ys.toArray) = some r := h
 rw [h']
 rfl
theorem rq {t : TypeId} {xo yo : Operand} {xs ys : List Value} {r : Bool} (hg : P.eqGuardType P.depth t = false) (h : Ci P EF t (AM xs) (AM ys) = some r) : Fu P .neq t xo yo (AM xs) (AM ys) = some (.bool (!r)) := by
 unfold Fu AM
 simp only [M7, hg]
 have h' : Ci P EF t (.agg xs.toArray) (.agg ys.toArray) = some r := h
 rw [h']
 rfl
def Atom (v : Value) : Prop := ∀ m, CO (m + 1) v v = true
theorem XY (k : IntKind) (a : Int) : Atom (.int k a) := fun m => by unfold CO; simp
theorem XW (b : Bool) : Atom (.bool b) := fun m => by unfold CO; simp
theorem nR : ∀ l : List UInt8, Kg l l = true
 | [] => rfl
 | a :: l => by unfold Kg; rw [IJ]; exact nR l
theorem Pe (s : ByteArray) : Atom (.string s) := fun m => by unfold CO; exact nR _
theorem Lh (a : Option Addr) (n c : Nat) : Atom (.slice a n c) := fun m => by unfold CO; simp
theorem bg : ∀ (l : List Value) (n : Nat), l.length < n → (∀ v, v ∈ l → Atom v) → GN n l l = true
 | [], n + 1, _, _ => by unfold GN; rfl
 | v :: l, n + 1, hn, h => by
  unfold GN
  simp only [List.length_cons] at hn
  rw [Bool.and_eq_true]
  refine ⟨?_, bg l n (by omega) fun x hx => h x (List.mem_cons_of_mem _ hx)⟩
  obtain ⟨m, rfl⟩ : ∃ m, n = m + 1 := ⟨n - 1, by omega⟩
  exact h v (List.mem_cons_self ..) m
theorem WS {l : List Value} (hn : Nat.blt l.length 90000 = true) (h : ∀ v, v ∈ l → Atom v) : CO 100000 (AM l) (AM l) = true := by
 have hn := HA hn
 show CO (99999 + 1) (.agg l.toArray) (.agg l.toArray) = true
 unfold CO
 exact bg l 99999 (by omega) h
theorem RS : ∀ v, v ∈ ([] : List Value) → Atom v := fun _ h => (List.not_mem_nil h).elim
theorem Hu {x : Value} {l : List Value} (hx : Atom x) (hl : ∀ v, v ∈ l → Atom v) : ∀ v, v ∈ x :: l → Atom v := fun v h => by
 rcases List.mem_cons.1 h with rfl | h
 ·exact hx
 exact hl v h
theorem WT {v : Value} (h : Atom v) : CO 100000 v v = true := h 99999
theorem AEU {e : Cb} {m : Nat} (h : m.testBit e.j = true) {X : Prop} : m.testBit e.j = false → X := fun k => by rw [h] at k; cases k
theorem HC {n : Nat} {e : Cb} {S' : St} {t : TypeId} {x : Operand} {u : Value} (AH : e.op = .load t x) (hx : Ae e.L x = some u) (hv : DJ P t u S' = some e.v) (hs : CO 100000 e.v e.v = true) (hf : e.fr = none) {X : Prop} : X → Ht P n S' e :=
 fun _ => by
 unfold Ht
 rw [hf]
 exact ⟨fun a ha => by rw [AH]; simp only [Cl, ha.ev hx, hv], hs⟩
theorem AET {n : Nat} {e : Cb} {S' : St} {b : Nat} {cs : List Value} {t : TypeId} {r : Bool} (hf : e.fr = some (b, cs, t, r)) (hg : S'.get b = some (.cells cs t r true [])) (hs : GN 100000 cs cs = true) {X : Prop} : X → Ht P n S' e := fun _ => by
 unfold Ht
 rw [hf]
 exact ⟨hg, hs⟩
def UJ (P : Program) (n : Nat) (S' : St) : List Cb → Prop
 | [] => True
 | e :: r => Ht P n S' e ∧ UJ P n S' r
theorem Wu {n : Nat} {S' : St} {m : Nat} : ∀ {E : List Cb}, UJ P n S' E → E7 P n S' m E
 | [], _ => trivial
 | _ :: _, h => ⟨fun _ => h.1, Wu h.2⟩
theorem RQ {n : Nat} {S' : St} {m : Nat} : ∀ {E : List Cb}, UJ P n S' E → UJ P n S' (left m E)
 | [], _ => trivial
 | e :: r, h => by
  unfold left
  cases m.testBit e.j with
  | true => exact RQ h.2
  | false => exact ⟨h.1, RQ h.2⟩
end Go.Cm
namespace Go.Cm
open Go
variable {P : Program} {K : A1}
theorem oe {α : Type} (l : List α) : takeN l.length l = some l := by
 rw [PL _ _ (Nat.le_refl _), List.take_length]
theorem uK {S : St} (f : Ad S) {b : Nat} (hb : b < S.size) (B : AD) : Ad (S.set b B) := fun x hx => by
 have BZ : S.size ≤ x := hx
 rw [Ev, if_neg (by omega)]
 exact f x BZ
def UK (S0 S S' : St) (e : TypeId) : Prop := S.size ≤ S'.size ∧ (∀ b, b < S.size → S'.get b = S.get b ∨
 ∃ c kin, S.get b = some (.cells c e true true kin) ∧ S0.size ≤ b ∧ S'.get b = some (.cells c e true false kin)) ∧ (Ad S → Ad S')
theorem qK {S0 S : St} {g : Gr} (h : AU S0 S g) (h0 : S0.size ≤ S.size) {n : Nat} {new : List Value} (hn : 0 < n) (hlen : new.length = n * g.z) (hc : new.all E' = true) (hz : KB P g.e g.z (g.n + n) = true) {base : Option Addr} {cap : Nat} (hv : g.v = .slice base g.n cap) :
  ∃ v' S', F9 P g.e base g.n cap n g.z new S = some (v', S') ∧ AU S0 S' ⟨v', g.e, g.z, g.c ++ new, g.n + n⟩ ∧ UK S0 S S' g.e := by
 rcases h with ⟨h1, h2, h3⟩ | ⟨b, kin, h1, h2, h3, h4, h5⟩
 ·rw [h1] at hv
  injection hv with e1 _ e3
  subst e1; subst e3
  refine ⟨.slice (some ⟨S.size, 0, none⟩) n n, (S.new (.cells new g.e true true [])).2, ?_, ?_, Nat.le_succ _, fun b hb => .inl ((AG.new S _).2 b hb), (AG.new S _).3⟩
  ·unfold F9 F9.OG
   have : Nat.ble (g.n + n) 0 = false := by
    rw [h3]
    cases hb : Nat.ble (0 + n) 0 with
    | false => rfl
    | true => have := Nat.le_of_ble_eq_true hb; omega
   rw [this, hz, hc]
   simp only [cond_false, Bool.and_self, cond_true]
   unfold OE
   rw [h3, IJ]
   rfl
  refine .inr ⟨S.size, [], ?_, h0, Nat.lt_succ_self _, ?_, ?_⟩
  ·simp only [h3, Nat.zero_add]
  ·simp only [h2, List.nil_append]; exact JQ _ _
  simp only [h2, List.nil_append, h3, Nat.zero_add]; exact hlen
 rw [h1] at hv
 cases hv
 refine ⟨.slice (some ⟨S.size, 0, none⟩) (g.n + n) (g.n + n), ((S.set b (.cells g.c g.e true false kin)).new (.cells (g.c ++ new) g.e true true (b :: kin))).2, ?_, ?_, Nat.le_succ _, fun j hj => ?_, fun f => (AG.new _ _).3 (uK f h3 _)⟩
 ·unfold F9 F9.OG
  have : Nat.ble (g.n + n) g.n = false := by
   cases hb : Nat.ble (g.n + n) g.n with
   | false => rfl
   | true => have := Nat.le_of_ble_eq_true hb; omega
  rw [this, hz, hc]
  simp only [cond_false, Bool.and_self, cond_true]
  unfold OE
  have ht : takeN (g.n * g.z) (BW 0 g.c) = some g.c := by
   show takeN (g.n * g.z) g.c = _
   rw [← h5]; exact oe _
  simp only [h4, ht, Nat.zero_add, h5, IJ, Bool.and_self, cond_true]
  rfl
 ·refine .inr ⟨S.size, b :: kin, rfl, h0, Nat.lt_succ_self _, JQ (S.set b (.cells g.c g.e true false kin)) _, ?_⟩
  simp only [List.length_append, h5, hlen, Nat.add_mul]
 rw [(AG.new (S.set b (.cells g.c g.e true false kin)) _).2 j hj, Ev]
 by_cases e : j = b
 ·subst e
  exact .inr ⟨g.c, kin, h4, h2, by rw [if_pos rfl]⟩
 exact .inl (by rw [if_neg e])
theorem UK.rk {S0 S S' : St} {e : TypeId} (h : UK S0 S S' e) : RK S S' := by
 refine ⟨h.1, fun b e2 c ⟨hb, own, kin, hg⟩ => ⟨Nat.lt_of_lt_of_le hb h.1, ?_⟩⟩
 rcases h.2.1 b hb with e1 | ⟨c2, zE, k1, _, k2⟩
 ·exact ⟨own, kin, e1.trans hg⟩
 rw [hg] at k1
 cases k1
 exact ⟨_, _, k2⟩
def Ny : Nat → Gr → List Gr → List Gr
 | _, _, [] => []
 | 0, g, _ :: l => g :: l
 | k + 1, g, x :: l => x :: Ny k g l
theorem nb : ∀ {k : Nat} {g h x : Gr} {l : List Gr}, nth l k = some g → x ∈ Ny k h l → (l.map (·.e)).Nodup → x = h ∨ (x ∈ l ∧ x.e ≠ g.e)
 | 0, g, h, x, y :: l, hk, hx, hn => by
  obtain rfl : y = g := Option.some.inj hk
  rw [List.map_cons, List.nodup_cons] at hn
  rcases List.mem_cons.1 (show x ∈ h :: l from hx) with e | hx
  ·exact .inl e
  exact .inr ⟨List.mem_cons_of_mem _ hx, fun e => hn.1 (e ▸ List.mem_map.2 ⟨x, hx, rfl⟩)⟩
 | k + 1, g, h, x, y :: l, hk, hx, hn => by
  rw [List.map_cons, List.nodup_cons] at hn
  rcases List.mem_cons.1 (show x ∈ y :: Ny k h l from hx) with e | hx
  ·refine .inr ⟨e ▸ List.mem_cons_self .., fun e2 => hn.1 ?_⟩
   rw [← e, e2]
   exact List.mem_map.2 ⟨g, Am (l := l) (k := k) hk, rfl⟩
  rcases nb (l := l) (k := k) hk hx hn.2 with e | ⟨h1, h2⟩
  ·exact .inl e
  exact .inr ⟨List.mem_cons_of_mem _ h1, h2⟩
 | _, _, _, _, [], hk, _, _ => by cases hk
theorem AB.qJ {S0 S S' : St} {Ts : List St} {l : List (Nat × AD)} {gs : List Gr} (hl : AB S0 Ts S l gs) {k : Nat} {g g' : Gr} (hk : nth gs k = some g) (hr : (l.all fun p => !LM p.2) = true) (hd : (gs.map (·.e)).Nodup)
  (ha : UK S0 S S' g.e) (hg : AU S0 S' g') : AB S0 Ts S' l (Ny k g' gs) := by
 refine ⟨⟨Nat.le_trans hl.AA.1 ha.1, fun b hb => ?_, fun f => ha.2.2 (hl.AA.3 f)⟩, hl.nd, fun b x hx => ?_, fun T ht => (hl.rk T ht).trans ha.rk, fun x hx => ?_⟩
 ·have BS := Nat.lt_of_lt_of_le hb hl.AA.1
  rcases ha.2.1 b BS with e | ⟨_, _, _, h2, _⟩
  ·exact e.trans (hl.AA.2 b hb)
  omega
 ·obtain ⟨h1, h2, h3⟩ := hl.at_ b x hx
  refine ⟨?_, h2, Nat.lt_of_lt_of_le h3 ha.1⟩
  rcases ha.2.1 b h3 with e | ⟨c, kin, k1, _, _⟩
  ·exact e.trans h1
  rw [h1] at k1
  cases k1
  have := List.all_eq_true.1 hr _ hx
  cases this
 rcases nb hk hx hd with rfl | ⟨h1, h2⟩
 ·exact hg
 rcases hl.gr x h1 with h | ⟨b, kin, k1, k2, k3, k4, k5⟩
 ·exact .inl h
 refine .inr ⟨b, kin, k1, k2, Nat.lt_of_lt_of_le k3 ha.1, ?_, k5⟩
 rcases ha.2.1 b k3 with e | ⟨c, zE, j1, _, _⟩
 ·exact e.trans k4
 rw [k4] at j1
 injection j1 with j1
 injection j1 with _ a2
 exact absurd a2 h2
def KA (P : Program) (e : TypeId) (z : Nat) : Bool := match P.info? e, zeroV P e with
 | some ei, some zv => Nat.ble ei.bytes 1024 && Nat.blt 0 ei.bytes && Nat.beq (AP zv).length z && Nat.blt 0 z
 | _, _ => false
theorem Rv {e : TypeId} {z need : Nat} (h : KA P e z = true) (hn : need ≤ AQ) : KB P e z need = true := by
 unfold KA at h
 unfold KB
 split at h
 ·rename_i ei zv h1 h2
  rw [h1, h2]
  simp only [Bool.and_eq_true] at h ⊢
  exact ⟨⟨⟨⟨h.1.1.1, h.1.1.2⟩, Nat.ble_eq_true_of_le hn⟩, h.1.2⟩, h.2⟩
 cases h
section
variable {n : Nat} {ro : Option Nat} {L : Env} {S S0 : St} {Q : Bi} {ops : List Oper} {i d : Nat} {o : Oper} {Ts : List St} {l : List (Nat × AD)} {gs : List Gr}
theorem AU.base {S0 S1 S : St} {g : Gr} (h : AU S1 S g) (h0 : S0.size ≤ S1.size) : AU S0 S g := by
 rcases h with h | ⟨b, kin, h1, h2, h⟩
 ·exact .inl h
 exact .inr ⟨b, kin, h1, Nat.le_trans h0 h2, h⟩
theorem AB.EP (hl : AB S0 Ts S l gs) {g : Gr} (hg : AU S0 S g) : AB S0 Ts S l (g :: gs) := ⟨hl.AA, hl.nd, hl.at_, hl.rk, fun x hx => by
 rcases List.mem_cons.1 hx with rfl | hx
 ·exact hg
 exact hl.gr x hx⟩
def J5 (P : Program) (elem : TypeId) (len : Nat) (us : List (Nat × Value)) : Option (List Value) := match P.info? elem with
 | some ei => match zeroV P elem with
  | some z => if len * ei.size ≤ 1000000 ∧ (AP z).length = ei.size then JP (fun i => some (i * ei.size, ei.size)) (Dp len (AP z)) us else none
  | none => none
 | none => none
theorem bF {t elem : TypeId} {len : Nat} {ps : Array (Nat × Operand)} {us : List (Nat × Value)} {c : List Value} (ho : nth ops i = some o) (AH : o.op = .buildSlice t len ps) (hw : As ops L o = some true) (hd : o.dst = some d) (hn : Nat.blt d n = true)
  (hu : P.underlying t = some (.slice elem)) (hx : H0 L ps.toList = some us) (hc : J5 P elem len us = some c)
  (h : RE P K n ops (i + 1) ((d, .slice (some ⟨S.size, 0, none⟩) len len) :: L) (S.new (.cells c elem true true [])).2 Q) : RE P K n ops i L S Q := by
 unfold J5 at hc
 split at hc
 ·rename_i ei hi
  split at hc
  ·rename_i z hz
   split at hc
   ·rename_i hle
    exact ABW ho AH hw hd hn hu hi hz hle.1 hle.2 hx hc h
   cases hc
  cases hc
 cases hc
theorem Qn (hl : AB S0 Ts S l gs) {t elem : TypeId} {len : Nat} {ps : Array (Nat × Operand)} {us : List (Nat × Value)} {c : List Value} (zz : Nat) (ho : nth ops i = some o) (AH : o.op = .buildSlice t len ps) (hw : As ops L o = some true) (hd : o.dst = some d) (hn : Nat.blt d n = true)
  (hu : P.underlying t = some (.slice elem)) (hx : H0 L ps.toList = some us) (hc : J5 P elem len us = some c) (Cd : c.length = len * zz)
  (h : ∀ v S', AB S0 Ts S' l (⟨v, elem, zz, c, len⟩ :: gs) → RE P K n ops (i + 1) ((d, v) :: L) S' Q) : RE P K n ops i L S Q :=
 bF ho AH hw hd hn hu hx hc (h _ _ (AB.EP (hl.call (AG.new S _)) (.inr ⟨S.size, [], rfl, hl.AA.1, Nat.lt_succ_self _, JQ _ _, Cd⟩)))
theorem WD (hl : AB S0 Ts S l gs) {t elem : TypeId} {len : Nat} {ps : Array (Nat × Operand)} {us : List (Nat × Value)} {c : List Value} (ho : nth ops i = some o) (AH : o.op = .buildSlice t len ps) (hw : As ops L o = some true) (hd : o.dst = some d) (hn : Nat.blt d n = true)
  (hu : P.underlying t = some (.slice elem)) (hx : H0 L ps.toList = some us) (hc : J5 P elem len us = some c)
  (h : ∀ B S', Di S' B elem c → AB S0 Ts S' l gs → RE P K n ops (i + 1) ((d, .slice (some ⟨B, 0, none⟩) len len) :: L) S' Q) : RE P K n ops i L S Q :=
 bF ho AH hw hd hn hu hx hc (h _ _ ⟨Nat.lt_succ_self _, _, _, JQ _ _⟩ (hl.call (AG.new S _)))
theorem eq_nil {t e : TypeId} {xo yo : Operand} {a : Option Addr} {m c : Nat} (hu : P.underlying t = some (.slice e)) : Fu P .eql t xo yo (.slice a m c) (.slice none 0 0) = some (.bool a.isNone) := by
 unfold Fu
 have : Ci P EF t (.slice a m c) (.slice none 0 0) = some a.isNone := by
  unfold EF Ci
  simp only [hu]
  cases a <;> rfl
 simp only [M7, this]
 rfl
theorem eh (hl : AB S0 Ts S l gs) {k : Nat} {g : Gr} (hk : nth gs k = some g) (hr : (l.all fun p => !LM p.2) = true) (hd : (gs.map (·.e)).Nodup) {ts : Array TypeId} {sT xT : TypeId} {xd : TypeDesc} {x : Value} {m : Nat} {new : List Value}
  (Bv : ts.toList = [sT, xT])
  (hu : P.underlying sT = some (.slice g.e)) (Ee : P.underlying xT = some xd) (hi : F3 xd = false) (hlen : Gp x = some m) (hz : A0 P g.e = some g.z) (hs : El S g.z m x = some new)
  (CI : new.length = m * g.z) (hc : new.all E' = true) (GC : KA P g.e g.z = true) (Gg : g.n + m ≤ AQ) :
  ∃ v S', Dj P .append ts.toList [g.v, x] S = some (v, S') ∧ AB S0 Ts S' l (Ny k ⟨v, g.e, g.z, g.c ++ new, g.n + m⟩ gs) := by
 have NM := hl.gr g (Am hk)
 obtain ⟨base, cap, hv⟩ : ∃ base cap, g.v = .slice base g.n cap := by
  rcases NM with ⟨h1, _, h3⟩ | ⟨b, kin, h1, _⟩
  ·exact ⟨none, 0, by rw [h1, h3]⟩
  exact ⟨_, _, h1⟩
 rcases Nat.eq_zero_or_pos m with KL | hm
 ·subst KL
  have Bq : new = [] := List.length_eq_zero_iff.1 (by rw [CI, Nat.zero_mul])
  subst Bq
  have wG : (⟨g.v, g.e, g.z, g.c ++ [], g.n + 0⟩ : Gr) = g := by rw [List.append_nil, Nat.add_zero]
  have GF : ∀ {k : Nat} {l : List Gr}, nth l k = some g → Ny k g l = l := by
   intro k l
   induction l generalizing k with
   | nil => intro _; cases k <;> rfl
   | cons x l ih =>
    intro hk
    cases k with
    | zero => obtain rfl : x = g := Option.some.inj hk; rfl
    | succ k => exact congrArg (x :: ·) (ih hk)
  refine ⟨g.v, S, ?_, by rw [wG, GF hk]; exact hl⟩
  unfold Dj
  simp only
  have : E9 P ts.toList g.v x S = some (g.v, S) := by
   unfold E9
   rw [Bv]
   have SL : cap = g.n := by
    rcases NM with ⟨h1, _, h3⟩ | ⟨b, kin, h1, _⟩
    ·rw [h1] at hv; injection hv with _ _ e3; rw [← e3, h3]
    rw [h1] at hv; injection hv with _ _ e3; exact e3.symm
   simp only [hu, Ee, hlen, hv, hi, hz, hs, cond_false]
   unfold F9
   have hb : Nat.ble (g.n + 0) cap = true := by rw [SL]; exact Nat.ble_eq_true_of_le (Nat.le_refl _)
   rw [hb]
   simp only [cond_true]
   unfold OD
   rcases NM with ⟨h1, _, h3⟩ | ⟨b, kin, h1, _⟩
   ·rw [h1] at hv; injection hv with e1 _ _; subst e1; rfl
   rw [h1] at hv; injection hv with e1 _ _; subst e1; rfl
  rw [this]
 obtain ⟨v', S', h1, h2, h3⟩ := qK (P := P) NM hl.AA.1 hm CI hc (Rv GC Gg) hv
 refine ⟨v', S', ?_, hl.qJ hk hr hd h3 h2⟩
 unfold Dj
 simp only
 have : E9 P ts.toList g.v x S = some (v', S') := by
  unfold E9
  rw [Bv]
  simp only [hu, Ee, hlen, hv, hi, hz, hs, cond_false]
  exact h1
 rw [this]
theorem DX (hl : AB S0 Ts S l gs) (k : Nat) {g : Gr} (hk : nth gs k = some g) (hr : (l.all fun p => !LM p.2) = true) (hd : (gs.map (·.e)).Nodup) {as : Array Operand} {ts : Array TypeId} {sT xT : TypeId} {xd : TypeDesc} {x : Value} {m : Nat} {new : List Value}
  (ho : nth ops i = some o) (AH : o.op = .call ⟨.builtin .append, as, ts⟩) (hw : As ops L o = some true) (LB : o.dst = some d) (AJ : Nat.blt d n = true) (hx : DE L as.toList = some [g.v, x]) (Bv : ts.toList = [sT, xT])
  (hu : P.underlying sT = some (.slice g.e)) (Ee : P.underlying xT = some xd) (hi : F3 xd = false) (hlen : Gp x = some m) (hz : A0 P g.e = some g.z) (hs : El S g.z m x = some new)
  (CI : new.length = m * g.z) (hc : new.all E' = true) (GC : KA P g.e g.z = true) (Gg : g.n + m ≤ AQ)
  (h : ∀ v S', AB S0 Ts S' l (Ny k ⟨v, g.e, g.z, g.c ++ new, g.n + m⟩ gs) → RE P K n ops (i + 1) ((d, v) :: L) S' Q) : RE P K n ops i L S Q := by
 obtain ⟨v, S', h1, h2⟩ := eh hl hk hr hd Bv hu Ee hi hlen hz hs CI hc GC Gg
 exact Kf ho AH hw LB AJ rfl hx h1 (h v S' h2)
section
variable {AE : List Nat} {pl : List (Oper × Nat)} {q j : Nat} {E : List Cb}
theorem IM (hF : Ad S0) (hl : AB S0 Ts S l gs) {e : TypeId} {z : List Value} (ho : nth pl q = some (o, j)) (AH : o.op = .alloc e) (hw : As ops L o = some true) (hd : o.dst = some d) (hn : Nat.blt d n = true) (hz : zeroOf P e = some z)
  (h : ∀ B S', AB S0 Ts S' ((B, .cells z e false true []) :: l) gs → RP P K n ops AE pl (q + 1) (⟨j, o.op, undef, L, some (B, z, e, false)⟩ :: E) ((d, ptrTo B 0) :: L) S' Q) : RP P K n ops AE pl q E L S Q :=
 AB3 ho AH hw hd hn hz (hl.AA.3 hF _ (Nat.le_refl _)) (h _ _ (hl.new _))
theorem AB4 (hl : AB S0 Ts S l gs) (k : Nat) {g : Gr} (hk : nth gs k = some g) (hr : (l.all fun p => !LM p.2) = true) (hd : (gs.map (·.e)).Nodup) {as : Array Operand} {ts : Array TypeId} {sT xT : TypeId} {xd : TypeDesc} {x : Value} {m : Nat} {new : List Value}
  (ho : nth pl q = some (o, j)) (AH : o.op = .call ⟨.builtin .append, as, ts⟩) (hw : As ops L o = some true) (LB : o.dst = some d) (AJ : Nat.blt d n = true) (hx : DE L as.toList = some [g.v, x]) (Bv : ts.toList = [sT, xT])
  (hu : P.underlying sT = some (.slice g.e)) (Ee : P.underlying xT = some xd) (hi : F3 xd = false) (hlen : Gp x = some m) (hz : A0 P g.e = some g.z) (hs : El S g.z m x = some new)
  (CI : new.length = m * g.z) (hc : new.all E' = true) (GC : KA P g.e g.z = true) (Gg : g.n + m ≤ AQ)
  (h : ∀ v S', AB S0 Ts S' l (Ny k ⟨v, g.e, g.z, g.c ++ new, g.n + m⟩ gs) → E7 P n S' ((nth AE j).getD 0) E ∧ RP P K n ops AE pl (q + 1) (left ((nth AE j).getD 0) E) ((d, v) :: L) S' Q) : RP P K n ops AE pl q E L S Q := by
 obtain ⟨v, S', h1, h2⟩ := eh hl hk hr hd Bv hu Ee hi hlen hz hs CI hc GC Gg
 exact bU ho (by rw [AH]; rfl) hw LB AJ (fun a ha => ⟨0, by rw [AH]; unfold CF; simp only [kindOf, Ii ha hx, h1]⟩) (h v S' h2).1 (h v S' h2).2
theorem Xe {t elem : TypeId} {len : Nat} {ps : Array (Nat × Operand)} {us : List (Nat × Value)} {c : List Value} (AH : o.op = .buildSlice t len ps)
  (hu : P.underlying t = some (.slice elem)) (hx : H0 L ps.toList = some us) (hc : J5 P elem len us = some c) : ∀ a, Has n a L → C1 P a.ev o.op S = some (.slice (some ⟨S.size, 0, none⟩) len len, (S.new (.cells c elem true true [])).2) := by
 intro a ha
 unfold J5 at hc
 rw [AH]
 simp only [C1, hu, Uy ha hx]
 split at hc
 ·rename_i ei hi
  split at hc
  ·rename_i z hz
   split at hc
   ·rename_i hle
    rw [hi]; simp only [hz]; rw [if_pos hle, hc]; rfl
   cases hc
  cases hc
 cases hc
theorem PC (hF : Ad S0) (hl : AB S0 Ts S l gs) {t elem : TypeId} {len : Nat} {ps : Array (Nat × Operand)} {us : List (Nat × Value)} {c : List Value} (ho : nth pl q = some (o, j)) (AH : o.op = .buildSlice t len ps) (hw : As ops L o = some true) (hd : o.dst = some d) (hn : Nat.blt d n = true)
  (hu : P.underlying t = some (.slice elem)) (hx : H0 L ps.toList = some us) (hc : J5 P elem len us = some c)
  (h : ∀ B S', S'.get B = some (.cells c elem true true []) → Di S' B elem c → AB S0 Ts S' l gs → RP P K n ops AE pl (q + 1) (⟨j, o.op, undef, L, some (B, c, elem, true)⟩ :: E) ((d, .slice (some ⟨B, 0, none⟩) len len) :: L) S' Q) : RP P K n ops AE pl q E L S Q :=
 WK ho (by rw [AH]; rfl) hw hd hn (Xe AH hu hx hc) (hl.AA.3 hF _ (Nat.le_refl _)) (h _ _ (JQ _ _) ⟨Nat.lt_succ_self _, _, _, JQ _ _⟩ (hl.call (AG.new S _)))
theorem AB6 (hF : Ad S0) (hl : AB S0 Ts S l gs) {t elem : TypeId} {len : Nat} {ps : Array (Nat × Operand)} {us : List (Nat × Value)} {c : List Value} (zz : Nat) (ho : nth pl q = some (o, j)) (AH : o.op = .buildSlice t len ps) (hw : As ops L o = some true) (hd : o.dst = some d) (hn : Nat.blt d n = true)
  (hu : P.underlying t = some (.slice elem)) (hx : H0 L ps.toList = some us) (hc : J5 P elem len us = some c) (Cd : c.length = len * zz)
  (h : ∀ B v S', AB S0 Ts S' l (⟨v, elem, zz, c, len⟩ :: gs) → RP P K n ops AE pl (q + 1) (⟨j, o.op, undef, L, some (B, c, elem, true)⟩ :: E) ((d, v) :: L) S' Q) : RP P K n ops AE pl q E L S Q :=
 WK ho (by rw [AH]; rfl) hw hd hn (Xe AH hu hx hc) (hl.AA.3 hF _ (Nat.le_refl _)) (h _ _ _ (AB.EP (hl.call (AG.new S _)) (.inr ⟨S.size, [], rfl, hl.AA.1, Nat.lt_succ_self _, JQ _ _, Cd⟩)))
theorem WL (hl : AB S0 Ts S l gs) (k : Nat) {t : TypeId} {x y : Operand} {v : Value} {b off : Nat} {c c' : List Value} {e : TypeId} (hk : nth l k = some (b, .cells c e false true [])) (ho : nth pl q = some (o, j)) (AH : o.op = .store t x y) (hw : As ops L o = some true) (hd : o.dst = none) (hx : Ae L x = some (ptrTo b off)) (hy : Ae L y = some v)
  (hz : Hk P t v = true) (hs : BJ off (AP v) c = some c')
  (h : ∀ S', AB S0 Ts S' (Gt k (.cells c' e false true []) l) gs → E7 P n S' ((nth AE j).getD 0) E ∧ RP P K n ops AE pl (q + 1) (left ((nth AE j).getD 0) E) L S' Q) : RP P K n ops AE pl q E L S Q :=
 I9 ho AH hw hd hx hy (c5 hz (hl.get k hk) hs) (h _ (hl.put hk rfl _)).1 (h _ (hl.put hk rfl _)).2
end
end
theorem nq {z : Nat} : ∀ (C : List (List Value)) (l : List Value), (∀ k x, nth C k = some x → takeN z (l.drop (k * z)) = some x) → takeN (C.length * z) l = some C.flatten
 | [], l, _ => by simp [takeN]
 | x :: C, l, h => by
  have h0 := h 0 x rfl
  rw [Nat.zero_mul, List.drop_zero] at h0
  obtain ⟨hx, hle, yM⟩ := IS _ _ _ h0
  have ih := nq C (l.drop z) fun k y hy => by
   have := h (k + 1) y hy
   rw [List.drop_drop, show z + k * z = (k + 1) * z by rw [Nat.add_mul]; omega]
   exact this
  obtain ⟨h1, h2, h3⟩ := IS _ _ _ ih
  rw [List.length_cons, Nat.add_mul, Nat.one_mul]
  rw [List.length_drop] at h2
  rw [PL _ _ (by omega)]
  rw [List.flatten_cons, yM, h3, Nat.add_comm (C.length * z) z, List.take_add]
theorem Er.cells {S : St} {e : TypeId} {z : Nat} {a : Option Addr} {len cap : Nat} {C : List (List Value)} (h : Er S e z (.slice a len cap) C) : El S z len (.slice a len cap) = some C.flatten := by
 rcases h with ⟨rfl, e | ⟨b, o, k, e⟩⟩ | ⟨b, o, Pk, cs, e, _, ⟨_, own, kin, hg⟩, h3⟩
 ·cases e; rfl
 ·cases e; rfl
 cases e
 show Ns S b o (C.length * z) = _
 unfold Ns
 rw [hg]
 show takeN (C.length * z) (BW o cs) = _
 rw [HM]
 refine nq C _ fun k x hk => ?_
 have := h3 k x hk
 rw [HM] at this
 rw [List.drop_drop]
 exact this
theorem AU.sliceAt {S0 S : St} {g : Gr} {C : List (List Value)} (h : AU S0 S g) (hn : g.n = C.length) (hc : g.c = C.flatten) (hz : ∀ x, x ∈ C → x.length = g.z) : Er S g.e g.z g.v C := by
 rcases h with ⟨h1, _, h3⟩ | ⟨b, kin, h1, _, h3, h4, _⟩
 ·exact .inl ⟨List.length_eq_zero_iff.1 (hn ▸ h3), .inl h1⟩
 refine .inr ⟨b, 0, g.n, g.c, by rw [h1, hn], by omega, ⟨h3, _, _, h4⟩, fun k x hk => ?_⟩
 rw [Nat.zero_add, HM, hc]
 clear hn hc h1 h3 h4
 induction C generalizing k with
 | nil => cases hk
 | cons y C ih =>
  have hy := hz y (List.mem_cons_self ..)
  cases k with
  | zero =>
   obtain rfl : y = x := Option.some.inj hk
   rw [Nat.zero_mul, List.drop_zero, List.flatten_cons, PL _ _ (by rw [List.length_append]; omega), ← hy, List.take_left]
  | succ k =>
   rw [List.flatten_cons, Nat.add_mul, Nat.one_mul, Nat.add_comm (k * g.z) g.z, ← List.drop_drop, ← hy, List.drop_left, hy]
   exact ih (fun x hx => hz x (List.mem_cons_of_mem _ hx)) k hk
theorem ABu {S T : St} {b : Nat} (h : RK T S) (hb : T.size ≤ b) (y : AD) : RK T (S.set b y) := by
 refine ⟨h.1, fun j e c hj => ?_⟩
 obtain ⟨wN, own, kin, hg⟩ := h.2 j e c hj
 have := hj.1
 exact ⟨wN, own, kin, by rw [Ev, if_neg (by omega)]; exact hg⟩
section
variable {S0 S : St} {Ts : List St} {l : List (Nat × AD)} {gs : List Gr}
theorem AB.Qk (h : AB S0 Ts S l []) {k b : Nat} {x : AD} (hk : nth l k = some (b, x)) (hT : ∀ T, T ∈ Ts → T.size ≤ b) (y : AD) : AB S0 Ts (S.set b y) (Gt k y l) [] := by
 have hm := h.at_ b x (Am hk)
 refine ⟨h.AA.set hm.2.1 hm.2.2 y, by rw [au]; exact h.nd, fun c z hz => ?_, fun T ht => ABu (h.rk T ht) (hT T ht) y, fun g hg => (List.not_mem_nil hg).elim⟩
 rcases a9 hk h.nd c z hz with ⟨rfl, rfl⟩ | ⟨AR, hz⟩
 ·exact ⟨by rw [Ev, if_pos rfl], hm.2.1, hm.2.2⟩
 obtain ⟨h1, h2, h3⟩ := h.at_ c z hz
 exact ⟨by rw [Ev, if_neg AR]; exact h1, h2, h3⟩
theorem AB.old (h : AB S0 [S0] S l gs) {k b : Nat} {x : AD} (hk : nth l k = some (b, x)) : ∀ T, T ∈ [S0] → T.size ≤ b := fun T hT => by
 rw [List.mem_singleton.1 hT]
 exact (h.at_ b x (Am hk)).2.1
end
theorem c6 {S : St} {t : TypeId} {b o : Nat} {v : Value} {c c' : List Value} {e : TypeId} (hz : Hk P t v = true)
  (hg : S.get b = some (.cells c e true true [])) (hs : BJ o (AP v) c = some c') : Gv P t (ptrTo b o) v S = some (S.set b (.cells c' e true true [])) := by
 unfold Hk at hz
 unfold Gv ptrTo
 split at hz
 ·rename_i z h1
  simp only [Bool.and_eq_true] at hz
  obtain ⟨⟨h2, h3⟩, h4⟩ := hz
  simp only [h1, h2, cond_true]
  unfold JE
  rw [hg]
  simp only [h3, h4, Bool.and_true, cond_true, hs]
  rfl
 cases hz
section
variable {n : Nat} {ro : Option Nat} {L : Env} {S S0 : St} {Q : Bi} {ops : List Oper} {i d : Nat} {o : Oper} {Ts : List St} {l : List (Nat × AD)} {gs : List Gr}
theorem z6 {t e : TypeId} {ei : TypeInfo} {z : Value} {k1 k2 : IntKind} {m : Nat} (hu : P.underlying t = some (.slice e)) (hi : P.info? e = some ei) (hz : zeroV P e = some z) (hb : Nat.ble ei.bytes 1024 = true) (hs : (AP z).length = ei.size) (hm : m ≤ AQ) :
  QY P t (.int k1 m) (.int k2 m) S = some (LQ S (Dp m (AP z)) e m m) := by
 unfold QY
 simp only [hu, hi, hz]
 rw [if_pos ⟨by omega, by omega, by omega, Nat.le_of_ble_eq_true hb, hs⟩]
 rfl
theorem ABZ (hl : AB S0 Ts S l gs) {t e : TypeId} {x y : Operand} {ei : TypeInfo} {z : Value} {k1 k2 : IntKind} {i1 i2 : Int} {m : Nat} (ho : nth ops i = some o) (AH : o.op = .makeSlice t x y) (hw : As ops L o = some true) (hd : o.dst = some d) (hn : Nat.blt d n = true)
  (hx : Ae L x = some (.int k1 i1)) (hy : Ae L y = some (.int k2 i2)) (e1 : i1 = m) (e2 : i2 = m) (hu : P.underlying t = some (.slice e)) (hi : P.info? e = some ei) (hz : zeroV P e = some z) (hb : Nat.ble ei.bytes 1024 = true) (hs : (AP z).length = ei.size) (hm : m ≤ AQ)
  (h : ∀ B S', AB S0 Ts S' ((B, .cells (Dp m (AP z)) e true true []) :: l) gs → RE P K n ops (i + 1) ((d, .slice (some ⟨B, 0, none⟩) m m) :: L) S' Q) : RE P K n ops i L S Q := by
 subst e1; subst e2
 exact ABY ho AH hw hd hn hx hy (z6 hu hi hz hb hs hm) (h _ _ (hl.new _))
end
section
variable {κ : Type} [DecidableEq κ] (kc : κ → Value)
def JO : Nat → List (κ × Value) → List MapEntry
 | _, [] => []
 | c, (k, v) :: r => { key := kc k, val := v, born := c } :: JO (c + 1) r
def DP : List (κ × Value) → κ → Option (Nat × Value)
 | [], _ => none
 | (a, w) :: r, k => if k = a then some (0, w) else match DP r k with
  | some (j, v) => some (j + 1, v)
  | none => none
def HI (D : List (κ × Value)) (k : κ) : Option Value := match DP D k with
 | some (_, v) => some v
 | none => none
def Eh : List (κ × Value) → κ → Value → List (κ × Value)
 | [], k, v => [(k, v)]
 | (a, w) :: r, k, v => if k = a then (a, v) :: r else (a, w) :: Eh r k v
theorem Uc (D : List (κ × Value)) (k : κ) (v : Value) (k' : κ) : HI (Eh D k v) k' = if k' = k then some v else HI D k' := by
 induction D with
 | nil =>
  unfold Eh HI DP
  by_cases h : k' = k
  ·simp only [h, if_true]
  simp only [h, if_false, DP]
 | cons x D ih =>
  obtain ⟨a, w⟩ := x
  unfold Eh
  by_cases h : k = a
  ·subst h
   simp only [if_true]
   unfold HI DP
   by_cases h2 : k' = k
   ·simp only [h2, if_true]
   simp only [h2, if_false]
  simp only [if_neg h]
  have step : ∀ (r : List (κ × Value)), HI ((a, w) :: r) k' = if k' = a then some w else HI r k' := by
   intro r
   show (match (if k' = a then some (0, w) else match DP r k' with
    | some (j, v) => some (j + 1, v)
    | none => none) with
    | some (_, v) => some v
    | none => none) = if k' = a then some w else match DP r k' with
    | some (_, v) => some v
    | none => none
   by_cases h2 : k' = a
   ·rw [if_pos h2, if_pos h2]
   rw [if_neg h2, if_neg h2]
   cases DP r k' <;> rfl
  rw [step, step, ih]
  by_cases h2 : k' = a
  ·subst h2
   rw [if_pos rfl, if_neg (fun e => h e.symm), if_pos rfl]
  rw [if_neg h2, if_neg h2]
variable {kc}
theorem U0 {t : TypeId} (heq : ∀ a b, Ci P EF t (kc a) (kc b) = some (decide (a = b))) (k : κ) : ∀ (D : List (κ × Value)) (c i : Nat), Ij P t (kc k) (JO kc c D) i = some (match DP D k with
  | some (j, v) => some (i + j, v)
  | none => none)
 | [], c, i => rfl
 | (a, w) :: D, c, i => by
  unfold JO Ij
  simp only [heq]
  by_cases h : k = a
  ·simp only [h, decide_true, DP, if_true]; rfl
  simp only [h, decide_false, DP, if_false]
  rw [U0 heq k D (c + 1) (i + 1)]
  cases DP D k with
  | none => rfl
  | some x => simp only; rw [show i + 1 + x.1 = i + (x.1 + 1) by omega]
theorem gX (k : κ) : ∀ (D : List (κ × Value)) (c j : Nat) (w : Value), DP D k = some (j, w) → ∃ e, nth (JO kc c D) j = some e ∧ e.key = kc k
 | [], c, j, w, h => by cases h
 | (a, u) :: D, c, j, w, h => by
  unfold DP at h
  by_cases hk : k = a
  ·rw [if_pos hk] at h
   cases h
   exact ⟨_, rfl, by rw [hk]⟩
  rw [if_neg hk] at h
  split at h
  ·rename_i hp
   cases h
   exact gX k D (c + 1) _ _ hp
  cases h
theorem gY (k : κ) (v : Value) : ∀ (D : List (κ × Value)) (c j : Nat) (w : Value), DP D k = some (j, w) → Gu (JO kc c D) j (kc k) v = JO kc c (Eh D k v)
 | [], c, j, w, h => by cases h
 | (a, u) :: D, c, j, w, h => by
  unfold DP at h
  unfold Eh
  by_cases hk : k = a
  ·rw [if_pos hk] at h
   cases h
   rw [if_pos hk, hk]; rfl
  rw [if_neg hk] at h ⊢
  split at h
  ·rename_i hp
   cases h
   show _ :: Gu (JO kc (c + 1) D) _ (kc k) v = _
   rw [gY k v D (c + 1) _ _ hp]
   rfl
  cases h
theorem gW (k : κ) (v : Value) : ∀ (D : List (κ × Value)) (c : Nat), DP D k = none → JO kc c D ++ [{ key := kc k, val := v, born := c + D.length }] = JO kc c (Eh D k v)
 | [], c, _ => rfl
 | (a, u) :: D, c, h => by
  unfold DP at h
  unfold Eh
  by_cases hk : k = a
  ·rw [if_pos hk] at h; cases h
  rw [if_neg hk] at h ⊢
  split at h
  ·cases h
  rename_i hp
  have ih := gW k v D (c + 1) hp
  show _ :: (JO kc (c + 1) D ++ _) = _ :: JO kc (c + 1) (Eh D k v)
  rw [← ih, List.length_cons, show c + (D.length + 1) = c + 1 + D.length by omega]
theorem mg {k : κ} {v : Value} : ∀ {D : List (κ × Value)} {x : Nat × Value}, DP D k = some x → (Eh D k v).length = D.length
 | [], x, h => by cases h
 | (a, u) :: D, x, h => by
  unfold DP at h
  unfold Eh
  by_cases hk : k = a
  ·rw [if_pos hk]; rfl
  rw [if_neg hk] at h ⊢
  split at h
  ·rename_i hp
   rw [List.length_cons, mg hp, List.length_cons]
  cases h
theorem mf {k : κ} {v : Value} : ∀ {D : List (κ × Value)}, DP D k = none → (Eh D k v).length = D.length + 1
 | [], _ => rfl
 | (a, u) :: D, h => by
  unfold DP at h
  unfold Eh
  by_cases hk : k = a
  ·rw [if_pos hk] at h; cases h
  rw [if_neg hk] at h ⊢
  split at h
  ·cases h
  rename_i hp
  rw [List.length_cons, mf hp, List.length_cons]
def D7 (kc : κ → Value) (D : List (κ × Value)) : AD := .map (JO kc 0 D) D.length
theorem lL {S : St} {t kt et : TypeId} {r : Nat} {D : List (κ × Value)} {k : κ} {v : Value} (hu : P.underlying t = some (.map kt et)) (hg : S.get r = some (D7 kc D)) (heq : ∀ a b, Ci P EF kt (kc a) (kc b) = some (decide (a = b)))
  (A3 : G9 P 20 kt (kc k) = true) (Cr : plainKey 20 (kc k) = true) (Iw : CO 1000 (kc k) (kc k) = true) : Qa P t (.map (some r)) (kc k) v S = some (S.set r (D7 kc (Eh D k v))) := by
 unfold Qa
 simp only [hu, hg, D7]
 rw [if_pos (by rw [A3, Cr]; rfl), U0 heq]
 cases hp : DP D k with
 | none =>
  simp only
  rw [mf hp]
  have := gW (kc := kc) k v D 0 hp
  rw [Nat.zero_add] at this
  rw [this]
 | some x =>
  obtain ⟨j, w⟩ := x
  obtain ⟨e, h1, h2⟩ := gX (kc := kc) k D 0 j w hp
  simp only [Nat.zero_add, h1, h2, Iw, cond_true]
  rw [gY k v D 0 j w hp, mg hp]
theorem zk {S : St} {t kt et : TypeId} {r : Nat} {D : List (κ × Value)} {k : κ} {z : Value} (hu : P.underlying t = some (.map kt et)) (hg : S.get r = some (D7 kc D)) (heq : ∀ a b, Ci P EF kt (kc a) (kc b) = some (decide (a = b)))
  (A3 : G9 P 20 kt (kc k) = true) (hz : zeroV P et = some z) : Ji P t (.map (some r)) (kc k) false S = some ((HI D k).getD z) := by
 unfold Ji mapOf
 simp only [hu, hg, D7, A3, if_true]
 rw [U0 heq]
 unfold HI
 cases DP D k with
 | none => simp only [hz]; rfl
 | some x => rfl
end
section
variable {κ : Type} [DecidableEq κ] {kc : κ → Value}
variable {n : Nat} {ro : Option Nat} {L : Env} {S S0 : St} {Q : Bi} {ops : List Oper} {i d : Nat} {o : Oper} {Ts : List St} {l : List (Nat × AD)} {gs : List Gr}
omit [DecidableEq κ] in
theorem ABX (hl : AB S0 Ts S l gs) {t : TypeId} (kc : κ → Value) (ho : nth ops i = some o) (AH : o.op = .makeMap t none) (hw : As ops L o = some true) (hd : o.dst = some d) (hn : Nat.blt d n = true)
  (h : ∀ B S', AB S0 Ts S' ((B, D7 kc []) :: l) gs → RE P K n ops (i + 1) ((d, .map (some B)) :: L) S' Q) : RE P K n ops i L S Q :=
 MY ho hw hd hn (fun a _ => ⟨0, by rw [AH]; unfold CF; simp only [kindOf, C1]; rfl⟩) (h _ _ (hl.new _))
theorem m5 (hl : AB S0 Ts S l gs) (j : Nat) {t kt et : TypeId} {x y z : Operand} {M : Nat} {D : List (κ × Value)} {k : κ} {v : Value} (hk : nth l j = some (M, D7 kc D)) (ho : nth ops i = some o) (AH : o.op = .mapUpdate t x y z) (hw : As ops L o = some true) (hd : o.dst = none)
  (hx : Ae L x = some (.map (some M))) (hy : Ae L y = some (kc k)) (hz : Ae L z = some v) (hu : P.underlying t = some (.map kt et)) (heq : ∀ a b, Ci P EF kt (kc a) (kc b) = some (decide (a = b)))
  (A3 : G9 P 20 kt (kc k) = true) (Cr : plainKey 20 (kc k) = true) (Iw : CO 1000 (kc k) (kc k) = true)
  (h : ∀ S', AB S0 Ts S' (Gt j (D7 kc (Eh D k v)) l) gs → RE P K n ops (i + 1) L S' Q) : RE P K n ops i L S Q :=
 bI (v := undef) ho hw hd (fun a ha => ⟨0, by rw [AH]; unfold CF; simp only [kindOf, JW]; rw [ha.ev hx, ha.ev hy, ha.ev hz, lL hu (hl.get j hk) heq A3 Cr Iw]⟩) (h _ (hl.put hk rfl _))
end
end Go.Cm
namespace Go.Cm
open Go
variable {P : Program} {K : A1}
def HH (L1 L' : Env) : Prop := ∀ k v, look L1 k = some v → look L' k = some v
theorem AEb (L : Env) : HH L L := fun _ _ h => h
theorem AEc {L L' : Env} {k : Nat} {v : Value} (hk : look L k = none) (h : HH L L') : HH L ((k, v) :: L') := fun j u hj => by
 rw [LO]
 by_cases e : j = k
 ·subst e; rw [hk] at hj; cases hj
 rw [if_neg e]; exact h j u hj
theorem Has.T8 {n : Nat} {a : Ca} {L L' : Env} (h : Has n a L) (hs : HH L' L) : Has n a L' := ⟨h.nn, h.le, h.df, fun k v hk => h.val k v (hs k v hk)⟩
theorem Af.T8 {L' L : Env} (h : Af L' L) : HH L' L := h.look
section
variable {n : Nat} {ro : Option Nat} {L : Env} {S S0 : St} {Q : Bi} {Ts : List St} {l : List (Nat × AD)} {gs : List Gr}
theorem Bz (_ : AB S0 Ts S l gs) {c : Code} (d : Nat) (v : Value) (h : XE P K n ro c L S fun e L' S' => e = .normal ∧ look L' d = some v ∧ HH L L' ∧ AB S0 Ts S' l gs) (hn : look L d = none) (hq : ∀ S', AB S0 Ts S' l gs → Q .normal ((d, v) :: L) S') : XE P K n ro c L S Q := by
 intro a ha
 obtain ⟨m, e, a', S', L', h1, h2, h3, h4, h5, h6⟩ := h a ha
 subst h3
 refine ⟨m, _, a', S', (d, v) :: L, h1, h2.T8 fun k u hk => ?_, hq S' h6⟩
 rw [LO] at hk
 by_cases e : k = d
 ·subst e; rw [if_pos rfl] at hk; cases hk; exact h4
 rw [if_neg e] at hk; exact h5 k u hk
theorem W5 {c : Code} (d : Nat) (I : Value → St → Prop) (h : XE P K n ro c L S fun e L' S' => e = .normal ∧ ∃ v, look L' d = some v ∧ HH L L' ∧ I v S') (hq : ∀ v S', I v S' → Q .normal ((d, v) :: L) S') : XE P K n ro c L S Q := by
 intro a ha
 obtain ⟨m, e, a', S', L', h1, h2, h3, v, h4, h5, h6⟩ := h a ha
 subst h3
 refine ⟨m, _, a', S', (d, v) :: L, h1, h2.T8 fun k u hk => ?_, hq v S' h6⟩
 rw [LO] at hk
 by_cases e : k = d
 ·subst e; rw [if_pos rfl] at hk; cases hk; exact h4
 rw [if_neg e] at hk; exact h5 k u hk
theorem dY {c : Code} (I : St → Prop) (h : XE P K n ro c L S fun e L' S' => e = .normal ∧ HH L L' ∧ I S') (hq : ∀ S', I S' → Q .normal L S') : XE P K n ro c L S Q := by
 intro a ha
 obtain ⟨m, e, a', S', L', h1, h2, h3, h4, h5⟩ := h a ha
 subst h3
 exact ⟨m, _, a', S', L, h1, h2.T8 h4, hq S' h5⟩
def yg : Code → Bool
 | .label _ => true
 | _ => false
theorem dg {c : Code} (hk : yg c = true) (h : Q .normal L S) : XE P K n ro c L S Q := by
 cases c with
 | label l => exact fun a ha => ⟨1, _, a, S, L, rfl, ha, h⟩
 | _ => cases hk
def XK (Q : Bi) : Bi := fun e L S => match e with
 | .goto _ => False
 | e => Q e L S
theorem dh {c : Code} (hk : pK c = 8) (h : XE P K n ro (pA c) L S (XK Q)) : XE P K n ro c L S Q := by
 have key : ∀ d, XE P K n ro d L S (XK Q) → XE P K n ro (.scope d) L S Q := fun d hd => AFP (pE hd fun e L' S' hq => by
  cases e with
  | goto l => exact hq.elim
  | _ => exact ⟨fun l => (by intro h; cases h), hq⟩)
 cases c <;> first | exact key _ h | (rename_i d; cases d <;> cases hk) | cases hk
theorem WZ (h : Q .ret L S) : XK Q .ret L S := h
end
end Go.Cm
namespace Go.Cm
open Go
section
variable {S S0 : St} {Ts : List St} {l l' : List (Nat × AD)} {gs : List Gr}
theorem AB.perm (h : AB S0 Ts S l gs) (hp : l.Perm l') : AB S0 Ts S l' gs := ⟨h.AA, (hp.map _).nodup_iff.1 h.nd, fun b x hx => h.at_ b x (hp.mem_iff.2 hx), h.rk, h.gr⟩
end
end Go.Cm
namespace Go.Cm
open Go
variable {P : Program} {K : A1}
def lV (P : Program) (e : TypeId) (z : Value) : Bool := match P.info? e with
 | some ei => Nat.ble ei.bytes 1024 && Nat.beq (AP z).length ei.size
 | none => false
section
variable {n : Nat} {ro : Option Nat} {L : Env} {S S0 : St} {Q : Bi} {ops : List Oper} {i d : Nat} {o : Oper} {Ts : List St} {l : List (Nat × AD)} {gs : List Gr}
theorem mz (hl : AB S0 Ts S l gs) {t e : TypeId} {x y : Operand} {z : Value} {k1 k2 : IntKind} {i1 i2 : Int} {m : Nat} (ho : nth ops i = some o) (AH : o.op = .makeSlice t x y) (hw : As ops L o = some true) (hd : o.dst = some d) (hn : Nat.blt d n = true)
  (hx : Ae L x = some (.int k1 i1)) (hy : Ae L y = some (.int k2 i2)) (e1 : i1 = m) (e2 : i2 = m) (hu : P.underlying t = some (.slice e)) (hz : zeroV P e = some z) (hb : lV P e z = true) (hm : m ≤ AQ)
  (h : ∀ B S', AB S0 Ts S' ((B, .cells (Dp m (AP z)) e true true []) :: l) gs → RE P K n ops (i + 1) ((d, .slice (some ⟨B, 0, none⟩) m m) :: L) S' Q) : RE P K n ops i L S Q := by
 unfold lV at hb
 split at hb
 ·rename_i ei hi
  rw [Bool.and_eq_true] at hb
  exact ABZ hl ho AH hw hd hn hx hy e1 e2 hu hi hz hb.1 (BV hb.2) hm h
 cases hb
end
theorem nc {α : Type} (x y : α) (r : List α) : BJ 0 [y] (x :: r) = some (y :: r) := by
 cases r <;> simp [BJ]
theorem ACL {α : Type} (o : Nat) (x y : α) (r : List α) : BJ (o + 1) [y] (x :: r) = match BJ o [y] r with
  | some r => some (x :: r)
  | none => none := by simp only [BJ]; rfl
theorem Qd {α : Type} {x : α} {r : List α} : ∀ (l : List α), nth (l ++ x :: r) l.length = some x
 | [] => rfl
 | _ :: l => Qd l
end Go.Cm
