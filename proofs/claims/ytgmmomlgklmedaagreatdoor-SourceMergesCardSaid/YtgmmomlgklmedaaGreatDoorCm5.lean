/-
  The evaluator of the model, and that it is sound: part 5.
-/
import Derived.Lib.LaidTab
import Derived.RowKit3
import Derived.Test.YtgmmomlgklmedaaGreatDoorCm4
namespace Go.Cm
open Go
section
variable {P : Program}

theorem idxK_eq (n : Int) (len : Nat) (k : Nat → Res3) : idxK n len k = if 0 ≤ n ∧ n < len then k n.toNat else none := by
  cases n with
  | ofNat i =>
    show Bool.rec (motive := fun _ => Res3) none (k i) (Nat.blt i len) = _
    rw [PT.blt_iff]
    by_cases h : i < len
    · rw [decide_eq_true h, if_pos ⟨by show (0 : Int) ≤ (i : Int); omega, by show (i : Int) < _; omega⟩]; rfl
    · rw [decide_eq_false h, if_neg (fun e => h (by have : (i : Int) < _ := e.2; omega))]
  | negSucc i =>
    show none = _
    rw [if_neg (fun e => by have := e.1; omega)]

theorem indexAddrW_eq (ty : TypeId) (x i : Operand) : Eqv P (.indexAddr ty x i) (indexAddrW P ty x i) := by
  intro ih t S ok pan
  rw [useR_read rfl]
  have hno : ∀ (h : indexAddrV P ty (evT t x) (evT t i) = none), (noOp ih t S ok pan) = match readOp P (evT t) (.indexAddr ty x i) S with | some v => ok v S | none => none := by
    intro h; simp only [readOp, pureOp, h]; rfl
  unfold indexAddrW
  split
  · rename_i len elem hu
    split
    · rename_i n hn
      cases hx : evW x with | mk g =>
      cases hi : evW i with | mk h =>
      show indexArrF len n g h ih t S ok pan = _
      unfold indexArrF
      rw [evW_get hx, evW_get hi, with2_eq, asIntF_eq]
      simp only [readOp, pureOp, indexAddrV, hu]
      cases evT t i <;> try rfl
      rename_i k m
      simp only
      cases hv : evT t x
      case pointer a =>
        cases a with
        | none => rfl
        | some a =>
          obtain ⟨b, o, p⟩ := a
          cases p with
          | some p => rfl
          | none =>
            rw [ptr_some, idxK_eq]
            simp only [hn]
            by_cases hc : 0 ≤ m ∧ m < len
            · rw [if_pos hc, if_pos hc]; rfl
            · rw [if_neg hc, if_neg hc]
      all_goals rfl
    · rename_i hn
      refine hno ?_
      simp only [indexAddrV, hu]
      split
      · split
        · rename_i h1 _; cases h1; simp [hn]
        · rename_i h1 _; cases h1
        · rfl
      · rfl
  · rename_i elem hu
    split
    · rename_i n hn
      cases hx : evW x with | mk g =>
      cases hi : evW i with | mk h =>
      show indexSliceF n g h ih t S ok pan = _
      unfold indexSliceF
      rw [evW_get hx, evW_get hi, with2_eq, asIntF_eq]
      simp only [readOp, pureOp, indexAddrV, hu]
      cases evT t i <;> try rfl
      rename_i k m
      simp only [with3_eq, asSliceF_eq]
      cases hv : evT t x
      case slice a len cap =>
        cases a with
        | none => rfl
        | some a =>
          obtain ⟨b, o, p⟩ := a
          cases p with
          | some p => rfl
          | none =>
            simp only [sliceOf, idxK_eq, hn]
            by_cases hc : 0 ≤ m ∧ m < len
            · rw [if_pos hc, if_pos hc]; rfl
            · rw [if_neg hc, if_neg hc]
      all_goals rfl
    · rename_i hn
      refine hno ?_
      simp only [indexAddrV, hu]
      split
      · split
        · rename_i h1 _; cases h1
        · rename_i h1 _; cases h1; simp [hn]
        · rfl
      · rfl
  · rename_i h1 h2
    refine hno ?_
    unfold indexAddrV
    split
    · split
      · rename_i h3 _; exact absurd h3 (h1 _ _)
      · rename_i h3 _; exact absurd h3 (h2 _)
      · rfl
    · rfl

theorem notW_eq (ty : TypeId) (x : Operand) : Eqv P (.unOp .not ty x) (notW (evW x)) := by
  intro ih t S ok pan
  rw [useR_read rfl]
  cases hx : evW x with | mk g =>
  show notF g ih t S ok pan = _
  unfold notF
  rw [withO_eq, asBoolF_eq, evW_get hx]
  simp only [readOp, pureOp]
  cases evT t x <;> rfl

theorem extractW_eq (x : Operand) (i : Nat) : Eqv P (.extract x i) (extractW i (evW x)) := by
  intro ih t S ok pan
  rw [useR_read rfl]
  cases hx : evW x with | mk g =>
  show extractF i g ih t S ok pan = _
  unfold extractF
  rw [withO_eq, asTupF_eq, evW_get hx]
  simp only [readOp, pureOp]
  cases evT t x <;> try rfl
  simp only [withO_eq]
  cases nth _ i <;> rfl

theorem newF_eq (x : Blk) (S : St) (ok : OkK) : newF x S ok = ok (ptrTo S.size 0) ⟨S.heap.set S.size (some x), S.size + 1⟩ := by
  unfold newF
  have h : ∀ n, newAt S.heap x ok n = ok (ptrTo n 0) ⟨S.heap.set n (some x), n + 1⟩ := fun n => by
    unfold newAt; rw [hset_eq]
  cases hs : S.size with
  | zero => exact h 0
  | succ m => exact h (m + 1)

theorem allocW_eq (e : TypeId) : Eqv P (.alloc e) (allocW (zeroOf P e) e) := by
  intro ih t S ok pan
  rw [useR_new rfl]
  simp only [newOp]
  cases zeroOf P e with
  | none => rfl
  | some z =>
    show newF _ S ok = _
    rw [newF_eq]; rfl
theorem boxW_eq (e : TypeId) (x : Operand) : Eqv P (.box e x) (boxW e (evW x)) := by
  intro ih t S ok pan
  rw [useR_new rfl]
  cases hx : evW x with | mk g =>
  show boxF e g ih t S ok pan = _
  unfold boxF
  rw [newF_eq, cellsF_eq, evW_get hx]
  rfl

theorem withOmap {f : Option Value} {S : St} {ok : OkK} : (withO f fun v => ok v S) = match f with | some v => ok v S | none => none := by cases f <;> rfl
theorem mapE_eq (ρ : Operand → Value) (l : List (Nat × Operand)) : mapE ρ l = partsV ρ l := by
  induction l with
  | nil => rfl
  | cons x r ih => simp only [mapE, partsV, List.map_cons] at *; rw [ih]
theorem mapO_eq (ρ : Operand → Value) (l : List Operand) : mapO ρ l = l.map ρ := by
  induction l with
  | nil => rfl
  | cons x r ih => simp only [mapO, List.map_cons, ih]
theorem pureK_eq {op : Op} {f : (Operand → Value) → Option Value} (hk : kindOf op = .read) (h : ∀ ρ S, readOp P ρ op S = f ρ) : Eqv P op ⟨pureK f⟩ := by
  intro ih t S ok pan
  rw [useR_read hk, h]
  show (withO (f (evA t)) fun v => ok v S) = _
  rw [evA_eq, withOmap]
  cases f (evT t) <;> rfl
theorem readK_eq {op : Op} {f : (Operand → Value) → St → Option Value} (hk : kindOf op = .read) (h : ∀ ρ S, readOp P ρ op S = f ρ S) : Eqv P op ⟨readK f⟩ := by
  intro ih t S ok pan
  rw [useR_read hk, h]
  show (withO (f (evA t) S) fun v => ok v S) = _
  rw [evA_eq, withOmap]
  cases f (evT t) S <;> rfl
theorem newK_eq {op : Op} {f : (Operand → Value) → St → Option (Value × St)} (h : ∀ ih ρ S, stepOp P ih ρ op S = match f ρ S with | some (v, S') => some (.val v, S') | none => none) : Eqv P op ⟨newK f⟩ := by
  intro ih t S ok pan
  rw [h]
  show with2 (f (evA t) S) ok = _
  rw [evA_eq, with2_eq]
  cases f (evT t) S <;> rfl

theorem binW_eq (op : BinOp) (ty : TypeId) (x y : Operand) (yt : TypeId) : Eqv P (.binOp op ty x y yt) (binW P op ty x y yt) := by
  intro ih t S ok pan
  unfold binW
  cases hx : evW x with | mk g =>
  cases hy : evW y with | mk h =>
  have hg := evW_get hx t
  have hh := evW_get hy t
  cases hf : binFn op with
  | none => rfl
  | some f =>
    show binK1 f (slowF P (.binOp op ty x y yt) ih t S ok pan) S ok (asIntF (g t)) (asIntF (h t)) = _
    rw [hg, hh, asIntF_eq, asIntF_eq]
    have hslow : slowF P (.binOp op ty x y yt) ih t S ok pan = useR (stepOp P ih (evT t) (.binOp op ty x y yt) S) ok pan := rfl
    rw [← hslow]
    cases hvx : evT t x <;> try rfl
    rename_i k a
    cases hvy : evT t y <;> try rfl
    rename_i k' b
    show Bool.rec (motive := fun _ => Res3) none (ok (f k a b) S) (sameK k k') = _
    rw [hslow, useR_read rfl, sameK_eq]
    simp only [readOp, pureOp, hvx, hvy]
    by_cases hk : k = k'
    · subst hk
      rw [decide_eq_true rfl]
      show ok (f k a b) S = _
      cases op <;> simp only [binFn, reduceCtorEq, Option.some.injEq] at hf <;> subst hf <;>
        simp only [binV, if_true, intBin, addI, subI, mulI, eqlI, neqI, lssI, leqI, gtrI, geqI, wrapF_eq, eqI_eq, ltI_eq] <;> first
          | rfl
          | (congr 2; simp only [bne]; done)
          | (congr 2; rw [← decide_not]; exact decide_eq_decide.2 (by omega))
    · rw [decide_eq_false hk]
      show none = _
      cases op <;> simp only [binFn, reduceCtorEq] at hf <;> simp only [binV, if_neg hk]

theorem storeW_eq (ty : TypeId) (a x : Operand) : Eqv P (.store ty a x) (storeW (szOf P ty) (slowF P (.store ty a x)) (evW a) (evW x)) := by
  intro ih t S ok pan
  have hst : ∀ ρ, stepOp P ih ρ (.store ty a x) S = match storeV P ty (ρ a) (ρ x) S with | some S' => some (.val undef, S') | none => none := by
    intro ρ
    simp only [stepOp, kindOf, heavyOp]
    cases storeV P ty (ρ a) (ρ x) S <;> rfl
  cases hn : szOf P ty with
  | none =>
    rw [hst]
    have : storeV P ty (evT t a) (evT t x) S = none := by
      unfold storeV
      split
      · simp [hn]
      · rfl
    rw [this]
    rfl
  | some n =>
    cases ha : evW a with | mk g =>
    cases hx : evW x with | mk h =>
    show (with2 (asPtrF (g t)) fun b o => storeK n S b o (cellsF (h t)) (slowF P (.store ty a x) ih t S ok pan) ok) = _
    rw [evW_get ha, evW_get hx, cellsF_eq]
    by_cases hp : ∃ b o, evT t a = .pointer (some ⟨b, o, none⟩)
    · obtain ⟨b, o, hp⟩ := hp
      rw [hp, ptr_some]
      unfold storeK
      have hslow : slowF P (.store ty a x) ih t S ok pan = useR (stepOp P ih (evT t) (.store ty a x) S) ok pan := rfl
      cases hc : (Nat.beq (cellsL (evT t x)).length n && (cellsL (evT t x)).all cellV && Nat.blt 0 (cellsL (evT t x)).length) with
      | false =>
        show none = _
        rw [hst, hp]
        simp only [storeV, hn]
        cases hb : Nat.beq (cellsL (evT t x)).length n with
        | false => rfl
        | true =>
          rw [hb, Bool.true_and] at hc
          simp only [cond_true, writeCells]
          split
          · rename_i hx; split at hx
            · simp only [hc, cond_false] at hx; cases hx
            · cases hx
          · rfl
      | true =>
        show writeB S b o _ _ ok (hget S b) = _
        rw [hget_eq]
        simp only [Bool.and_eq_true] at hc
        have hc2 : ((cellsL (evT t x)).all cellV && Nat.blt 0 (cellsL (evT t x)).length) = true := by rw [hc.1.2, hc.2]; rfl
        unfold writeB
        split
        · rename_i c e row hb
          rw [hst, hp]
          simp only [storeV, hn, hc.1.1, cond_true, writeCells, hb, hc2, withO_eq]
          cases setN o (cellsL (evT t x)) c with
          | none => rfl
          | some c' =>
            simp only [hset_eq]
            rfl
        · exact hslow
    · have hne : ∀ b o, evT t a ≠ .pointer (some ⟨b, o, none⟩) := fun b o e => hp ⟨b, o, e⟩
      rw [ptr_none hne, hst]
      have : storeV P ty (evT t a) (evT t x) S = none := by
        unfold storeV
        split
        · rename_i b o he; exact absurd he (hne b o)
        · rfl
      rw [this]; rfl

theorem argsOf_eq (l : List Operand) (t : Tm) : argsOf (getsOf l) t = l.map (evT t) := by
  induction l with
  | nil => rfl
  | cons x r ih => simp only [getsOf, argsOf, List.map_cons, ih, evW_eq]

theorem endR_eq {r : Option (Ending × St)} {ok : OkK} {pan : PanK} : endR r ok pan = useR (match r with
    | some (.returned v, S') => some (OpR.val v, S')
    | some (.panicked ch, S') => some (.pan ch, S')
    | _ => none) ok pan := by
  cases r with
  | none => rfl
  | some x => obtain ⟨e, S⟩ := x; cases e <;> rfl

theorem callW_eq (c : Call) (hb : ∀ b, c.callee ≠ .builtin b) : Eqv P (.call c) (callW P c (.call c)) := by
  intro ih t S ok pan
  unfold callW
  split
  · rename_i f hc
    show endR (ih.call (.fn (.func f) #[]) (argsOf (getsOf c.args.toList) t) S) ok pan = _
    rw [endR_eq, argsOf_eq]
    obtain ⟨callee, args, ts⟩ := c
    simp only at hc
    subst hc
    rfl
  · rfl

theorem callW2_eq (c : Call) : Eqv P (.call c) (callW2 P c (.call c)) := by
  obtain ⟨callee, args, ts⟩ := c
  cases callee with
  | invoke r name => exact callW_eq _ (fun b => by simp)
  | value f => exact callW_eq _ (fun b => by simp)
  | builtin b =>
    show Eqv P _ (builtinW P b args.toList ts.toList (.call ⟨.builtin b, args, ts⟩))
    have hnew : kindOf (.call ⟨.builtin b, args, ts⟩) = .heavy → Eqv P (.call ⟨.builtin b, args, ts⟩) ⟨newK (builtinO P b ts.toList args.toList)⟩ := by
      intro hk
      refine newK_eq fun ih ρ S => ?_
      unfold stepOp
      rw [hk]
      simp only [builtinO, mapO_eq]
      cases builtinV P b ts.toList (List.map ρ args.toList) S <;> rfl
    cases b
    case len =>
      unfold builtinW
      split
      · rename_i x t rest _ ha ht
        refine readK_eq rfl fun ρ S => ?_
        simp only [readOp, ha, ht]
        rfl
      · exact slow_eq _
      · rename_i h1 h2; exact absurd rfl h1
    all_goals exact hnew rfl

theorem opW_eq (op : Op) : Eqv P op (opW P op) := by
  cases op
  case move x => intro ih t S ok pan; rw [useR_read rfl]; exact moveW_eq x ih t S ok pan
  case assign x => intro ih t S ok pan; rw [useR_read rfl]; exact moveW_eq x ih t S ok pan
  case pick c a b => exact pickW_eq c a b
  case load t x => exact loadW_eq t x
  case fieldAddr s x i => exact fieldAddrW_eq s x i
  case indexAddr t x i => exact indexAddrW_eq t x i
  case binOp o t x y yt => exact binW_eq o t x y yt
  case unOp o t x => cases o <;> first | exact notW_eq t x | exact slow_eq _
  case extract x i => exact extractW_eq x i
  case alloc e => exact allocW_eq e
  case box e x => exact boxW_eq e x
  case store t a x => exact storeW_eq t a x
  case build t parts => exact pureK_eq rfl (fun ρ S => by simp only [readOp, pureOp, buildO, mapE_eq])
  case nilCheck x => exact pureK_eq rfl (fun ρ S => rfl)
  case field t x i => exact pureK_eq rfl (fun ρ S => rfl)
  case index t x i => exact pureK_eq rfl (fun ρ S => rfl)
  case slice t x lo hi mx => exact readK_eq rfl (fun ρ S => rfl)
  case buildSlice t len parts => exact newK_eq (fun ih ρ S => rfl)
  case call c => exact callW2_eq c
  all_goals exact slow_eq _

end
end Go.Cm

namespace Go.Cm
open Go
section
variable {P : Program}

/-! ### regions in the order of the text -/
def putS (n : Nat) (t : Tm) (dst : Option Tmp) (v : Value) (k : Tm → Res3) : Res3 := match Ca.put ⟨n, t, []⟩ dst v with
  | some a' => k a'.t
  | none => none
theorem putS_eq (n : Nat) (t : Tm) (df : List Deferred) (dst : Option Tmp) (v : Value) (k : Ca → Res3) : (match Ca.put ⟨n, t, df⟩ dst v with
  | some a' => k a'
  | none => none) = putS n t dst v fun t' => k ⟨n, t', df⟩ := by
  unfold putS Ca.put
  cases dst with
  | none => rfl
  | some d =>
    simp only
    cases Nat.blt d n <;> rfl
theorem plainW_eq (dst : Option Tmp) (f : OpK) (ih : Fns) (n : Nat) (t : Tm) (S : St) (k : Tm → St → Res3) (pan : PanK) :
    (plainW dst f).run ih n t S k pan = f ih t S (fun v S' => putS n t dst v fun t' => k t' S') pan := by
  cases dst with
  | none => rfl
  | some d =>
    unfold plainW
    simp only
    cases hs : (setK 8 d : SW Value 8) with | mk s =>
    show f ih t S (putK s d n t k) pan = _
    congr 1
    funext v S'
    have h := setK_eq 8 d (some v) t
    rw [hs] at h
    simp only at h
    unfold putK putS Ca.put
    rw [h]
    simp only
    cases Nat.blt d n <;> rfl
theorem plainOp_eq (dst : Option Tmp) (w : OpW) : plainOp dst w = plainW dst w.run := by cases w; rfl
theorem guardW_eq (g : GW Value 8) (w : Bool) (y z : StepW) (ih : Fns) (n : Nat) (t : Tm) (S : St) (k : Tm → St → Res3) (pan : PanK) :
    (guardW g w y z).run ih n t S k pan = bif isB (g.f t) w then y.run ih n t S k pan else z.run ih n t S k pan := by
  cases g; cases y; cases z
  rename_i g y z
  show Bool.rec (motive := fun _ => Res3) (z ih n t S k pan) (y ih n t S k pan) (isB (g t) w) = _
  cases isB (g t) w <;> rfl

theorem stepW_eq (full : List Oper) (o : Oper) (ih : Fns) (n : Nat) (t : Tm) (df : List Deferred) (S : St) (k : Tm → St → Res3) (pan : PanK) :
    (stepW P full o).run ih n t S k pan = bif wantedC full ⟨n, t, df⟩ o then useR (stepOp P ih (evT t) o.op S) (fun v S' => putS n t o.dst v fun t' => k t' S') pan else putS n t o.dst undef fun t' => k t' S := by
  have hpl : (plainOp o.dst (opW P o.op)).run ih n t S k pan = useR (stepOp P ih (evT t) o.op S) (fun v S' => putS n t o.dst v fun t' => k t' S') pan := by
    rw [plainOp_eq, plainW_eq, opW_eq]
  have hun : (plainW o.dst undefF).run ih n t S k pan = putS n t o.dst undef fun t' => k t' S := by
    rw [plainW_eq]; rfl
  unfold stepW wantedC
  cases hg : o.guard with
  | none => exact hpl
  | some q =>
    obtain ⟨j, w⟩ := q
    simp only
    cases hj : nth full j with
    | none => exact hun
    | some oj =>
      simp only
      cases hd : oj.dst with
      | none => exact hun
      | some d =>
        simp only
        rw [guardW_eq, getK_eq, hpl, hun]
        rfl

theorem runC_eq (full : List Oper) (ih : Fns) (n : Nat) (df : List Deferred) : ∀ (l : List Oper) (t : Tm) (S : St), runC ih n df (compL P full l) t S = runOps P ih full l ⟨n, t, df⟩ S
  | [], t, S => rfl
  | o :: l, t, S => by
    have e1 : compL P full (o :: l) = stepW P full o :: compL P full l := rfl
    have e2 : ∀ (w : StepW) (r : List StepW), runC ih n df (w :: r) t S = w.run ih n t S (runC ih n df r) (panA n t df) := fun w r => by cases w; rfl
    rw [e1, e2, stepW_eq (df := df)]
    unfold runOps
    have hk : runC ih n df (compL P full l) = fun t S => runOps P ih full l ⟨n, t, df⟩ S := by funext t S; exact runC_eq full ih n df l t S
    rw [hk, ca_ev]
    cases wantedC full ⟨n, t, df⟩ o with
    | false =>
      simp only [cond_false]
      exact (putS_eq n t df o.dst undef (fun a => runOps P ih full l a S)).symm
    | true =>
      simp only [cond_true]
      cases stepOp P ih (evT t) o.op S with
      | none => rfl
      | some x =>
        obtain ⟨r, S'⟩ := x
        cases r with
        | val v =>
          simp only [useR]
          exact (putS_eq n t df o.dst v (fun a => runOps P ih full l a S')).symm
        | pan ch => rfl

/-! ### plans -/
def entOf (P : Program) (c : Chk) (S : St) (k : Res3) : Res3 := bif c.ok P S then k else none
def entsOf (P : Program) (chk : List (Nat × Chk)) : List Ent := chk.map fun x => (x.1, entOf P x.2)
theorem lookE_eq (op : Op) (hk : kindOf op = .read) (ih : Fns) (n : Nat) (t : Tm) (df : List Deferred) (v : Value) : lookE (opW P op).run ih t v = entOf P (.read ⟨n, t, df⟩ op v) := by
  funext S k
  unfold lookE entOf
  rw [opW_eq, useR_read hk]
  simp only [Chk.ok, ca_ev]
  cases readOp P (evT t) op S with
  | none => rfl
  | some w =>
    simp only
    show Bool.rec (motive := fun _ => Res3) none k (sameV 100000 v w) = _
    cases sameV 100000 v w <;> rfl
theorem freshE_eq (c : Chk) : freshE P c = entOf P c := by
  funext S k
  unfold freshE entOf
  cases Chk.ok P S c <;> rfl
theorem keepE_eq (b : Nat) (chk : List (Nat × Chk)) : keepE b (entsOf P chk) = entsOf P (chk.filter fun x => !b.testBit x.1) := by
  induction chk with
  | nil => rfl
  | cons x r ih =>
    have e : entsOf P (x :: r) = (x.1, entOf P x.2) :: entsOf P r := rfl
    rw [e]
    unfold keepE
    simp only [List.filter_cons]
    cases hb : b.testBit x.1 with
    | true => simpa using ih
    | false => simp only [cond_false, Bool.not_false, if_true]; rw [ih]; rfl
theorem allE_eq (S : St) (k : Res3) (chk : List (Nat × Chk)) : allE S k (entsOf P chk) = bif chk.all (fun x => x.2.ok P S) then k else none := by
  induction chk with
  | nil => rfl
  | cons x r ih =>
    have e : allE S k (entsOf P (x :: r)) = entOf P x.2 S (allE S k (entsOf P r)) := rfl
    rw [e, ih]
    unfold entOf
    simp only [List.all_cons]
    cases x.2.ok P S <;> simp

theorem putOf_eq (dst : Option Tmp) (n : Nat) (t : Tm) (v : Value) (k : Tm → Res3) : putOf dst n t v k = putS n t dst v k := by
  cases dst with
  | none => rfl
  | some d =>
    unfold putOf
    simp only
    cases hs : (setK 8 d : SW Value 8) with | mk s =>
    have h := setK_eq 8 d (some v) t
    rw [hs] at h
    simp only at h
    show putD s d n t v k = _
    unfold putD putS Ca.put
    rw [h]
    simp only
    cases Nat.blt d n <;> rfl

theorem runPl_cons (w : PlW) (r : List PlW) (ih : Fns) (n : Nat) (df : List Deferred) (e : List Ent) (t : Tm) (S : St) : runPl ih n df (w :: r) e t S = w.run ih n df t S e (runPl ih n df r) := by cases w; rfl

theorem runPl_eq (full : List Oper) (bef : List Nat) (ih : Fns) (n : Nat) (df : List Deferred) : ∀ (l : List (Oper × Nat)) (chk : List (Nat × Chk)) (t : Tm) (S : St),
    runPl ih n df (compP P full bef l) (entsOf P chk) t S = runPlan P ih full bef l chk ⟨n, t, df⟩ S
  | [], chk, t, S => rfl
  | (o, i) :: l, chk, t, S => by
    have e1 : compP P full bef ((o, i) :: l) = plOpW P full ((nth bef i).getD 0) o i (opW P o.op) :: compP P full bef l := rfl
    rw [e1, runPl_cons]
    generalize hr : runPl ih n df (compP P full bef l) = rest
    have hrest : ∀ chk t S, rest (entsOf P chk) t S = runPlan P ih full bef l chk ⟨n, t, df⟩ S := fun chk t S => by rw [← hr]; exact runPl_eq full bef ih n df l chk t S
    have hun : plPlain (putOf o.dst) undefF ih n df t S (entsOf P chk) rest = putS n t o.dst undef fun t' => runPlan P ih full bef l chk ⟨n, t', df⟩ S := by
      show putOf o.dst n t undef (fun t' => rest (entsOf P chk) t' S) = _
      rw [putOf_eq]
      simp only [hrest]
    have hop : plOp P ((nth bef i).getD 0) o i (opW P o.op).run ih n df t S (entsOf P chk) rest = (match kindOf o.op with
      | .read => match readOp P (evT t) o.op S with
        | some v => match Ca.put ⟨n, t, df⟩ o.dst v with
          | some a' => runPlan P ih full bef l (bif looks o.op then (i, .read ⟨n, t, df⟩ o.op v) :: chk else chk) a' S
          | none => none
        | none => none
      | .fresh => match newOp P (evT t) o.op S with
        | some (v, S') => match Ca.put ⟨n, t, df⟩ o.dst v, chkOf S' S.size, S.get S.size with
          | some a', some c, none => runPlan P ih full bef l ((i, c) :: chk) a' S'
          | _, _, _ => none
        | none => none
      | .heavy => match stepOp P ih (evT t) o.op S with
        | some (.val v, S') => match Ca.put ⟨n, t, df⟩ o.dst v with
          | some a' =>
            let rest := chk.filter fun x => !((nth bef i).getD 0).testBit x.1
            bif rest.all fun x => x.2.ok P S' then runPlan P ih full bef l rest a' S' else none
          | none => none
        | _ => none) := by
      unfold plOp
      cases hk : kindOf o.op with
      | read =>
        simp only
        cases hl : looks o.op with
        | false =>
          show (opW P o.op).run ih t S (fun v S' => putOf o.dst n t v fun t' => rest (entsOf P chk) t' S') noPan = _
          rw [opW_eq, useR_read hk]
          cases readOp P (evT t) o.op S with
          | none => rfl
          | some v =>
            simp only [putOf_eq, hrest, cond_false]
            exact (putS_eq n t df o.dst v (fun a => runPlan P ih full bef l chk a S)).symm
        | true =>
          show (opW P o.op).run ih t S (fun v S' => putOf o.dst n t v fun t' => rest ((i, lookE (opW P o.op).run ih t v) :: entsOf P chk) t' S') noPan = _
          rw [opW_eq, useR_read hk]
          cases readOp P (evT t) o.op S with
          | none => rfl
          | some v =>
            simp only [putOf_eq, lookE_eq o.op hk ih n t df v, cond_true]
            have e2 : (i, entOf P (.read ⟨n, t, df⟩ o.op v)) :: entsOf P chk = entsOf P ((i, .read ⟨n, t, df⟩ o.op v) :: chk) := rfl
            simp only [e2, hrest]
            exact (putS_eq n t df o.dst v (fun a => runPlan P ih full bef l ((i, .read ⟨n, t, df⟩ o.op v) :: chk) a S)).symm
      | fresh =>
        simp only
        show (opW P o.op).run ih t S (fun v S' => putOf o.dst n t v fun t' => withO (chkOf S' S.size) fun c => Option.rec (motive := fun _ => Res3) (rest ((i, freshE P c) :: entsOf P chk) t' S') (fun _ => none) (hget S S.size)) noPan = _
        rw [opW_eq, useR_new hk]
        cases newOp P (evT t) o.op S with
        | none => rfl
        | some x =>
          obtain ⟨v, S'⟩ := x
          simp only [putOf_eq, freshE_eq, hget_eq]
          have e2 : ∀ c, (i, entOf P c) :: entsOf P chk = entsOf P ((i, c) :: chk) := fun _ => rfl
          simp only [e2, hrest]
          cases hck : chkOf S' S.size with
          | none =>
            refine (putS_eq n t df o.dst v (fun a => none)).symm.trans ?_
            cases Ca.put ⟨n, t, df⟩ o.dst v <;> rfl
          | some c =>
            cases hg : S.get S.size with
            | none =>
              refine (putS_eq n t df o.dst v (fun a => runPlan P ih full bef l ((i, c) :: chk) a S')).symm.trans ?_
              cases Ca.put ⟨n, t, df⟩ o.dst v <;> rfl
            | some B =>
              refine (putS_eq n t df o.dst v (fun a => none)).symm.trans ?_
              cases Ca.put ⟨n, t, df⟩ o.dst v <;> rfl
      | heavy =>
        simp only
        show (opW P o.op).run ih t S (fun v S' => putOf o.dst n t v fun t' => allE S' (rest (keepE ((nth bef i).getD 0) (entsOf P chk)) t' S') (keepE ((nth bef i).getD 0) (entsOf P chk))) noPan = _
        rw [opW_eq]
        cases stepOp P ih (evT t) o.op S with
        | none => rfl
        | some x =>
          obtain ⟨r, S'⟩ := x
          cases r with
          | pan ch => rfl
          | val v =>
            simp only [useR, putOf_eq, keepE_eq, allE_eq, hrest]
            exact (putS_eq n t df o.dst v (fun a => bif (chk.filter fun x => !((nth bef i).getD 0).testBit x.1).all (fun x => x.2.ok P S') then runPlan P ih full bef l (chk.filter fun x => !((nth bef i).getD 0).testBit x.1) a S' else none)).symm
    have hrun : ∀ w : OpW, (plOpW P full ((nth bef i).getD 0) o i w).run ih n df t S (entsOf P chk) rest =
        bif wantedC full ⟨n, t, df⟩ o then plOp P ((nth bef i).getD 0) o i w.run ih n df t S (entsOf P chk) rest else plPlain (putOf o.dst) undefF ih n df t S (entsOf P chk) rest := by
      intro w
      cases w with | mk f =>
      unfold plOpW wantedC
      simp only
      cases hg : o.guard with
      | none => rfl
      | some q =>
        obtain ⟨j, w⟩ := q
        simp only
        cases hj : nth full j with
        | none => rfl
        | some oj =>
          simp only
          cases hd : oj.dst with
          | none => rfl
          | some d =>
            simp only
            have hG : ∀ g : GW Value 8, (plGuardW g w (plOp P ((nth bef i).getD 0) o i f) (plPlain (putOf o.dst) undefF)).run ih n df t S (entsOf P chk) rest =
                bif isB (g.f t) w then plOp P ((nth bef i).getD 0) o i f ih n df t S (entsOf P chk) rest else plPlain (putOf o.dst) undefF ih n df t S (entsOf P chk) rest := by
              intro g
              cases g with | mk g =>
              show Bool.rec (motive := fun _ => Res3) _ _ (isB (g t) w) = _
              cases hb : isB (g t) w <;> rfl
            rw [hG, getK_eq]
            rfl
    rw [hrun, hop, hun]
    conv => rhs; unfold runPlan
    simp only [ca_ev]
    cases wantedC full ⟨n, t, df⟩ o with
    | false =>
      simp only [cond_false]
      exact (putS_eq n t df o.dst undef (fun a => runPlan P ih full bef l chk a S)).symm
    | true => rfl

/-! ### code -/
theorem seqK_eq (y : Code) (ih : Fns) (ro : Option Nat) (r : Res3) : seqK y ih ro r = (match r with
  | some (.normal, a', S') => ih.exec ro y a' S'
  | r => r) := rfl

theorem codeW_eq (ih : Fns) (ro : Option Nat) (code : Code) (a : Ca) (S : St) : (codeW P code).run ih ro a S = execF P ih ro code a S := by
  cases code with
  | skip => rfl
  | label l => rfl
  | exit id => rfl
  | ret => rfl
  | seq x y => rfl
  | loop c => rfl
  | block id c => rfl
  | scope c => rfl
  | rangeFunc f ps x y => rfl
  | goto l => rfl
  | refuse r => rfl
  | cond c x y =>
    show (condW (evW c) x y).run ih ro a S = _
    cases hc : evW c with | mk g =>
    show condK (ih.exec ro x a S) (ih.exec ro y a S) (asBoolF (g a.t)) = _
    unfold condK
    obtain ⟨n, t, df⟩ := a
    rw [withO_eq, asBoolF_eq, evW_get hc]
    simp only [execF, ca_ev]
    cases evT t c <;> try rfl
    rename_i b
    cases b <;> rfl
  | region id ops draw =>
    show (regionW P ops.toList draw).run ih ro a S = _
    unfold regionW
    simp only [execF]
    cases constsOk P ops.toList with
    | false => rfl
    | true =>
      simp only [cond_true]
      obtain ⟨n, t, df⟩ := a
      cases draw with
      | false => exact runC_eq _ _ _ _ _ _ _
      | true =>
        show (drawW P ops.toList (planW ops.toList)).run ih ro ⟨n, t, df⟩ S = runDraw P ih ops.toList ⟨n, t, df⟩ S
        unfold runDraw
        cases planW ops.toList with
        | none => rfl
        | some x =>
          obtain ⟨bf, pl⟩ := x
          exact runPl_eq ops.toList bf ih n df pl [] t S
theorem execG_eq (ih : Fns) : execG P ih = execF P ih := by
  funext ro code a S
  rw [← codeW_eq]
  show execW (codeW P code) ih ro a S = _
  cases codeW P code; rfl

/-! ### calls -/
theorem setArgs_eq : ∀ (l : List Value) (i : Nat) (t : Tm), setArgs i l t = PT.ofList i t l
  | [], i, t => rfl
  | v :: l, i, t => by
    have e : setArgs i (v :: l) t = setArgs (i + 1) l (appS (setK 8 i) (some v) t) := rfl
    rw [e, appS_eq, setK_eq, setArgs_eq l]
    rfl
theorem resG_eq (n : Nat) (t : Tm) (df : List Deferred) (S : St) : ∀ l, resG P t S l = resultsL P ⟨n, t, df⟩ S l
  | [] => rfl
  | .tmp x :: l => by
    unfold resG resultsL
    rw [resG_eq n t df S l, evA_eq]
    rfl
  | .cell x e :: l => by
    unfold resG resultsL
    rw [resG_eq n t df S l, evA_eq]
    rfl
theorem leaveG_eq (rs : List ResultVar) (r : Res3) : leaveG P rs r = (match r with
      | some (e, a', S') => match e with
        | .normal | .ret => match takeMarks a'.defers S' with
          | some S'' => match resultsL P a' S'' rs with
            | some [v] => some (.returned v, S'')
            | some vs => some (.returned (.tuple vs.toArray), S'')
            | none => none
          | none => none
        | .panic ch => match takeMarks a'.defers S' with
          | some S'' => some (.panicked ch, S'')
          | none => none
        | _ => none
      | none => none) := by
  cases r with
  | none => rfl
  | some x =>
    obtain ⟨e, ⟨n, t, df⟩, S⟩ := x
    have hret : retG P rs t (takeMarks df S) = (match takeMarks df S with
          | some S'' => match resultsL P ⟨n, t, df⟩ S'' rs with
            | some [v] => some (Ending.returned v, S'')
            | some vs => some (.returned (.tuple vs.toArray), S'')
            | none => none
          | none => none) := by
      cases takeMarks df S with
      | none => rfl
      | some S2 =>
        show retV S2 (resG P t S2 rs) = _
        rw [resG_eq n t df]
        simp only
        cases resultsL P ⟨n, t, df⟩ S2 rs with
        | none => rfl
        | some l => match l with
          | [] => rfl
          | [v] => rfl
          | _ :: _ :: _ => rfl
    cases e with
    | normal => exact hret
    | ret => exact hret
    | panic ch =>
      show panG ch (takeMarks df S) = _
      simp only
      cases takeMarks df S <;> rfl
    | exit id => rfl
    | goto l => rfl
    | outgrown => rfl

theorem enterG_eq (K : Known) (ih : Fns) (f : FuncId) (args : List Value) (S : St) : enterG P K ih f args S (entW P f) = enterB P K ih f args S := by
  unfold entW enterB
  cases hf : P.funcs[f]? with
  | none => rfl
  | some fn =>
    simp only
    cases hb : fn.body with
    | none => show extG (K.ext f args S) = _; cases K.ext f args S <;> rfl
    | some c =>
      simp only
      cases hn : (fn.name == "runtime.NumGoroutine") with
      | true => rfl
      | false =>
        simp only [cond_false, Bool.false_or]
        show goG P ih (maxN fn.ntmps args.length) c fn.results.toList args S = _
        unfold goG
        cases Nat.blt 256 (maxN fn.ntmps args.length) with
        | true => rfl
        | false =>
          simp only [cond_false]
          rw [leaveG_eq, setArgs_eq]
          first
            | rfl
            | (split <;> rfl)

theorem callG_eq (K : Known) (ih : Fns) : callG P K ih = callF P K ih := by
  funext target args S
  unfold callG
  split
  · rename_i f
    simp only [callF, List.append_nil, enterF, enterG_eq]
    cases K.call f args S <;> rfl
  · rfl

theorem fnsG_eq (K : Known) : ∀ n, fnsG P K n = fns P K n
  | 0 => rfl
  | n + 1 => by
    have e : fnsG P K (n + 1) = ⟨execG P (fnsG P K n), callG P K (fnsG P K n)⟩ := rfl
    rw [e, execG_eq, callG_eq, fnsG_eq K n]
    rfl

end
end Go.Cm

namespace Go.Cm
open Go
variable {P : Program} {w0 : Base} {K : Known}

/-! ### what a listed variable holds, as cells -/
def dcL (f : DataW Unit → Option (List Value)) : List (DataW Unit) → Option (List Value)
  | [] => some []
  | d :: r => match f d, dcL f r with
    | some a, some b => some (a ++ b)
    | _, _ => none
def dcS (f : TypeId → DataW Unit → Option (List Value)) : List Field → List (DataW Unit) → Option (List Value)
  | [], [] => some []
  | x :: fs, d :: r => match f x.type d, dcS f fs r with
    | some a, some b => some (a ++ b)
    | _, _ => none
  | _, _ => none
/-- fields that lie one behind the other, and fill n cells -/
def contigF (P : Program) (n : Nat) : List Field → Nat → Bool
  | [], o => Nat.beq o n
  | f :: r, o => Nat.beq f.offset o && contigF P n r (o + P.cellsOf f.type)
def dc (P : Program) : Nat → TypeId → DataW Unit → Option (List Value)
  | 0, _, _ => none
  | n + 1, t, d => match P.underlying t, d with
    | some .bool, .lit (.bool b) => some [.bool b]
    | some (.int _), .lit (.int k m) => some [.int k m]
    | some .string, .lit (.string s) => some [.string ⟨s.toArray⟩]
    | some (.array m e), .agg l => bif Nat.beq (P.cellsOf t) (m * P.cellsOf e) then dcL (dc P n e) l else none
    | some (.struct fs), .agg l => bif contigF P (P.cellsOf t) fs.toList 0 then dcS (dc P n) fs.toList l else none
    | _, _ => none

theorem chunks (z : Nat) (cs : List Value) : ∀ (j k : Nat), cs.length = (k + j) * z → cs.drop (k * z) = (List.range' k j).flatMap fun i => (cs.drop (i * z)).take z
  | 0, k, h => by
    rw [List.drop_eq_nil_of_le (by rw [h]; exact Nat.le_refl _)]; rfl
  | j + 1, k, h => by
    rw [List.range'_succ, List.flatMap_cons, ← chunks z cs j (k + 1) (by rw [h]; congr 1; omega)]
    rw [show (k + 1) * z = k * z + z from Nat.succ_mul k z, ← List.drop_drop, List.take_append_drop]

theorem dcL_sound {f : DataW Unit → Option (List Value)} {g : Nat → Option (DataW Unit × List MemPlace)} {c : Nat → List Value} (hf : ∀ i d p l, g i = some (d, p) → f d = some l → c i = l) :
    ∀ (is : List Nat) (xs : List (DataW Unit × List MemPlace)) (l : List Value), is.mapM g = some xs → dcL f (xs.map (·.1)) = some l → is.flatMap c = l
  | [], xs, l, hm, hl => by
    simp only [List.mapM_nil, Option.pure_def, Option.some.injEq] at hm
    subst hm
    simp only [List.map_nil, dcL, Option.some.injEq] at hl
    subst hl
    rfl
  | i :: is, xs, l, hm, hl => by
    rw [List.mapM_cons] at hm
    obtain ⟨y, hy, hm⟩ := Option.mem_bind_iff.1 hm
    obtain ⟨ys, hys, hm⟩ := Option.mem_bind_iff.1 hm
    cases hm
    simp only [List.map_cons, dcL] at hl
    split at hl
    · rename_i a b ha hb
      cases hl
      rw [List.flatMap_cons, dcL_sound hf is ys b hys hb, hf i y.1 y.2 a hy ha]
    · cases hl

theorem dcS_sound {f : TypeId → DataW Unit → Option (List Value)} {g : Field → Option (DataW Unit × List MemPlace)} {cs : List Value} (hf : ∀ x d p l, g x = some (d, p) → f x.type d = some l → (cs.drop x.offset).take (P.cellsOf x.type) = l) :
    ∀ (fs : List Field) (o : Nat) (xs : List (DataW Unit × List MemPlace)) (l : List Value), contigF P cs.length fs o = true → fs.mapM g = some xs → dcS f fs (xs.map (·.1)) = some l → cs.drop o = l
  | [], o, xs, l, hc, hm, hl => by
    simp only [List.mapM_nil, Option.pure_def, Option.some.injEq] at hm
    subst hm
    simp only [List.map_nil, dcS, Option.some.injEq] at hl
    subst hl
    rw [of_nbeq hc, List.drop_length]
  | x :: fs, o, xs, l, hc, hm, hl => by
    rw [List.mapM_cons] at hm
    obtain ⟨y, hy, hm⟩ := Option.mem_bind_iff.1 hm
    obtain ⟨ys, hys, hm⟩ := Option.mem_bind_iff.1 hm
    cases hm
    simp only [contigF, Bool.and_eq_true] at hc
    simp only [List.map_cons, dcS] at hl
    split at hl
    · rename_i a b ha hb
      cases hl
      rw [← dcS_sound hf fs _ ys b hc.2 hys hb, ← hf x y.1 y.2 a hy ha, of_nbeq hc.1, ← List.drop_drop, List.take_append_drop]
    · cases hl

theorem dc_sound {w : World} {base : Nat} {sp : Nat → Bool} {held : Bool} : ∀ (n : Nat) (t : TypeId) (d : DataW Unit) (l cs : List Value) (fuel : Nat) (p : List MemPlace),
    DataW.trod (fun _ => ()) P w base sp held fuel t cs = some (d, p) → dc P n t d = some l → cs = l
  | 0, t, d, l, cs, fuel, p, h, hl => by cases hl
  | n + 1, t, d, l, cs, 0, p, h, hl => by simp [DataW.trod] at h
  | n + 1, t, d, l, cs, fuel + 1, p, h, hl => by
    unfold dc at hl
    split at hl
    · rename_i b hu
      cases hl
      simp only [DataW.trod, hu] at h
      split at h <;> simp_all
    · rename_i k m hu
      cases hl
      simp only [DataW.trod, hu] at h
      split at h <;> simp_all
    · rename_i s hu
      cases hl
      simp only [DataW.trod, hu] at h
      split at h <;> simp_all
      obtain ⟨_, rfl, _⟩ := h
      rfl
    · rename_i m e ds hu
      cases hb : Nat.beq (P.cellsOf t) (m * P.cellsOf e) with
      | false => rw [hb] at hl; cases hl
      | true =>
        rw [hb] at hl
        simp only [cond_true] at hl
        have hsz := of_nbeq hb
        simp only [DataW.trod, hu] at h
        split at h
        · rename_i hlen
          obtain ⟨xs, hm, hx⟩ := Option.map_eq_some_iff.1 h
          have hds : xs.map (·.1) = ds := by
            have := congrArg Prod.fst hx
            simpa using this
          rw [← hds] at hl
          have := dcL_sound (c := fun i => (cs.drop (i * P.cellsOf e)).take (P.cellsOf e)) (fun i d p l h1 h2 => dc_sound n e d l _ fuel p h1 h2) _ _ _ hm hl
          rw [← this, List.range_eq_range']
          have h2 := chunks (P.cellsOf e) cs m 0 (by rw [hlen, hsz, Nat.zero_add])
          rw [Nat.zero_mul, List.drop_zero] at h2
          exact h2
        · cases h
    · rename_i fs ds hu
      cases hb : contigF P (P.cellsOf t) fs.toList 0 with
      | false => rw [hb] at hl; cases hl
      | true =>
        rw [hb] at hl
        simp only [cond_true] at hl
        simp only [DataW.trod, hu] at h
        split at h
        · rename_i hlen
          obtain ⟨xs, hm, hx⟩ := Option.map_eq_some_iff.1 h
          have hds : xs.map (·.1) = ds := by
            have := congrArg Prod.fst hx
            simpa using this
          rw [← hds] at hl
          have := dcS_sound (cs := cs) (fun x d p l h1 h2 => dc_sound n x.type d l _ fuel p h1 h2) _ 0 xs l (by rw [hlen]; exact hb) hm hl
          rw [List.drop_zero] at this
          exact this
        · cases h
    · cases hl

/-- what the listed variables hold -/
theorem laid_cells {W : World} : ∀ (laid : List (String × DataW Unit)) (ps : List MemPlace), DataW.LaidVars P W laid ps → ∀ n d, (n, d) ∈ laid → ∀ g t k l, P.globalNamed n = some g → (P.globals[g]?).map (·.type) = some t → dc P k t d = some l →
    ∃ (arr : Array Value) (e : TypeId) (fz : Nat × Nat), W.heap[g]? = some (.cells arr e fz) ∧ arr.toList = l
  | [], ps, h, n, d, hm, g, t, k, l, hg, ht, hl => by cases hm
  | (m, d') :: laid, ps, h, n, d, hm, g, t, k, l, hg, ht, hl => by
    obtain ⟨g', t', cs, fuel, p, q, h1, h2, h3, h4, h5, _⟩ := h
    rcases List.mem_cons.1 hm with he | he
    · obtain ⟨rfl, rfl⟩ := Prod.mk.inj he
      obtain rfl := Option.some.inj (hg.symm.trans h1)
      obtain rfl := Option.some.inj (ht.symm.trans h2)
      have := dc_sound k t _ l cs.toList fuel p h4 hl
      unfold World.var? at h3
      rw [hg] at h3
      simp only [Option.bind_some] at h3
      split at h3
      · rename_i arr e fz hh
        cases h3
        exact ⟨_, _, _, hh, this⟩
      · cases h3
    · exact laid_cells laid q h5 n d he g t k l hg ht hl

/-! ### the memory at the start -/
def startH : List (Nat × List Value) → Heap
  | [] => Heap.nil
  | (g, l) :: r => (startH r).set g (some (.cells l 0 false false []))
def startS (G : List (Nat × List Value)) (n : Nat) : St := ⟨startH G, n⟩
theorem start_get (n : Nat) : ∀ (G : List (Nat × List Value)) (b : Nat) (B : Blk), (startS G n).get b = some B → ∃ l, (b, l) ∈ G ∧ B = .cells l 0 false false []
  | [], b, B, h => by
    simp only [startS, startH, St.get, Heap.get_nil] at h
    cases h
  | (g, l) :: G, b, B, h => by
    simp only [startS, startH, St.get, Heap.get_set_any] at h
    split at h
    · rename_i he
      cases h
      exact ⟨l, by rw [he]; simp, rfl⟩
    · obtain ⟨l', h1, h2⟩ := start_get n G b B h
      exact ⟨l', by simp [h1], h2⟩

def startR (n : Nat) (W : World) : Rmap := fun g => if g < n then some ⟨g, 0, match W.heap[g]? with | some (.cells arr _ _) => arr.size | _ => 0, 0⟩ else none

theorem start_sim {W : World} {G : List (Nat × List Value)} (hn : P.globals.size ≤ W.heap.size) (hG : ∀ g l, (g, l) ∈ G → ∃ (arr : Array Value) (e : TypeId) (fz : Nat × Nat), W.heap[g]? = some (.cells arr e fz) ∧ arr.toList = l)
    (hf : ∀ g l, (g, l) ∈ G → ∀ v ∈ l, flatV flatN v = true) : Sim P ⟨W, fun _ => false⟩ (startR P.globals.size W) (startS G P.globals.size) W := by
  refine ⟨Nat.le_refl _, fun _ _ => rfl, rfl, rfl, fun b L hb => ?_, fun b L B hb hB => ?_, fun b L B hb hB hm => ?_, fun g hg => ?_, fun b hb => by cases hb⟩
  · unfold startR at hb
    split at hb
    · rename_i hlt
      cases hb
      exact ⟨hlt, Nat.lt_of_lt_of_le hlt hn⟩
    · cases hb
  · obtain ⟨l, hl, rfl⟩ := start_get _ G b B hB
    obtain ⟨arr, e, fz, h1, h2⟩ := hG b l hl
    unfold startR at hb
    split at hb
    · cases hb
      simp only [h1]
      refine ⟨arr, e, fz, rfl, rfl, fun i v hv => ⟨v, ?_, (flatV_spec _ _ (hf b l hl v (List.mem_of_getElem? hv))).refl _⟩, (fun h => nomatch h), (fun h => nomatch h), fun _ => ⟨rfl, rfl, by rw [← h2]; simp⟩, fun _ h => absurd rfl h⟩
      rw [Nat.zero_add, ← Array.getElem?_toList, h2]
      exact hv
    · cases hb
  · obtain ⟨l, hl, rfl⟩ := start_get _ G b B hB
    cases hm
  · unfold startR
    rw [if_pos hg]
    exact ⟨_, rfl, rfl, rfl⟩

def isTrue : Option (Ending × St) → Bool
  | some (.returned (.bool true), _) => true
  | _ => false

/-- a function of the program that the evaluator sees return true returns true -/
theorem true_calls (hm : P.follows .mixedOrders = true) {W : World} (hK : KnownSound P K W) {n : Nat} {f : FuncId} {fn : Func} {c : Code} (hf : P.funcs[f]? = some fn) (hb : fn.body = some c) (hnm : (fn.name == "runtime.NumGoroutine") = false)
    {G : List (Nat × List Value)} (h : isTrue ((fnsG P K n).call (.fn (.func f) #[]) [] (startS G P.globals.size)) = true) (hn : P.globals.size ≤ W.heap.size)
    (hG : ∀ g l, (g, l) ∈ G → ∃ (arr : Array Value) (e : TypeId) (fz : Nat × Nat), W.heap[g]? = some (.cells arr e fz) ∧ arr.toList = l) (hfl : ∀ g l, (g, l) ∈ G → ∀ v ∈ l, flatV flatN v = true) :
    Calls P f #[] W fun e w => e = .returned (.bool true) ∧ Kept W w := by
  rw [fnsG_eq] at h
  cases hr : (fns P K n).call (.fn (.func f) #[]) [] (startS G P.globals.size) with
  | none => rw [hr] at h; cases h
  | some x =>
    obtain ⟨e, S'⟩ := x
    rw [hr] at h
    have hsim := start_sim (P := P) hn hG hfl
    have := (fns_sound hm hK n n (Nat.le_refl _) (fun _ => false)).call _ _ _ _ _ hr _ W (.fn (.func f) #[]) #[] hsim ⟨.func f, .func f, #[], #[], rfl, rfl, .func f rfl nil_all rfl nil_all⟩ VRs.nil
    have hcall : (invoke (.fn (.func f) #[]) #[]).run P W = .ok (.enter f #[]) W := run_callFunc hf hb hnm #[] W
    rw [hcall] at this
    refine (callsIn_wide.1 this).mono ?_
    rintro e' w ⟨ρ', _, h2, h3⟩
    have hk := h3.kept
    cases h2 with
    | ret hv =>
      cases hv <;> first
        | (simp [isTrue] at h; done)
        | (rename_i b; cases b <;> first | (simp [isTrue] at h; done) | exact ⟨rfl, hk⟩)
    | pan hp => cases h

end Go.Cm

namespace Go.Cm
open Go
variable {P : Program} {w0 : Base} {K : Known}

/-- a state, written out: an activation's values, the blocks that are still of use -/
structure Stg where
  n : Nat
  vals : List Value
  blks : List (Nat × Blk)
  size : Nat
def Stg.act (L : Stg) : Ca := ⟨L.n, PT.ofList 0 (PT.nil 8) L.vals, []⟩
def litH : List (Nat × Blk) → Heap
  | [] => Heap.nil
  | (b, B) :: r => (litH r).set b (some B)
def Stg.st (L : Stg) : St := ⟨litH L.blks, L.size⟩
def sameNats : List Nat → List Nat → Bool
  | [], [] => true
  | a :: l, b :: r => Nat.beq a b && sameNats l r
  | _, _ => false
theorem sameNats_eq : ∀ a b : List Nat, sameNats a b = true → a = b
  | [], [], _ => rfl
  | [], _ :: _, h => by cases h
  | _ :: _, [], h => by cases h
  | a :: l, b :: r, h => by
    simp only [sameNats, Bool.and_eq_true] at h
    rw [of_nbeq h.1, sameNats_eq l r h.2]
def sameBlk : Blk → Blk → Bool
  | .cells c e r o k, .cells c' e' r' o' k' => sameL 100000 c c' && (Nat.beq e e' && ((r == r') && ((o == o') && sameNats k k')))
  | .map [] c, .map [] c' => Nat.beq c c'
  | _, _ => false
theorem sameBlk_eq (a b : Blk) (h : sameBlk a b = true) : a = b := by
  unfold sameBlk at h
  split at h
  · simp only [Bool.and_eq_true] at h
    rw [sameL_eq _ _ _ h.1, of_nbeq h.2.1, eq_of_beq h.2.2.1, eq_of_beq h.2.2.2.1, sameNats_eq _ _ h.2.2.2.2]
  · rw [of_nbeq h]
  · cases h
def litOk (L : Stg) (r : Res3) : Bool := match r with
  | some (.normal, ⟨n, t, []⟩, S) => Nat.beq n L.n && ((List.range 256).all (fun i => sameV 100000 (Ca.get ⟨n, t, []⟩ i) (L.act.get i)) && (L.blks.all (fun x => match S.get x.1 with
    | some B => sameBlk x.2 B
    | none => false) && Nat.beq S.size L.size))
  | _ => false

theorem Sim.sub {ρ : Rmap} {S T : St} {w : World} (h : Sim P w0 ρ S w) (hs : ∀ b B, T.get b = some B → S.get b = some B) (hz : T.size = S.size) : Sim P w0 ρ T w :=
  ⟨h.size, h.old, h.os, h.out, fun b L hb => by rw [hz]; exact h.dom b L hb, fun b L B hb hB => h.blk b L B hb (hs b B hB),
    fun b L B hb hB hm => ⟨(h.own b L B hb (hs b B hB) hm).1, fun b' L' B' hb' hr hB' hne => (h.own b L B hb (hs b B hB) hm).2 b' L' B' hb' hr (hs b' B' hB') hne⟩, h.glob, fun b hb => by rw [hz]; exact h.no b hb⟩

theorem litH_get : ∀ (l : List (Nat × Blk)) (b : Nat) (B : Blk), (litH l).get b = some B → (b, B) ∈ l
  | [], b, B, h => by simp only [litH, Heap.get_nil] at h; cases h
  | (c, C) :: l, b, B, h => by
    simp only [litH, Heap.get_set_any] at h
    split at h
    · rename_i he
      cases h
      rw [he]; simp
    · exact List.mem_cons_of_mem _ (litH_get l b B h)

theorem lit_sound {L : Stg} {r : Res3} (h : litOk L r = true) : ∃ a S, r = some (.normal, a, S) ∧ (∀ ρ ar, ActR ρ a ar → ActR ρ L.act ar) ∧ (∀ (w0 : Base) (ρ : Rmap) (w : World), Sim P w0 ρ S w → Sim P w0 ρ L.st w) := by
  unfold litOk at h
  split at h
  · rename_i n t S
    simp only [Bool.and_eq_true, List.all_eq_true] at h
    obtain ⟨h1, h2, h3, h4⟩ := h
    have h1 := of_nbeq h1
    have h4 := of_nbeq h4
    refine ⟨_, _, rfl, fun ρ ar ha => ?_, fun w0 ρ w hs => ?_⟩
    · have hget : ∀ i, Ca.get ⟨n, t, []⟩ i = L.act.get i := by
        intro i
        rcases Nat.lt_or_ge i 256 with hi | hi
        · exact sameV_eq _ _ _ (h2 i (List.mem_range.2 hi))
        · have hb : ¬ i < 2 ^ 8 := Nat.not_lt.2 hi
          unfold Ca.get
          rw [PT.get_big _ hb, PT.get_big _ hb]
      refine ⟨by have := ha.le; simp only at this; rw [h1] at this; exact this, ⟨by have := ha.tm.1; rw [h1] at this; exact this, fun i => ?_⟩, ha.df⟩
      have := ha.tm.2 i
      rw [← get_eq ⟨n, t, []⟩, hget, get_eq] at this
      exact this
    · refine hs.sub (fun b B hB => ?_) h4.symm
      have hm := litH_get _ _ _ hB
      have := h3 (b, B) hm
      simp only at this
      split at this
      · rename_i C hC
        rw [sameBlk_eq _ _ this]; exact hC
      · cases this
  · cases h

/-- codes one behind the other -/
def codeOf (cs : List Code) (t : Code) : Code := cs.foldr .seq t
def runSeq (ex : Option Nat → Code → Ca → St → Res3) : List Code → Ca → St → Res3
  | [], a, S => some (.normal, a, S)
  | c :: r, a, S => match ex none c a S with
    | some (.normal, a', S') => runSeq ex r a' S'
    | r => r

theorem runSeq_wp {ih : Fns} (hih : FnsSound P w0 ih) {t : Code} {Q : Exit → Act → World → Prop} {a1 : Ca} {S1 : St} : ∀ (cs : List Code) (a : Ca) (S : St), runSeq ih.exec cs a S = some (.normal, a1, S1) → ∀ (ρ : Rmap) (w : World) (ar : Act),
    Sim P w0 ρ S w → ActR ρ a ar → (∀ ρ1 ar1 w1, Ext ρ ρ1 → ActR ρ1 a1 ar1 → Sim P w0 ρ1 S1 w1 → t.wpIn (FW none) 0 P Q ar1 w1) → (codeOf cs t).wpIn (FW none) 0 P Q ar w
  | [], a, S, h, ρ, w, ar, hs, ha, hk => by
    simp only [runSeq, Option.some.injEq, Prod.mk.injEq, true_and] at h
    obtain ⟨rfl, rfl⟩ := h
    exact hk ρ ar w (Ext.refl _) ha hs
  | c :: r, a, S, h, ρ, w, ar, hs, ha, hk => by
    unfold runSeq at h
    split at h
    · rename_i a2 S2 hx
      refine wpIn_seq (wpIn_mono (hih.exec none c _ _ _ _ _ hx ρ w ar none hs ha (.inl ⟨rfl, rfl⟩)) ?_)
      rintro e2 ar2 w2 ⟨ρ2, h1, h2, h3, h4⟩
      cases h2
      exact runSeq_wp hih r a2 S2 h ρ2 w2 ar2 h4 h3 fun ρ1 ar1 w1 x y z => hk ρ1 ar1 w1 (h1.trans x) y z
    · rename_i hne
      exact absurd h (hne a1 S1)

def endTrue (P : Program) (rs : List ResultVar) (r : Res3) : Bool := match r with
  | some (.ret, a, S) => match takeMarks a.defers S with
    | some S' => match resultsL P a S' rs with
      | some [.bool true] => true
      | _ => false
    | none => false
  | _ => false

/-- a function of no arguments, run in three stages, that returns true -/
theorem staged_true {W : World} (hm : P.follows .mixedOrders = true) (hK : KnownSound P K W) {n : Nat} {f : FuncId} {fn : Func} {c1 c2 : List Code} {t : Code} (hf : P.funcs[f]? = some fn) (hb : fn.body = some (codeOf c1 (codeOf c2 t)))
    (hnt : maxN fn.ntmps 0 ≤ 256) {G : List (Nat × List Value)} {L1 L2 : Stg}
    (h1 : litOk L1 (runSeq (fnsG P K n).exec c1 { n := maxN fn.ntmps 0, t := PT.nil 8, defers := [] } (startS G P.globals.size)) = true)
    (h2 : litOk L2 (runSeq (fnsG P K n).exec c2 L1.act L1.st) = true) (h3 : endTrue P fn.results.toList ((fnsG P K n).exec none t L2.act L2.st) = true) (hn : P.globals.size ≤ W.heap.size)
    (hG : ∀ g l, (g, l) ∈ G → ∃ (arr : Array Value) (e : TypeId) (fz : Nat × Nat), W.heap[g]? = some (.cells arr e fz) ∧ arr.toList = l) (hfl : ∀ g l, (g, l) ∈ G → ∀ v ∈ l, flatV flatN v = true) :
    Calls P f #[] W fun e w => e = .returned (.bool true) ∧ Kept W w := by
  rw [fnsG_eq] at h1 h2 h3
  have hih := fns_sound hm hK n n (Nat.le_refl _) (fun _ => false)
  have hsim := start_sim (P := P) hn hG hfl
  obtain ⟨a1, S1, e1, A1, B1⟩ := lit_sound (P := P) h1
  obtain ⟨a2, S2, e2, A2, B2⟩ := lit_sound (P := P) h2
  refine callsIn_wide.1 (callsIn_of_wp_marks (n := 0) hf hb trivial ?_)
  have hact := enter_act (ρ := startR P.globals.size W) (args := []) (args' := #[]) VRs.nil (n := fn.ntmps) hnt
  refine runSeq_wp hih c1 _ _ e1 _ W _ hsim hact fun ρ1 ar1 w1 x1 y1 z1 => ?_
  refine runSeq_wp hih c2 _ _ e2 ρ1 w1 ar1 (B1 _ _ _ z1) (A1 _ _ y1) fun ρ2 ar2 w2 x2 y2 z2 => ?_
  unfold endTrue at h3
  split at h3
  · rename_i a3 S3 hx
    refine wpIn_mono (hih.exec none t _ _ _ _ _ hx ρ2 w2 ar2 none (B2 _ _ _ z2) (A2 _ _ y2) (.inl ⟨rfl, rfl⟩)) ?_
    rintro e3 ar3 w3 ⟨ρ3, p1, p2, p3, p4⟩
    cases p2
    split at h3
    · rename_i S4 htm
      split at h3
      · rename_i hres
        show LeavesInM Fence.wide 0 P fn ar3.tmps _ ar3.defers .returning w3
        refine takeMarks_sound (ρ := ρ3) (S2 := S4) (by simp) (fun w4 hw4 => ?_) a3.defers S3 ar3.defers w3 htm p3.df p4
        obtain ⟨vs', hv, hr⟩ := results_sound hw4 p3 hres
        obtain ⟨v', l', rfl, hv1, hv2⟩ := hv.cons_inv
        cases hv2.nil_inv
        cases hv1
        exact ⟨_, hr, rfl, hw4.kept⟩
      · cases h3
    · cases h3
  · cases h3

end Go.Cm

namespace Go.Cm
open Go
variable {P : Program} {w0 : Base} {K : Known}

/-- from a state on the code ends normally, at a state that L writes out -/
def Tri (P : Program) (w0 : Base) (c : Code) (a : Ca) (S : St) (L : Stg) : Prop :=
  ∀ (ρ : Rmap) (w : World) (ar : Act), Sim P w0 ρ S w → ActR ρ a ar → c.wpIn (FW none) 0 P (fun e ar1 w1 => e = .normal ∧ ∃ ρ1, Ext ρ ρ1 ∧ ActR ρ1 L.act ar1 ∧ Sim P w0 ρ1 L.st w1) ar w
/-- the same of operations of a region -/
def TriOps (P : Program) (w0 : Base) (ops : Array Oper) (l : List Oper) (a : Ca) (S : St) (L : Stg) : Prop :=
  ∀ (ρ : Rmap) (w : World) (ar : Act), Sim P w0 ρ S w → ActR ρ a ar → ∀ (Q : Exit → Act → World → Prop), (∀ ρ1 ar1 w1, Ext ρ ρ1 → ActR ρ1 L.act ar1 → Sim P w0 ρ1 L.st w1 → Q .normal ar1 w1) → wpListIn (FW none) 0 P ops Q l ar w

theorem tri_code {ih : Fns} (hih : FnsSound P w0 ih) {c : Code} {a : Ca} {S : St} {L : Stg} (h : litOk L (ih.exec none c a S) = true) : Tri P w0 c a S L := by
  obtain ⟨a1, S1, e, A, B⟩ := lit_sound (P := P) h
  intro ρ w ar hs ha
  refine wpIn_mono (hih.exec none c _ _ _ _ _ e ρ w ar none hs ha (.inl ⟨rfl, rfl⟩)) ?_
  rintro e2 ar2 w2 ⟨ρ2, h1, h2, h3, h4⟩
  cases h2
  exact ⟨rfl, ρ2, h1, A _ _ h3, B _ _ _ h4⟩

theorem tri_seq {x y : Code} {a : Ca} {S : St} {L1 L2 : Stg} (h : Tri P w0 x a S L1) (k : Tri P w0 y L1.act L1.st L2) : Tri P w0 (.seq x y) a S L2 := by
  intro ρ w ar hs ha
  refine wpIn_seq (wpIn_mono (h ρ w ar hs ha) ?_)
  rintro e ar1 w1 ⟨rfl, ρ1, h1, h2, h3⟩
  refine wpIn_mono (k ρ1 w1 ar1 h3 h2) ?_
  rintro e2 ar2 w2 ⟨rfl, ρ2, k1, k2, k3⟩
  exact ⟨rfl, ρ2, h1.trans k1, k2, k3⟩

/-- runOps_sound, with more operations behind -/
theorem runOps_more {ih : Fns} (hih : FnsSound P w0 ih) {ops : Array Oper} {ro : Option Nat} {a1 : Ca} {S1 : St} {Q : Exit → Act → World → Prop} {more : List Oper} :
    ∀ (l : List Oper) (a : Ca) (S : St), runOps P ih ops.toList l a S = some (.normal, a1, S1) → (∀ o, o ∈ l → OpC P o) → ∀ (ρ : Rmap) (w : World) (ar : Act), Sim P w0 ρ S w → ActR ρ a ar →
      (∀ ρ1 ar1 w1, Ext ρ ρ1 → ActR ρ1 a1 ar1 → Sim P w0 ρ1 S1 w1 → wpListIn (FW ro) 0 P ops Q more ar1 w1) → wpListIn (FW ro) 0 P ops Q (l ++ more) ar w
  | [], a, S, h, _, ρ, w, ar, hs, ha, hQ => by
    simp only [runOps, Option.some.injEq, Prod.mk.injEq, true_and] at h
    obtain ⟨rfl, rfl⟩ := h
    exact hQ ρ ar w (Ext.refl _) ha hs
  | o :: rest, a, S, h, hc, ρ, w, ar, hs, ha, hQ => by
    unfold runOps at h
    have hwant := wanted_sound ha (ops := ops) (o := o)
    rw [List.cons_append]
    unfold wpListIn
    rw [← hwant]
    cases hw : wantedC ops.toList a o with
    | false =>
      rw [hw] at h
      simp only [cond_false] at h
      split at h
      · rename_i a2 hp
        simp only [Bool.false_eq_true, if_false]
        exact ⟨about_wide, runOps_more hih rest a2 S h (fun o ho => hc o (by simp [ho])) ρ w _ hs (ha.put hp (VR.undef _)) hQ⟩
      · cases h
    | true =>
      rw [hw] at h
      simp only [cond_true] at h
      simp only [if_true]
      refine ⟨about_wide, ?_⟩
      split at h
      · rename_i v S2 hst
        split at h
        · rename_i a2 hp
          refine step_sound hih hs (ha.evs hs (hc o (by simp))) hst ⟨?_, ?_⟩
          · intro v2 e2 ρ' v' w' h1 h2 h3
            cases e2
            exact runOps_more hih rest a2 S2 h (fun o ho => hc o (by simp [ho])) ρ' w' _ h3 ((ha.mono h1).put hp h2) (fun ρ1 ar1 w1 x y z => hQ ρ1 ar1 w1 (h1.trans x) y z)
          · intro c e2; cases e2
        · cases h
      · cases h
      · cases h

theorem triOps_nil {ops : Array Oper} {L : Stg} : TriOps P w0 ops [] L.act L.st L := fun ρ w ar hs ha _ hQ => hQ ρ ar w (Ext.refl _) ha hs

theorem triOps_app {ih : Fns} (hih : FnsSound P w0 ih) {ops : Array Oper} {l m : List Oper} {a : Ca} {S : St} {L1 L2 : Stg} (h : litOk L1 (runOps P ih ops.toList l a S) = true) (hc : constsOk P l = true)
    (k : TriOps P w0 ops m L1.act L1.st L2) : TriOps P w0 ops (l ++ m) a S L2 := by
  obtain ⟨a1, S1, e, A, B⟩ := lit_sound (P := P) h
  intro ρ w ar hs ha Q hQ
  refine runOps_more hih l a S e (constsOk_spec hc) ρ w ar hs ha fun ρ1 ar1 w1 x y z => ?_
  exact k ρ1 w1 ar1 (B _ _ _ z) (A _ _ y) Q fun ρ2 ar2 w2 p q r => hQ ρ2 ar2 w2 (x.trans p) q r

theorem tri_region {id : Nat} {ops : Array Oper} {a : Ca} {S : St} {L : Stg} (h : TriOps P w0 ops ops.toList a S L) : Tri P w0 (.region id ops false) a S L := by
  intro ρ w ar hs ha
  exact wpIn_region_list (h ρ w ar hs ha _ fun ρ1 ar1 w1 x y z => ⟨rfl, ρ1, x, y, z⟩)

/-- a function's end that returns true -/
def TriEnd (P : Program) (w0 : Base) (fn : Func) (c : Code) (a : Ca) (S : St) : Prop :=
  ∀ (ρ : Rmap) (w : World) (ar : Act), Sim P w0 ρ S w → ActR ρ a ar → c.wpIn (FW none) 0 P (fun e ar w => e = .ret ∧ LeavesInM Fence.wide 0 P fn ar.tmps (fun e w => e = .returned (.bool true) ∧ Kept w0.toWorld w) ar.defers .returning w) ar w

theorem triEnd_seq {fn : Func} {x y : Code} {a : Ca} {S : St} {L1 : Stg} (h : Tri P w0 x a S L1) (k : TriEnd P w0 fn y L1.act L1.st) : TriEnd P w0 fn (.seq x y) a S := by
  intro ρ w ar hs ha
  refine wpIn_seq (wpIn_mono (h ρ w ar hs ha) ?_)
  rintro e ar1 w1 ⟨rfl, ρ1, h1, h2, h3⟩
  exact k ρ1 w1 ar1 h3 h2

theorem triEnd_code {ih : Fns} (hih : FnsSound P w0 ih) {fn : Func} {c : Code} {a : Ca} {S : St} (h : endTrue P fn.results.toList (ih.exec none c a S) = true) : TriEnd P w0 fn c a S := by
  intro ρ w ar hs ha
  unfold endTrue at h
  split at h
  · rename_i a3 S3 hx
    refine wpIn_mono (hih.exec none c _ _ _ _ _ hx ρ w ar none hs ha (.inl ⟨rfl, rfl⟩)) ?_
    rintro e3 ar3 w3 ⟨ρ3, p1, p2, p3, p4⟩
    cases p2
    refine ⟨rfl, ?_⟩
    split at h
    · rename_i S4 htm
      split at h
      · rename_i hres
        refine takeMarks_sound (ρ := ρ3) (S2 := S4) (by simp) (fun w4 hw4 => ?_) a3.defers S3 ar3.defers w3 htm p3.df p4
        obtain ⟨vs', hv, hr⟩ := results_sound hw4 p3 hres
        obtain ⟨v', l', rfl, hv1, hv2⟩ := hv.cons_inv
        cases hv2.nil_inv
        cases hv1
        exact ⟨_, hr, rfl, hw4.kept⟩
      · cases h
    · cases h
  · cases h

/-- a function of no arguments, run in stages, that returns true -/
theorem tri_true {W : World} {f : FuncId} {fn : Func} {c : Code} (hf : P.funcs[f]? = some fn) (hb : fn.body = some c) (hnt : maxN fn.ntmps 0 ≤ 256) {G : List (Nat × List Value)}
    (h : TriEnd P ⟨W, fun _ => false⟩ fn c { n := maxN fn.ntmps 0, t := PT.nil 8, defers := [] } (startS G P.globals.size)) (hn : P.globals.size ≤ W.heap.size)
    (hG : ∀ g l, (g, l) ∈ G → ∃ (arr : Array Value) (e : TypeId) (fz : Nat × Nat), W.heap[g]? = some (.cells arr e fz) ∧ arr.toList = l) (hfl : ∀ g l, (g, l) ∈ G → ∀ v ∈ l, flatV flatN v = true) :
    Calls P f #[] W fun e w => e = .returned (.bool true) ∧ Kept W w := by
  have hsim := start_sim (P := P) hn hG hfl
  refine callsIn_wide.1 (callsIn_of_wp_marks (n := 0) hf hb trivial ?_)
  have hact := enter_act (ρ := startR P.globals.size W) (args := []) (args' := #[]) VRs.nil (n := fn.ntmps) hnt
  refine wpIn_mono (h _ W _ hsim hact) ?_
  rintro e ar w ⟨rfl, hl⟩
  exact hl

theorem fnsG_sound {W : World} (hm : P.follows .mixedOrders = true) (hK : KnownSound P K W) (n : Nat) : FnsSound P ⟨W, fun _ => false⟩ (fnsG P K n) := by
  rw [fnsG_eq]
  exact fns_sound hm hK n n (Nat.le_refl _) (fun _ => false)

/-! names for parts of a code -/
def hd : Code → Code
  | .seq a _ => a
  | c => c
def tl : Code → Code
  | .seq _ b => b
  | c => c
def rops : Code → Array Oper
  | .region _ ops _ => ops
  | _ => #[]
def rid : Code → Nat
  | .region i _ _ => i
  | _ => 0
def isSeq : Code → Bool
  | .seq _ _ => true
  | _ => false
theorem tri_hdtl {c : Code} (hs : isSeq c = true) {a : Ca} {S : St} {L1 L2 : Stg} (h : Tri P w0 (hd c) a S L1) (k : Tri P w0 (tl c) L1.act L1.st L2) : Tri P w0 c a S L2 := by
  cases c with
  | seq x y => exact tri_seq h k
  | _ => cases hs
theorem triEnd_hdtl {fn : Func} {c : Code} (hs : isSeq c = true) {a : Ca} {S : St} {L1 : Stg} (h : Tri P w0 (hd c) a S L1) (k : TriEnd P w0 fn (tl c) L1.act L1.st) : TriEnd P w0 fn c a S := by
  cases c with
  | seq x y => exact triEnd_seq h k
  | _ => cases hs
def tlN : Nat → Code → Code
  | 0, c => c
  | n + 1, c => tlN n (tl c)
def hds : Nat → Code → List Code
  | 0, _ => []
  | n + 1, c => hd c :: hds n (tl c)
def isSeqN : Nat → Code → Bool
  | 0, _ => true
  | n + 1, c => isSeq c && isSeqN n (tl c)
theorem tri_run {ih : Fns} (hih : FnsSound P w0 ih) {a1 : Ca} {S1 : St} {Q : Exit → Act → World → Prop} : ∀ (k : Nat) (c : Code), isSeqN k c = true → ∀ (a : Ca) (S : St), runSeq ih.exec (hds k c) a S = some (.normal, a1, S1) → ∀ (ρ : Rmap) (w : World) (ar : Act),
    Sim P w0 ρ S w → ActR ρ a ar → (∀ ρ1 ar1 w1, Ext ρ ρ1 → ActR ρ1 a1 ar1 → Sim P w0 ρ1 S1 w1 → (tlN k c).wpIn (FW none) 0 P Q ar1 w1) → c.wpIn (FW none) 0 P Q ar w
  | 0, c, _, a, S, h, ρ, w, ar, hs, ha, hk => by
    simp only [hds, runSeq, Option.some.injEq, Prod.mk.injEq, true_and] at h
    obtain ⟨rfl, rfl⟩ := h
    exact hk ρ ar w (Ext.refl _) ha hs
  | k + 1, c, hc, a, S, h, ρ, w, ar, hs, ha, hk => by
    simp only [isSeqN, Bool.and_eq_true] at hc
    cases c with
    | seq x y =>
      simp only [hds, hd, tl] at h
      unfold runSeq at h
      split at h
      · rename_i a2 S2 hx
        refine wpIn_seq (wpIn_mono (hih.exec none x _ _ _ _ _ hx ρ w ar none hs ha (.inl ⟨rfl, rfl⟩)) ?_)
        rintro e2 ar2 w2 ⟨ρ2, h1, h2, h3, h4⟩
        cases h2
        exact tri_run hih k y hc.2 a2 S2 h ρ2 w2 ar2 h4 h3 fun ρ1 ar1 w1 p q r => hk ρ1 ar1 w1 (h1.trans p) q r
      · rename_i hne
        exact absurd h (hne a1 S1)
    | _ => cases hc.1
theorem tri_hds {ih : Fns} (hih : FnsSound P w0 ih) {k : Nat} {c : Code} (hs : isSeqN k c = true) {a : Ca} {S : St} {L1 L2 : Stg} (h : litOk L1 (runSeq ih.exec (hds k c) a S) = true) (kk : Tri P w0 (tlN k c) L1.act L1.st L2) : Tri P w0 c a S L2 := by
  obtain ⟨a1, S1, e, A, B⟩ := lit_sound (P := P) h
  intro ρ w ar hsim ha
  refine tri_run hih k c hs a S e ρ w ar hsim ha fun ρ1 ar1 w1 x y z => wpIn_mono (kk ρ1 w1 ar1 (B _ _ _ z) (A _ _ y)) ?_
  rintro e2 ar2 w2 ⟨rfl, ρ2, k1, k2, k3⟩
  exact ⟨rfl, ρ2, x.trans k1, k2, k3⟩
theorem triEnd_hds {ih : Fns} (hih : FnsSound P w0 ih) {fn : Func} {k : Nat} {c : Code} (hs : isSeqN k c = true) {a : Ca} {S : St} {L1 : Stg} (h : litOk L1 (runSeq ih.exec (hds k c) a S) = true) (kk : TriEnd P w0 fn (tlN k c) L1.act L1.st) : TriEnd P w0 fn c a S := by
  obtain ⟨a1, S1, e, A, B⟩ := lit_sound (P := P) h
  intro ρ w ar hsim ha
  exact tri_run hih k c hs a S e ρ w ar hsim ha fun ρ1 ar1 w1 x y z => kk ρ1 w1 ar1 (B _ _ _ z) (A _ _ y)
def isText : Code → Bool
  | .region _ _ false => true
  | _ => false
theorem tri_rops {c : Code} (hs : isText c = true) {a : Ca} {S : St} {L : Stg} (h : TriOps P w0 (rops c) (rops c).toList a S L) : Tri P w0 c a S L := by
  cases c with
  | region id ops d =>
    cases d with
    | false => exact tri_region h
    | true => cases hs
  | _ => cases hs
/-- the operations from place i up to place j -/
def cutOps (c : Code) (i j : Nat) : List Oper := ((rops c).toList.drop i).take (j - i)
theorem triOps_cut {ih : Fns} (hih : FnsSound P w0 ih) {c : Code} {i j : Nat} (hij : Nat.ble i j = true) {a : Ca} {S : St} {L1 L2 : Stg} (h : litOk L1 (runOps P ih (rops c).toList (cutOps c i j) a S) = true) (hc : constsOk P (cutOps c i j) = true)
    (k : TriOps P w0 (rops c) ((rops c).toList.drop j) L1.act L1.st L2) : TriOps P w0 (rops c) ((rops c).toList.drop i) a S L2 := by
  have e : (rops c).toList.drop i = cutOps c i j ++ (rops c).toList.drop j := by
    have hij := Nat.le_of_ble_eq_true hij
    unfold cutOps
    conv => lhs; rw [← List.take_append_drop (j - i) ((rops c).toList.drop i)]
    rw [List.drop_drop]
    congr 2
    omega
  rw [e]
  exact triOps_app hih h hc k
theorem triOps_end {ih : Fns} (hih : FnsSound P w0 ih) {c : Code} {i : Nat} {a : Ca} {S : St} {L1 : Stg} (h : litOk L1 (runOps P ih (rops c).toList ((rops c).toList.drop i) a S) = true) (hc : constsOk P ((rops c).toList.drop i) = true) :
    TriOps P w0 (rops c) ((rops c).toList.drop i) a S L1 := by
  have := triOps_app hih h hc triOps_nil
  rw [List.append_nil] at this
  exact this
end Go.Cm

namespace Go.Cm
open Go
variable {P : Program} {w0 : Base} {K : Known}

/-- from a state on the code is left so, at a state that L writes out -/
def TriX (P : Program) (w0 : Base) (c : Code) (a : Ca) (S : St) (e : Exit) (L : Stg) : Prop :=
  ∀ (ρ : Rmap) (w : World) (ar : Act), Sim P w0 ρ S w → ActR ρ a ar → c.wpIn (FW none) 0 P (fun e1 ar1 w1 => e1 = e ∧ ∃ ρ1, Ext ρ ρ1 ∧ ActR ρ1 L.act ar1 ∧ Sim P w0 ρ1 L.st w1) ar w

def litX (e : Exit) (L : Stg) (r : Res3) : Bool := match e, r with
  | .normal, some (.normal, a, S) => litOk L (some (.normal, a, S))
  | .ret, some (.ret, a, S) => litOk L (some (.normal, a, S))
  | .exit i, some (.exit j, a, S) => Nat.beq i j && litOk L (some (.normal, a, S))
  | _, _ => false
theorem litX_sound {e : Exit} {L : Stg} {r : Res3} (h : litX e L r = true) : ∃ a S, r = some (e, a, S) ∧ (∀ ρ ar, ActR ρ a ar → ActR ρ L.act ar) ∧ (∀ (w0 : Base) (ρ : Rmap) (w : World), Sim P w0 ρ S w → Sim P w0 ρ L.st w) := by
  unfold litX at h
  split at h
  · obtain ⟨a1, S1, e1, A, B⟩ := lit_sound (P := P) h
    cases e1
    exact ⟨_, _, rfl, A, B⟩
  · obtain ⟨a1, S1, e1, A, B⟩ := lit_sound (P := P) h
    cases e1
    exact ⟨_, _, rfl, A, B⟩
  · rw [Bool.and_eq_true] at h
    obtain ⟨a1, S1, e1, A, B⟩ := lit_sound (P := P) h.2
    cases e1
    rw [of_nbeq h.1]
    exact ⟨_, _, rfl, A, B⟩
  · cases h

theorem triX_code {ih : Fns} (hih : FnsSound P w0 ih) {c : Code} {a : Ca} {S : St} {e : Exit} {L : Stg} (h : litX e L (ih.exec none c a S) = true) : TriX P w0 c a S e L := by
  obtain ⟨a1, S1, e1, A, B⟩ := litX_sound (P := P) h
  intro ρ w ar hs ha
  refine wpIn_mono (hih.exec none c _ _ _ _ _ e1 ρ w ar none hs ha (.inl ⟨rfl, rfl⟩)) ?_
  rintro e2 ar2 w2 ⟨ρ2, h1, h2, h3, h4⟩
  cases h2 with
  | normal => exact ⟨rfl, ρ2, h1, A _ _ h3, B _ _ _ h4⟩
  | exit id => exact ⟨rfl, ρ2, h1, A _ _ h3, B _ _ _ h4⟩
  | ret => exact ⟨rfl, ρ2, h1, A _ _ h3, B _ _ _ h4⟩
  | pan hp =>
    exfalso
    unfold litX at h
    rw [e1] at h
    cases h
theorem triX_seq {x y : Code} {a : Ca} {S : St} {e : Exit} {L1 L2 : Stg} (h : TriX P w0 x a S .normal L1) (k : TriX P w0 y L1.act L1.st e L2) : TriX P w0 (.seq x y) a S e L2 := by
  intro ρ w ar hs ha
  refine wpIn_seq (wpIn_mono (h ρ w ar hs ha) ?_)
  rintro e1 ar1 w1 ⟨rfl, ρ1, h1, h2, h3⟩
  refine wpIn_mono (k ρ1 w1 ar1 h3 h2) ?_
  rintro e2 ar2 w2 ⟨rfl, ρ2, k1, k2, k3⟩
  exact ⟨rfl, ρ2, h1.trans k1, k2, k3⟩
def leaves : Exit → Bool
  | .ret => true
  | .exit _ => true
  | _ => false
theorem triX_out {x y : Code} {a : Ca} {S : St} {e : Exit} {L : Stg} (he : leaves e = true) (h : TriX P w0 x a S e L) : TriX P w0 (.seq x y) a S e L := by
  intro ρ w ar hs ha
  refine wpIn_seq (wpIn_mono (h ρ w ar hs ha) ?_)
  rintro e1 ar1 w1 ⟨rfl, hx⟩
  cases e1 with
  | ret => exact ⟨rfl, hx⟩
  | exit i => exact ⟨rfl, hx⟩
  | _ => cases he
theorem triX_cond {c : Operand} {x y : Code} {a : Ca} {S : St} {e : Exit} {L : Stg} {b : Bool} (hc : a.ev c = .bool b) (h : TriX P w0 (bif b then x else y) a S e L) : TriX P w0 (.cond c x y) a S e L := by
  intro ρ w ar hs ha
  refine wpIn_cond (bool_ev ha hc) ?_
  cases b <;> exact h ρ w ar hs ha
theorem triX_block {i : Nat} {c : Code} {a : Ca} {S : St} {L : Stg} (h : TriX P w0 c a S (.exit i) L) : TriX P w0 (.block i c) a S .normal L := by
  intro ρ w ar hs ha
  refine wpIn_block (wpIn_mono (h ρ w ar hs ha) ?_)
  rintro e1 ar1 w1 ⟨rfl, hx⟩
  simp only [Exit.inBlock, if_true]
  exact ⟨trivial, hx⟩
theorem triX_through {i : Nat} {c : Code} {a : Ca} {S : St} {e : Exit} {L : Stg} (he : (match e with | .exit j => !(Nat.beq j i) | .normal => true | .ret => true | _ => false) = true) (h : TriX P w0 c a S e L) : TriX P w0 (.block i c) a S e L := by
  intro ρ w ar hs ha
  refine wpIn_block (wpIn_mono (h ρ w ar hs ha) ?_)
  rintro e1 ar1 w1 ⟨rfl, hx⟩
  cases e1 with
  | normal => exact ⟨rfl, hx⟩
  | ret => exact ⟨rfl, hx⟩
  | exit j =>
    have hj : j ≠ i := fun e => by subst e; simp at he
    simp only [Exit.inBlock, hj, if_false]
    exact ⟨trivial, hx⟩
  | _ => cases he
/-- a code that ends normally at a state -/
def TriS (P : Program) (w0 : Base) (c : Code) (a : Ca) (S : St) (a1 : Ca) (S1 : St) : Prop :=
  ∀ (ρ : Rmap) (w : World) (ar : Act), Sim P w0 ρ S w → ActR ρ a ar → c.wpIn (FW none) 0 P (fun e1 ar1 w1 => e1 = .normal ∧ ∃ ρ1, Ext ρ ρ1 ∧ ActR ρ1 a1 ar1 ∧ Sim P w0 ρ1 S1 w1) ar w
/-- rounds of a loop, one by one -/
inductive Rounds (P : Program) (w0 : Base) (c : Code) (e : Exit) (L : Stg) : Nat → Ca → St → Prop
  | last {a : Ca} {S : St} (h : TriX P w0 c a S e L) : Rounds P w0 c e L 0 a S
  | next {m : Nat} {a : Ca} {S : St} {L1 : Stg} (h : TriX P w0 c a S .normal L1) (k : Rounds P w0 c e L m L1.act L1.st) : Rounds P w0 c e L (m + 1) a S
  | step {m : Nat} {a : Ca} {S : St} {a1 : Ca} {S1 : St} (h : TriS P w0 c a S a1 S1) (k : Rounds P w0 c e L m a1 S1) : Rounds P w0 c e L (m + 1) a S
  | cut {m : Nat} {a : Ca} {S : St} {L1 : Stg} (ha : ∀ ρ ar, ActR ρ a ar → ActR ρ L1.act ar) (hs : ∀ (ρ : Rmap) (w : World), Sim P w0 ρ S w → Sim P w0 ρ L1.st w) (k : Rounds P w0 c e L m L1.act L1.st) : Rounds P w0 c e L m a S
theorem rounds_go {c : Code} {e : Exit} {L : Stg} {m : Nat} {a : Ca} {S : St} (hr : Rounds P w0 c e L m a S) : ∀ (ρ : Rmap) (w : World) (ar : Act), Sim P w0 ρ S w → ActR ρ a ar →
    c.wpIn (FW none) 0 P (fun e1 ar1 w1 => (e1 = e ∧ ∃ ρ1, Ext ρ ρ1 ∧ ActR ρ1 L.act ar1 ∧ Sim P w0 ρ1 L.st w1) ∨ (e1 = .normal ∧ ∃ k, k < m ∧ ∃ a1 S1 ρ1, Ext ρ ρ1 ∧ Rounds P w0 c e L k a1 S1 ∧ Sim P w0 ρ1 S1 w1 ∧ ActR ρ1 a1 ar1)) ar w := by
  induction hr with
  | last h =>
    intro ρ w ar hs ha
    exact wpIn_mono (h ρ w ar hs ha) fun _ _ _ hq => .inl hq
  | next h k _ =>
    intro ρ w ar hs ha
    refine wpIn_mono (h ρ w ar hs ha) ?_
    rintro e1 ar1 w1 ⟨rfl, ρ2, h1, h2, h3⟩
    exact .inr ⟨rfl, _, Nat.lt_succ_self _, _, _, ρ2, h1, k, h3, h2⟩
  | step h k _ =>
    intro ρ w ar hs ha
    refine wpIn_mono (h ρ w ar hs ha) ?_
    rintro e1 ar1 w1 ⟨rfl, ρ2, h1, h2, h3⟩
    exact .inr ⟨rfl, _, Nat.lt_succ_self _, _, _, ρ2, h1, k, h3, h2⟩
  | cut ha' hs' _ ih =>
    intro ρ w ar hs ha
    exact ih ρ w ar (hs' _ _ hs) (ha' _ _ ha)
theorem triX_loop {c : Code} {a : Ca} {S : St} {e : Exit} {L : Stg} {m : Nat} (he : leaves e = true) (h : Rounds P w0 c e L m a S) : TriX P w0 (.loop c) a S e L := by
  intro ρ w ar hs ha
  refine wpIn_loop_ghost (fun m ar w => ∃ a S ρ1, Ext ρ ρ1 ∧ Rounds P w0 c e L m a S ∧ Sim P w0 ρ1 S w ∧ ActR ρ1 a ar) m ⟨a, S, ρ, Ext.refl _, h, hs, ha⟩ ?_
  rintro m ar w ⟨a, S, ρ1, hx, hr, hs, ha⟩
  refine wpIn_mono (rounds_go hr ρ1 w ar hs ha) ?_
  rintro e1 ar1 w1 (⟨rfl, ρ2, h1, h2, h3⟩ | ⟨rfl, k, hk, a1, S1, ρ2, h1, h2, h3, h4⟩)
  · cases e1 with
    | ret => exact ⟨rfl, ρ2, hx.trans h1, h2, h3⟩
    | exit i => exact ⟨rfl, ρ2, hx.trans h1, h2, h3⟩
    | _ => cases he
  · exact ⟨k, hk, a1, S1, ρ2, hx.trans h1, h2, h3, h4⟩
theorem rounds_seq {ih : Fns} (hih : FnsSound P w0 ih) {c : Code} {e : Exit} {L : Stg} {m : Nat} {a1 : Ca} {S1 : St} (k0 : Rounds P w0 c e L m a1 S1) : ∀ (k : Nat) (a : Ca) (S : St), runSeq ih.exec (List.replicate k c) a S = some (.normal, a1, S1) → Rounds P w0 c e L (m + k) a S
  | 0, a, S, h => by
    simp only [List.replicate, runSeq, Option.some.injEq, Prod.mk.injEq, true_and] at h
    obtain ⟨rfl, rfl⟩ := h
    exact k0
  | k + 1, a, S, h => by
    rw [List.replicate_succ] at h
    unfold runSeq at h
    split at h
    · rename_i a2 S2 hx
      refine .step (a1 := a2) (S1 := S2) ?_ (rounds_seq hih k0 k a2 S2 h)
      intro ρ w ar hs ha
      refine wpIn_mono (hih.exec none c _ _ _ _ _ hx ρ w ar none hs ha (.inl ⟨rfl, rfl⟩)) ?_
      rintro e2 ar2 w2 ⟨ρ2, h1, h2, h3, h4⟩
      cases h2
      exact ⟨rfl, ρ2, h1, h3, h4⟩
    · rename_i hne
      exact absurd h (hne a1 S1)
theorem rounds_run {ih : Fns} (hih : FnsSound P w0 ih) {c : Code} {e : Exit} {L L1 : Stg} {m k : Nat} {a : Ca} {S : St} (h : litOk L1 (runSeq ih.exec (List.replicate k c) a S) = true) (k0 : Rounds P w0 c e L m L1.act L1.st) : Rounds P w0 c e L (m + k) a S := by
  obtain ⟨a1, S1, e1, A, B⟩ := lit_sound (P := P) h
  exact rounds_seq hih (.cut A (fun ρ w => B w0 ρ w) k0) k a S e1
theorem triX_region {id : Nat} {ops : Array Oper} {a : Ca} {S : St} {L : Stg} (h : TriOps P w0 ops ops.toList a S L) : TriX P w0 (.region id ops false) a S .normal L := by
  intro ρ w ar hs ha
  exact wpIn_region_list (h ρ w ar hs ha _ fun ρ1 ar1 w1 x y z => ⟨rfl, ρ1, x, y, z⟩)
theorem triX_hds {ih : Fns} (hih : FnsSound P w0 ih) {k : Nat} {c : Code} (hs : isSeqN k c = true) {a : Ca} {S : St} {e : Exit} {L1 L2 : Stg} (h : litOk L1 (runSeq ih.exec (hds k c) a S) = true) (kk : TriX P w0 (tlN k c) L1.act L1.st e L2) : TriX P w0 c a S e L2 := by
  obtain ⟨a1, S1, e1, A, B⟩ := lit_sound (P := P) h
  intro ρ w ar hsim ha
  refine tri_run hih k c hs a S e1 ρ w ar hsim ha fun ρ1 ar1 w1 x y z => wpIn_mono (kk ρ1 w1 ar1 (B _ _ _ z) (A _ _ y)) ?_
  rintro e2 ar2 w2 ⟨rfl, ρ2, k1, k2, k3⟩
  exact ⟨rfl, ρ2, x.trans k1, k2, k3⟩

/-! ### calls -/
def CallT (P : Program) (w0 : Base) (f : FuncId) (vs : List Value) (S : St) (v : Value) (T : St) : Prop :=
  ∀ (ρ : Rmap) (w : World) (args' : Array Value), Sim P w0 ρ S w → VRs ρ vs args'.toList → NextUp P (EndGood P w0 ρ (.returned v) T) ((callFunc f args').run P w)
/-- a function's end -/
def TriFin (P : Program) (w0 : Base) (fn : Func) (c : Code) (a : Ca) (S : St) (v : Value) (T : St) : Prop :=
  ∀ (ρ : Rmap) (w : World) (ar : Act), Sim P w0 ρ S w → ActR ρ a ar → ∀ (R : Ending → World → Prop), (∀ e w, EndGood P w0 ρ (.returned v) T e w → R e w) → c.wpIn (FW none) 0 P (bodyPostM Fence.wide 0 P fn R) ar w
theorem endGood_mono {ρ ρ1 : Rmap} (hx : Ext ρ ρ1) {e : Ending} {T : St} {e' : Ending} {w : World} (h : EndGood P w0 ρ1 e T e' w) : EndGood P w0 ρ e T e' w := by
  obtain ⟨ρ2, a, b, c⟩ := h
  exact ⟨ρ2, hx.trans a, b, c⟩
theorem triFin_seq {fn : Func} {x y : Code} {a : Ca} {S : St} {L1 : Stg} {v : Value} {T : St} (h : TriX P w0 x a S .normal L1) (k : TriFin P w0 fn y L1.act L1.st v T) : TriFin P w0 fn (.seq x y) a S v T := by
  intro ρ w ar hs ha R hR
  refine wpIn_seq (wpIn_mono (h ρ w ar hs ha) ?_)
  rintro e1 ar1 w1 ⟨rfl, ρ1, h1, h2, h3⟩
  exact k ρ1 w1 ar1 h3 h2 R fun e w h => hR e w (endGood_mono h1 h)
theorem triFin_hds {ih : Fns} (hih : FnsSound P w0 ih) {fn : Func} {k : Nat} {c : Code} (hs : isSeqN k c = true) {a : Ca} {S : St} {L1 : Stg} {v : Value} {T : St} (h : litOk L1 (runSeq ih.exec (hds k c) a S) = true) (kk : TriFin P w0 fn (tlN k c) L1.act L1.st v T) : TriFin P w0 fn c a S v T := by
  obtain ⟨a1, S1, e1, A, B⟩ := lit_sound (P := P) h
  intro ρ w ar hsim ha R hR
  exact tri_run hih k c hs a S e1 ρ w ar hsim ha fun ρ1 ar1 w1 x y z => kk ρ1 w1 ar1 (B _ _ _ z) (A _ _ y) R fun e w h => hR e w (endGood_mono x h)
def tupF : List Value → Value
  | [v] => v
  | vs => .tuple vs.toArray
/-- what a function returns, and the blocks that are still of use -/
def finOk (P : Program) (rs : List ResultVar) (v : Value) (L : Stg) (r : Res3) : Bool := match r with
  | some (e, a, S) => (match e with | .normal => true | .ret => true | _ => false) && (match takeMarks a.defers S with
    | some T => match resultsL P a T rs with
      | some vs => sameV 100000 (tupF vs) v && (L.blks.all (fun x => match T.get x.1 with
        | some B => sameBlk x.2 B
        | none => false) && Nat.beq T.size L.size)
      | none => false
    | none => false)
  | none => false
theorem blks_sub {L : Stg} {T : St} (h1 : (L.blks.all (fun x => match T.get x.1 with
        | some B => sameBlk x.2 B
        | none => false)) = true) (h2 : Nat.beq T.size L.size = true) {ρ : Rmap} {w : World} (hs : Sim P w0 ρ T w) : Sim P w0 ρ L.st w := by
  refine hs.sub (fun b B hB => ?_) (of_nbeq h2).symm
  have hm := litH_get _ _ _ hB
  have := List.all_eq_true.1 h1 (b, B) hm
  simp only at this
  split at this
  · rename_i C hC
    rw [sameBlk_eq _ _ this]; exact hC
  · cases this
theorem triFin_code {ih : Fns} (hih : FnsSound P w0 ih) {fn : Func} {c : Code} {a : Ca} {S : St} {v : Value} {L : Stg} (h : finOk P fn.results.toList v L (ih.exec none c a S) = true) : TriFin P w0 fn c a S v L.st := by
  intro ρ w ar hs ha R hR
  unfold finOk at h
  split at h
  · rename_i e a3 S3 hx
    rw [Bool.and_eq_true] at h
    obtain ⟨he, h⟩ := h
    split at h
    · rename_i T htm
      split at h
      · rename_i vs hres
        simp only [Bool.and_eq_true] at h
        obtain ⟨hv, hb, hz⟩ := h
        refine wpIn_mono (hih.exec none c _ _ _ _ _ hx ρ w ar none hs ha (.inl ⟨rfl, rfl⟩)) ?_
        rintro e3 ar3 w3 ⟨ρ3, p1, p2, p3, p4⟩
        have key : LeavesInM Fence.wide 0 P fn ar3.tmps R ar3.defers .returning w3 := by
          refine takeMarks_sound (ρ := ρ3) (S2 := T) (by simp) (fun w4 hw4 => ?_) a3.defers S3 ar3.defers w3 htm p3.df p4
          obtain ⟨vs', hvs, hr⟩ := results_sound hw4 p3 hres
          refine ⟨_, hr, hR _ _ ⟨ρ3, p1, .ret ?_, blks_sub hb hz hw4⟩⟩
          rw [← sameV_eq _ _ _ hv]
          have hl := hvs.1
          cases vs with
          | nil =>
            cases vs' with
            | nil => exact VR.tuple' VRs.nil
            | cons y r => simp at hl
          | cons x r =>
            cases vs' with
            | nil => simp at hl
            | cons y r' =>
              cases r with
              | nil =>
                cases r' with
                | nil => exact hvs.head
                | cons _ _ => simp at hl
              | cons x2 r2 =>
                cases r' with
                | nil => simp at hl
                | cons y2 r2' => exact VR.tuple' hvs
        cases p2 with
        | normal => exact key
        | ret => exact key
        | exit id => cases he
        | pan hp => cases he
      · cases h
    · cases h
  · cases h
theorem callT_fin {f : FuncId} {fn : Func} {c : Code} (hf : P.funcs[f]? = some fn) (hb : fn.body = some c) (hnm : (fn.name == "runtime.NumGoroutine") = false) {vs : List Value} {n : Nat} (hn : maxN fn.ntmps vs.length = n) (hle : Nat.ble n 256 = true)
    {S : St} {v : Value} {T : St} (h : TriFin P w0 fn c { n := n, t := PT.ofList 0 (PT.nil 8) vs, defers := [] } S v T) : CallT P w0 f vs S v T := by
  intro ρ w args' hs hv
  rw [run_callFunc hf hb hnm]
  subst hn
  exact callsIn_of_wp_marks (n := 0) hf hb trivial (h ρ w _ hs (enter_act hv (Nat.le_of_ble_eq_true hle)) _ fun _ _ h => h)

/-- a call in a region, run apart -/
theorem triOps_call {c : Code} {i : Nat} {o : Oper} {x : Operand} {as : Array Operand} {ts : Array TypeId} {f : FuncId} {fi ca : Array Value} {vs : List Value} {v : Value} {L0 Lc L1 L2 : Stg}
    (ho : nth (rops c).toList i = some o) (hop : o.op = .call ⟨.value x, as, ts⟩) (hw : wantedC (rops c).toList L0.act o = true) (hx : L0.act.ev x = .func (.func f) fi ca) (hv : (fi.toList ++ as.toList.map L0.act.ev) ++ ca.toList = vs) (hc : constsOk P [o] = true)
    (hcall : CallT P w0 f vs L0.st v Lc.st) (hput : litOk L1 (match L0.act.put o.dst v with | some a => some (.normal, a, Lc.st) | none => none) = true)
    (k : TriOps P w0 (rops c) ((rops c).toList.drop (i + 1)) L1.act L1.st L2) : TriOps P w0 (rops c) ((rops c).toList.drop i) L0.act L0.st L2 := by
  intro ρ w ar hs ha Q hQ
  have hdrop : (rops c).toList.drop i = o :: (rops c).toList.drop (i + 1) := by
    rw [nth_eq] at ho
    obtain ⟨hi, he⟩ := List.getElem?_eq_some_iff.1 ho
    rw [List.drop_eq_getElem_cons hi, he]
  rw [hdrop]
  unfold wpListIn
  have hwant := wanted_sound ha (ops := rops c) (o := o)
  rw [← hwant, hw]
  simp only [if_true]
  refine ⟨about_wide, ?_⟩
  have hOpC := constsOk_spec hc o (by simp)
  have hev := ha.evs hs hOpC
  have hd : ∀ c, o.op ≠ .defer c := by
    intro c hc
    rw [hop] at hc
    cases hc
  rw [Oper.semAt_eq _ _ _ hd]
  have hfv := hev x (by rw [hop]; simp [Op.operands, Call.operands])
  rw [hx] at hfv
  obtain ⟨fn', first', cap', hg, h1, h2⟩ := hfv.func_inv
  obtain ⟨a1, S1, e1, A, B⟩ := lit_sound (P := P) hput
  split at e1
  · rename_i a' hp
    cases e1
    have hfn : ∃ ca', fn' = .func f ∧ ca' = cap' ∧ VRs ρ ca.toList ca'.toList := by
      cases h1 with
      | func f ha i1 hc i2 => exact ⟨_, rfl, rfl, hc, i2⟩
    obtain ⟨ca', rfl, rfl, hcap⟩ := hfn
    have hrun : (execOp ar.eval o).run P w = (callFunc f ((first' ++ as.map ar.eval) ++ ca')).run P w := by
      rw [run_call (P := P) ar.eval hop w (d := { target := .fn (.func f) ca', args := first' ++ as.map ar.eval }) (by simp [resolve, hg, Deferred.ofValue])]
      rfl
    rw [hrun]
    have hargs : VRs ρ vs ((first' ++ as.map ar.eval) ++ ca').toList := by
      rw [← hv, Array.toList_append, Array.toList_append]
      exact (h2.append (args_vr fun y hy => hev y (by rw [hop]; simp [Op.operands, Call.operands, hy]))).append hcap
    refine upon_of_up (hcall ρ w _ hs hargs) (.inl ⟨v, rfl, rfl⟩) ⟨?_, ?_⟩
    · intro v2 e2 ρ' v' w' q1 q2 q3
      cases e2
      exact k ρ' w' _ (B _ _ _ q3) (A _ _ ((ha.mono q1).put hp q2)) Q fun ρ2 ar2 w2 p q r => hQ ρ2 ar2 w2 (q1.trans p) q r
    · intro c2 e2; cases e2
  · cases e1

/-- a function of no arguments that returns true -/
theorem call_true {W : World} {f : FuncId} {fn : Func} {c : Code} (hf : P.funcs[f]? = some fn) (hb : fn.body = some c) (hnm : (fn.name == "runtime.NumGoroutine") = false) {G : List (Nat × List Value)} {T : St}
    (h : CallT P ⟨W, fun _ => false⟩ f [] (startS G P.globals.size) (.bool true) T) (hn : P.globals.size ≤ W.heap.size)
    (hG : ∀ g l, (g, l) ∈ G → ∃ (arr : Array Value) (e : TypeId) (fz : Nat × Nat), W.heap[g]? = some (.cells arr e fz) ∧ arr.toList = l) (hfl : ∀ g l, (g, l) ∈ G → ∀ v ∈ l, flatV flatN v = true) :
    Calls P f #[] W fun e w => e = .returned (.bool true) ∧ Kept W w := by
  have hsim := start_sim (P := P) hn hG hfl
  have := h _ W #[] hsim VRs.nil
  rw [run_callFunc hf hb hnm] at this
  refine (callsIn_wide.1 this).mono ?_
  rintro e w ⟨ρ', _, h2, h3⟩
  cases h2 with
  | ret hv => cases hv; exact ⟨rfl, h3.kept⟩

/-! names for parts of a code -/
def tA : Code → Code
  | .seq a _ => a
  | .cond _ a _ => a
  | .block _ c => c
  | .loop c => c
  | .scope c => c
  | c => c
def tB : Code → Code
  | .seq _ b => b
  | .cond _ _ b => b
  | c => c
def tC : Code → Operand
  | .cond c _ _ => c
  | _ => .const undef
def tI : Code → Nat
  | .block i _ => i
  | _ => 0
def tK : Code → Nat
  | .region _ _ false => 1
  | .seq _ _ => 3
  | .cond _ _ _ => 4
  | .block _ _ => 5
  | .loop _ => 6
  | _ => 10
section
variable {c : Code} {a : Ca} {S : St} {e : Exit} {L L1 : Stg}
theorem tx_seq (hk : tK c = 3) (h : TriX P w0 (tA c) a S .normal L1) (k : TriX P w0 (tB c) L1.act L1.st e L) : TriX P w0 c a S e L := by
  cases c <;> first | exact triX_seq h k | (rename_i d; cases d <;> cases hk) | cases hk
theorem tx_out (hk : tK c = 3) (he : leaves e = true) (h : TriX P w0 (tA c) a S e L) : TriX P w0 c a S e L := by
  cases c <;> first | exact triX_out he h | (rename_i d; cases d <;> cases hk) | cases hk
theorem tx_cond_t (hk : tK c = 4) (hc : a.ev (tC c) = .bool true) (h : TriX P w0 (tA c) a S e L) : TriX P w0 c a S e L := by
  cases c <;> first | exact triX_cond (b := true) hc h | (rename_i d; cases d <;> cases hk) | cases hk
theorem tx_cond_f (hk : tK c = 4) (hc : a.ev (tC c) = .bool false) (h : TriX P w0 (tB c) a S e L) : TriX P w0 c a S e L := by
  cases c <;> first | exact triX_cond (b := false) hc h | (rename_i d; cases d <;> cases hk) | cases hk
theorem tx_block (hk : tK c = 5) (h : TriX P w0 (tA c) a S (.exit (tI c)) L) : TriX P w0 c a S .normal L := by
  cases c <;> first | exact triX_block h | (rename_i d; cases d <;> cases hk) | cases hk
theorem tx_through (hk : tK c = 5) (he : (match e with | .exit j => !(Nat.beq j (tI c)) | .normal => true | .ret => true | _ => false) = true) (h : TriX P w0 (tA c) a S e L) : TriX P w0 c a S e L := by
  cases c <;> first | exact triX_through he h | (rename_i d; cases d <;> cases hk) | cases hk
theorem tx_loop {m : Nat} (hk : tK c = 6) (he : leaves e = true) (h : Rounds P w0 (tA c) e L m a S) : TriX P w0 c a S e L := by
  cases c <;> first | exact triX_loop he h | (rename_i d; cases d <;> cases hk) | cases hk
theorem tx_region (hk : tK c = 1) (h : TriOps P w0 (rops c) (rops c).toList a S L) : TriX P w0 c a S .normal L := by
  cases c <;> first | (rename_i d; cases d <;> first | exact triX_region h | cases hk) | cases hk
theorem tf_seq {fn : Func} {v : Value} {T : St} (hk : tK c = 3) (h : TriX P w0 (tA c) a S .normal L1) (k : TriFin P w0 fn (tB c) L1.act L1.st v T) : TriFin P w0 fn c a S v T := by
  cases c <;> first | exact triFin_seq h k | (rename_i d; cases d <;> cases hk) | cases hk
end
/-- a body that is left at a state that is written out -/
theorem tf_x {fn : Func} {c : Code} {a : Ca} {S : St} {e : Exit} {L Lc : Stg} {v : Value} (he : (match e with | .normal => true | .ret => true | _ => false) = true) (h : TriX P w0 c a S e L)
    (hf : finOk P fn.results.toList v Lc (some (.ret, L.act, L.st)) = true) : TriFin P w0 fn c a S v Lc.st := by
  intro ρ w ar hs ha R hR
  refine wpIn_mono (h ρ w ar hs ha) ?_
  rintro e1 ar1 w1 ⟨rfl, ρ1, h1, h2, h3⟩
  have key : LeavesInM Fence.wide 0 P fn ar1.tmps R ar1.defers .returning w1 := by
    unfold finOk at hf
    simp only [Bool.true_and] at hf
    split at hf
    · rename_i T htm
      split at hf
      · rename_i vs hres
        simp only [Bool.and_eq_true] at hf
        obtain ⟨hv, hb, hz⟩ := hf
        refine takeMarks_sound (ρ := ρ1) (S2 := T) (by simp) (fun w4 hw4 => ?_) L.act.defers L.st ar1.defers w1 htm h2.df h3
        obtain ⟨vs', hvs, hr⟩ := results_sound hw4 h2 hres
        refine ⟨_, hr, hR _ _ ⟨ρ1, h1, .ret ?_, blks_sub hb hz hw4⟩⟩
        rw [← sameV_eq _ _ _ hv]
        have hl := hvs.1
        cases vs with
        | nil =>
          cases vs' with
          | nil => exact VR.tuple' VRs.nil
          | cons y r => simp at hl
        | cons x r =>
          cases vs' with
          | nil => simp at hl
          | cons y r' =>
            cases r with
            | nil =>
              cases r' with
              | nil => exact hvs.head
              | cons _ _ => simp at hl
            | cons x2 r2 =>
              cases r' with
              | nil => simp at hl
              | cons y2 r2' => exact VR.tuple' hvs
      · cases hf
    · cases hf
  cases e1 with
  | normal => exact key
  | ret => exact key
  | _ => cases he
end Go.Cm

namespace Go.Cm
open Go
variable {P : Program} {w0 : Base}
/-- a block over old memory -/
theorem Sim.view {ρ : Rmap} {S : St} {w : World} (h : Sim P w0 ρ S w) {c : List Value} {e : TypeId} {L : Loc} (hr : L.r < w0.heap.size) (hB : BlkOk P (upd ρ S.size L) (.cells c e true false []) w.heap[L.r]? L) :
    Ext ρ (upd ρ S.size L) ∧ Sim P w0 (upd ρ S.size L) (S.new (.cells c e true false [])).2 w := by
  have hnone : ρ S.size = none := by
    cases hx : ρ S.size with
    | none => rfl
    | some M => exact absurd (h.dom _ _ hx).1 (Nat.lt_irrefl _)
  have hext := ext_upd L hnone
  have hget : ∀ b, (S.new (.cells c e true false [])).2.get b = if b = S.size then some (.cells c e true false []) else S.get b := by
    intro b
    show (⟨S.heap.set S.size _, S.size + 1⟩ : St).get b = _
    simp only [St.get, Heap.get_set_any]
  refine ⟨hext, ⟨h.size, h.old, h.os, h.out, fun b M hb => ?_, fun b M C hb hC => ?_, fun b M C hb hC hm => ?_, fun g hg => let ⟨M, a, b⟩ := h.glob g hg; ⟨M, hext _ _ a, b⟩, fun b hb => ?_⟩⟩
  · show b < S.size + 1 ∧ _
    unfold upd at hb
    split at hb
    · cases hb
      have := h.size
      exact ⟨by omega, by omega⟩
    · have := h.dom b M hb
      exact ⟨by omega, this.2⟩
  · rw [hget] at hC
    unfold upd at hb
    by_cases e' : b = S.size
    · rw [if_pos e'] at hb hC
      cases hb; cases hC
      exact hB
    · rw [if_neg e'] at hb hC
      exact (h.blk b M C hb hC).mono hext
  · rw [hget] at hC
    unfold upd at hb
    by_cases e' : b = S.size
    · rw [if_pos e'] at hb hC
      cases hC
      cases hm
    · rw [if_neg e'] at hb hC
      refine ⟨(h.own b M C hb hC hm).1, fun b' L' B' hb' hr' hB' hne => ?_⟩
      rw [hget] at hB'
      unfold upd at hb'
      by_cases e2 : b' = S.size
      · rw [if_pos e2] at hb'
        cases hb'
        have := (h.own b M C hb hC hm).1
        omega
      · rw [if_neg e2] at hb' hB'
        exact (h.own b M C hb hC hm).2 b' L' B' hb' hr' hB' hne
  · have := h.no b hb
    refine ⟨?_, by show b < S.size + 1; omega⟩
    unfold upd
    rw [if_neg (by omega)]
    exact this.1

end Go.Cm

namespace Go.Cm
open Go
/-- a cell without addresses, of the plain kinds -/
def scalarV : Value → Bool
  | .bool _ => true
  | .int _ _ => true
  | .string _ => true
  | _ => false
/-! the pairs of blocks that two arguments pair: scalars, slices, aggregates of such -/
mutual
def renP : Nat → Value → Value → Option (List (Nat × Nat))
  | 0, _, _ => none
  | _ + 1, .slice (some ⟨b1, o1, none⟩) n1 c1, .slice (some ⟨b, o, none⟩) n2 c2 => bif Nat.beq o1 o && (Nat.beq n1 n2 && Nat.beq c1 c2) then some [(b1, b)] else none
  | _ + 1, .slice none 0 0, .slice none 0 0 => some []
  | n + 1, .agg a, .agg b => renL n a.toList b.toList
  | _ + 1, x, y => bif scalarV x && sameV 1000 x y then some [] else none
def renL : Nat → List Value → List Value → Option (List (Nat × Nat))
  | 0, _, _ => none
  | _ + 1, [], [] => some []
  | n + 1, x :: l, y :: r => match renP n x y, renL n l r with
    | some p, some q => some (p ++ q)
    | _, _ => none
  | _ + 1, _, _ => none
end
/-- rows that are only read, added to a memory -/
def addAll (S : St) : List (List Value × TypeId) → St
  | [] => S
  | (c, e) :: r => addAll (S.new (.cells c e true false [])).2 r
/-- does a call's memory hold these cells -/
def memOk (n : Nat) (vs1 : List Value) (bl : List (List Value × TypeId)) (args : List Value) (S : St) : Bool := match renL 1000 vs1 args with
  | some l => l.all (fun p => Nat.ble n p.1 && (match nth bl (p.1 - n), S.get p.2 with
    | some (c, e), some (.cells c' e' true _ _) => sameL 100000 c c' && (Nat.beq e e' && c.all scalarV)
    | _, _ => false)) && (l.map (·.1) == (List.range' n bl.length)) 
  | none => false

/-- the answers of calls that are known with their memory -/
def memCall (n : Nat) : List (Nat × List Value × List (List Value × TypeId) × Value) → FuncId → List Value → St → Option Value
  | [], _, _, _ => none
  | (g, vs, bl, v) :: r, f, a, S => bif Nat.beq f g && memOk n vs bl a S then some v else memCall n r f a S
end Go.Cm

namespace Go.Cm
open Go
variable {P : Program} {w0 : Base} {K : Known}

theorem scalar_vr {ρ : Rmap} {v v' : Value} (hs : scalarV v = true) (h : VR ρ v v') : v' = v := by
  cases h <;> first | rfl | cases hs
theorem scalar_refl {ρ : Rmap} {v : Value} (hs : scalarV v = true) : VR ρ v v := by
  cases v <;> first | exact .bool _ | exact .int _ _ | exact .string _ | cases hs

theorem bif_some {α : Type} {b : Bool} {x l : α} (h : (bif b then some x else none) = some l) : b = true ∧ l = x := by
  cases b
  · cases h
  · cases h; exact ⟨rfl, rfl⟩
theorem ren_sound {ρ ρ1 : Rmap} : ∀ (n : Nat), (∀ (x y : Value) (l : List (Nat × Nat)), renP n x y = some l → (∀ p, p ∈ l → ρ1 p.1 = ρ p.2) → ∀ y', VR ρ y y' → VR ρ1 x y') ∧
    (∀ (xs ys : List Value) (l : List (Nat × Nat)), renL n xs ys = some l → (∀ p, p ∈ l → ρ1 p.1 = ρ p.2) → ∀ ys', VRs ρ ys ys' → VRs ρ1 xs ys')
  | 0 => ⟨fun x y l h => by simp [renP] at h, fun xs ys l h => by simp [renL] at h⟩
  | n + 1 => by
    obtain ⟨ihP, ihL⟩ := ren_sound (ρ := ρ) (ρ1 := ρ1) n
    refine ⟨fun x y l h hm y' hv => ?_, fun xs ys l h hm ys' hv => ?_⟩
    · unfold renP at h
      split at h
      · cases h
      · rename_i n' b1 o1 n1 c1 b o n2 c2 he
        cases he
        cases hc : (Nat.beq o1 o && (Nat.beq n1 n2 && Nat.beq c1 c2)) with
        | false => rw [hc] at h; cases h
        | true =>
          rw [hc] at h
          cases h
          simp only [Bool.and_eq_true] at hc
          have e1 := of_nbeq hc.1
          have e2 := of_nbeq hc.2.1
          have e3 := of_nbeq hc.2.2
          subst e1; subst e2; subst e3
          have hb := hm (b1, b) (by simp)
          cases hv with
          | slice h hn hc hr ho => exact .slice (by rw [← h]; exact hb) hn hc hr ho
      · cases hv; exact .snil
      · obtain rfl := Nat.succ.inj ‹n + 1 = Nat.succ _›
        obtain ⟨a', rfl, hr⟩ := hv.agg_inv
        have := ihL _ _ _ h hm _ hr
        exact .agg this.1 this.2
      · obtain ⟨hc, rfl⟩ := bif_some h
        rw [Bool.and_eq_true] at hc
        have e := sameV_eq _ _ _ hc.2
        subst e
        rw [scalar_vr hc.1 hv]
        exact scalar_refl hc.1
    · unfold renL at h
      split at h
      · cases h
      · cases hv.nil_inv; exact VRs.nil
      · split at h
        · obtain rfl := Nat.succ.inj ‹n + 1 = Nat.succ _›
          rename_i p q hp hq
          cases h
          obtain ⟨y', l', rfl, h1, h2⟩ := hv.cons_inv
          exact VRs.cons (ihP _ _ _ hp (fun r hr => hm r (by simp [hr])) _ h1) (ihL _ _ _ hq (fun r hr => hm r (by simp [hr])) _ h2)
        · cases h
      · cases h

theorem addAll_size : ∀ (bl : List (List Value × TypeId)) (S : St), S.size ≤ (addAll S bl).size
  | [], _ => Nat.le_refl _
  | (c, e) :: r, S => Nat.le_trans (Nat.le_succ _) (addAll_size r (S.new (.cells c e true false [])).2)
theorem views {w : World} : ∀ (bl : List (List Value × TypeId)) (Ls : List Loc) (ρ : Rmap) (S : St), Ls.length = bl.length → Sim P w0 ρ S w → (∀ (i : Nat) (c : List Value) (e : TypeId) (L : Loc), bl[i]? = some (c, e) → Ls[i]? = some L → L.r < w0.heap.size ∧ c.all scalarV = true ∧ ∃ own kin ρ0, BlkOk P ρ0 (.cells c e true own kin) w.heap[L.r]? L) →
    ∃ ρ', Ext ρ ρ' ∧ Sim P w0 ρ' (addAll S bl) w ∧ ∀ (i : Nat) (L : Loc), Ls[i]? = some L → ρ' (S.size + i) = some L
  | [], [], ρ, S, _, hs, _ => ⟨ρ, Ext.refl _, hs, fun i L h => by simp at h⟩
  | [], _ :: _, _, _, h, _, _ => by simp at h
  | _ :: _, [], _, _, h, _, _ => by simp at h
  | (c, e) :: bl, L :: Ls, ρ, S, hl, hs, hb => by
    obtain ⟨h1, h2, own, kin, ρ0, arr, e', fz, k1, k2, k3, k4, k5, k6, k7⟩ := hb 0 c e L rfl rfl
    obtain ⟨v1, v2⟩ := hs.view (c := c) (e := e) (L := L) h1 ⟨arr, e', fz, k1, k2, fun i v hv => by
      obtain ⟨v', q1, q2⟩ := k3 i v hv
      have hsc := List.all_eq_true.1 h2 v (List.mem_of_getElem? hv)
      rw [scalar_vr hsc q2] at q1
      exact ⟨v, q1, scalar_refl hsc⟩, (fun h => nomatch h), k5, (fun h => nomatch h), fun h => h.elim (fun h => nomatch h) (fun h => nomatch h)⟩
    obtain ⟨ρ', x1, x2, x3⟩ := views bl Ls _ _ (by simpa using hl) v2 (fun i c e L h h' => hb (i + 1) c e L (by simpa using h) (by simpa using h'))
    refine ⟨ρ', v1.trans x1, x2, fun i M h => ?_⟩
    cases i with
    | zero => simp at h; subst h; exact x1 _ _ (by rw [Nat.add_zero]; exact upd_same _ _ _)
    | succ i =>
      have := x3 i M (by simpa using h)
      rw [show S.size + (i + 1) = S.size + 1 + i by omega]
      exact this

theorem ren_some {ρ : Rmap} : ∀ (n : Nat), (∀ (x y : Value) (l : List (Nat × Nat)), renP n x y = some l → ∀ y', VR ρ y y' → ∀ p, p ∈ l → ∃ L, ρ p.2 = some L) ∧
    (∀ (xs ys : List Value) (l : List (Nat × Nat)), renL n xs ys = some l → ∀ ys', VRs ρ ys ys' → ∀ p, p ∈ l → ∃ L, ρ p.2 = some L)
  | 0 => ⟨fun x y l h => by simp [renP] at h, fun xs ys l h => by simp [renL] at h⟩
  | n + 1 => by
    obtain ⟨ihP, ihL⟩ := ren_some (ρ := ρ) n
    refine ⟨fun x y l h y' hv p hp => ?_, fun xs ys l h ys' hv p hp => ?_⟩
    · unfold renP at h
      split at h
      · cases h
      · rename_i n' b1 o1 n1 c1 b o n2 c2 he
        cases he
        cases hc : (Nat.beq o1 o && (Nat.beq n1 n2 && Nat.beq c1 c2)) with
        | false => rw [hc] at h; cases h
        | true =>
          rw [hc] at h
          cases h
          cases hv with
          | slice h _ _ _ _ =>
            simp only [List.mem_singleton] at hp
            subst hp
            exact ⟨_, h⟩
      · cases h
        exact nomatch hp
      · obtain rfl := Nat.succ.inj ‹n + 1 = Nat.succ _›
        obtain ⟨a', rfl, hr⟩ := hv.agg_inv
        exact ihL _ _ _ h _ hr p hp
      · obtain ⟨hc, rfl⟩ := bif_some h
        exact nomatch hp
    · unfold renL at h
      split at h
      · cases h
      · cases h
        exact nomatch hp
      · split at h
        · obtain rfl := Nat.succ.inj ‹n + 1 = Nat.succ _›
          rename_i p1 q1 hp1 hq1
          cases h
          obtain ⟨y', l', rfl, h1, h2⟩ := hv.cons_inv
          rcases List.mem_append.1 hp with hp | hp
          · exact ihP _ _ _ hp1 _ h1 p hp
          · exact ihL _ _ _ hq1 _ h2 p hp
        · cases h
      · cases h

theorem mem_calls {w : World} {ρ : Rmap} {S : St} {f : FuncId} {fn : Func} {c : Code} (hf : P.funcs[f]? = some fn) (hb : fn.body = some c) (hnm : (fn.name == "runtime.NumGoroutine") = false) {G : List (Nat × List Value)} {vs1 : List Value} {bl : List (List Value × TypeId)} {v : Value} {T : St}
    (hs : Sim P w0 ρ S w) {args : List Value} {args' : Array Value} (hv : VRs ρ args args'.toList) (hok : memOk P.globals.size vs1 bl args S = true) (hsv : scalarV v = true)
    (hcall : CallT P ⟨w, fun _ => false⟩ f vs1 (addAll (startS G P.globals.size) bl) v T) (hn : P.globals.size ≤ w.heap.size)
    (hG : ∀ g l, (g, l) ∈ G → ∃ (arr : Array Value) (e : TypeId) (fz : Nat × Nat), w.heap[g]? = some (.cells arr e fz) ∧ arr.toList = l) (hfl : ∀ g l, (g, l) ∈ G → ∀ v ∈ l, flatV flatN v = true) :
    Calls P f args' w fun e w' => e = .returned v ∧ Kept w w' := by
  unfold memOk at hok
  split at hok
  · rename_i l hl
    rw [Bool.and_eq_true] at hok
    obtain ⟨hall, hmap⟩ := hok
    have hmap := eq_of_beq hmap
    have hlen : l.length = bl.length := by
      have := congrArg List.length hmap
      simpa using this
    -- where the rows lie
    have hloc : ∀ i p, l[i]? = some p → p.1 = P.globals.size + i ∧ ∃ c e own kin L, bl[i]? = some (c, e) ∧ S.get p.2 = some (.cells c e true own kin) ∧ c.all scalarV = true ∧ ρ p.2 = some L := by
      intro i p h
      have hlt : i < l.length := (List.getElem?_eq_some_iff.1 h).1
      have e : p.1 = P.globals.size + i := by
        have h1 : (l.map (·.1))[i]? = some p.1 := by simp [h]
        rw [hmap, List.getElem?_range' (by omega)] at h1
        simp at h1
        omega
      have hm := List.all_eq_true.1 hall p (List.mem_of_getElem? h)
      rw [Bool.and_eq_true] at hm
      obtain ⟨_, hm⟩ := hm
      rw [nth_eq, e, Nat.add_sub_cancel_left] at hm
      split at hm
      · rename_i c e1 c' e' own kin hb hg
        simp only [Bool.and_eq_true] at hm
        have e2 := sameL_eq _ _ _ hm.1
        have e3 := of_nbeq hm.2.1
        subst e2; subst e3
        obtain ⟨L, hL⟩ := (ren_some 1000).2 _ _ _ hl _ hv p (List.mem_of_getElem? h)
        exact ⟨e, _, _, own, kin, L, hb, hg, hm.2.2, hL⟩
      · cases hm
    let Ls : List Loc := l.map (fun p => (ρ p.2).getD ⟨0, 0, 0, 0⟩)
    have hLs : ∀ (i : Nat) (L : Loc), Ls[i]? = some L → ∃ p : Nat × Nat, l[i]? = some p ∧ ρ p.2 = some L := by
      intro i L h
      simp only [Ls, List.getElem?_map, Option.map_eq_some_iff] at h
      obtain ⟨p, h1, h2⟩ := h
      obtain ⟨_, _, _, _, _, M, _, _, _, hM⟩ := hloc i p h1
      rw [hM] at h2
      exact ⟨p, h1, by rw [hM]; simpa using h2⟩
    obtain ⟨ρ', x1, x2, x3⟩ := views (P := P) (w0 := ⟨w, fun _ => false⟩) (w := w) bl Ls (startR P.globals.size w) (startS G P.globals.size) (by simp [Ls, hlen]) (start_sim hn hG hfl) (fun i c e L h h' => by
      obtain ⟨p, h1, h2⟩ := hLs i L h'
      obtain ⟨_, c1, e1, own, kin, M, q1, q2, q3, q4⟩ := hloc i p h1
      rw [q1] at h
      cases h
      rw [q4] at h2
      cases h2
      exact ⟨(hs.dom _ _ q4).2, q3, own, kin, ρ, hs.blk _ _ _ q4 q2⟩)
    have hvs1 : VRs ρ' vs1 args'.toList := (ren_sound (ρ := ρ) (ρ1 := ρ') 1000).2 _ _ _ hl (fun p hp => by
      obtain ⟨i, hi⟩ := List.getElem?_of_mem hp
      obtain ⟨e, c1, e1, own, kin, M, q1, q2, q3, q4⟩ := hloc i p hi
      have : Ls[i]? = some M := by simp [Ls, hi, q4]
      have := x3 i M this
      rw [q4, e]
      exact this) _ hv
    have := hcall ρ' w args' x2 hvs1
    rw [run_callFunc hf hb hnm] at this
    refine (callsIn_wide.1 this).mono ?_
    rintro e w ⟨ρ2, _, h2, h3⟩
    cases h2 with
    | ret hv2 => exact ⟨by rw [scalar_vr hsv hv2], h3.kept⟩
  · cases hok
theorem memCall_sound {n : Nat} {v : Value} {f : FuncId} {a : List Value} {S : St} : ∀ (l : List (Nat × List Value × List (List Value × TypeId) × Value)), memCall n l f a S = some v → ∃ vs bl, (f, vs, bl, v) ∈ l ∧ memOk n vs bl a S = true
  | [], h => by cases h
  | (g, vs, bl, u) :: r, h => by
    unfold memCall at h
    cases hc : (Nat.beq f g && memOk n vs bl a S) with
    | true =>
      rw [hc] at h
      cases h
      rw [Bool.and_eq_true] at hc
      have := of_nbeq hc.1
      subst this
      exact ⟨vs, bl, List.mem_cons_self .., hc.2⟩
    | false =>
      rw [hc] at h
      obtain ⟨vs', bl', h1, h2⟩ := memCall_sound r h
      exact ⟨vs', bl', List.mem_cons_of_mem _ h1, h2⟩
/-- KnownSound's answer for such calls -/
theorem memKnown {W : World} {n : Nat} {G : List (Nat × List Value)} {l : List (Nat × List Value × List (List Value × TypeId) × Value)} (hn : n = P.globals.size) (hl : n ≤ W.heap.size)
    (hG : ∀ g l, (g, l) ∈ G → ∃ (arr : Array Value) (e : TypeId) (fz : Nat × Nat), W.heap[g]? = some (.cells arr e fz) ∧ arr.toList = l) (hfl : ∀ g l, (g, l) ∈ G → ∀ v ∈ l, flatV flatN v = true)
    (hx : ∀ f vs bl v, (f, vs, bl, v) ∈ l → scalarV v = true ∧ ∃ fn c, P.funcs[f]? = some fn ∧ fn.body = some c ∧ (fn.name == "runtime.NumGoroutine") = false ∧
      ∀ w, Kept W w → ∃ T, CallT P ⟨w, fun _ => false⟩ f vs (addAll (startS G P.globals.size) bl) v T)
    {f : FuncId} {args : List Value} {S : St} {v : Value} (h : memCall n l f args S = some v) :
    (∀ ρ : Rmap, VR ρ v v) ∧ ∃ fn c, P.funcs[f]? = some fn ∧ fn.body = some c ∧ (fn.name == "runtime.NumGoroutine") = false ∧
      ∀ (w0 : Base) (ρ : Rmap) (w : World) (args' : Array Value), w0.toWorld = W → Sim P w0 ρ S w → VRs ρ args args'.toList → Calls P f args' w fun e w' => e = .returned v ∧ Kept w w' := by
  obtain ⟨vs, bl, h1, h2⟩ := memCall_sound l h
  obtain ⟨hs, fn, c, a1, a2, a3, a4⟩ := hx f vs bl v h1
  subst hn
  refine ⟨fun ρ => scalar_refl hs, fn, c, a1, a2, a3, fun w0 ρ w args' e hsim hv => ?_⟩
  have hk : Kept W w := e ▸ hsim.kept
  obtain ⟨T, hT⟩ := a4 w hk
  refine mem_calls a1 a2 a3 hsim hv h2 hs hT (Nat.le_trans hl (e ▸ hsim.size)) (fun g l hg => ?_) hfl
  obtain ⟨arr, e1, fz, q1, q2⟩ := hG g l hg
  exact ⟨arr, e1, fz, by rw [hk.old g (Array.getElem?_eq_some_iff.1 q1).1]; exact q1, q2⟩
theorem zeroKnown {W : World} {f : FuncId} {v : Value} {S : St} (h : ∀ w, Kept W w → Calls P f #[] w fun e w' => e = .returned v ∧ Kept w w') :
    ∀ (w0 : Base) (ρ : Rmap) (w : World) (args' : Array Value), w0.toWorld = W → Sim P w0 ρ S w → VRs ρ [] args'.toList → Calls P f args' w fun e w' => e = .returned v ∧ Kept w w' := by
  intro w0 ρ w args' e hs hv
  subst e
  have : args' = #[] := by
    apply Array.ext'
    simpa using hv.nil_inv
  subst this
  exact h w hs.kept
end Go.Cm

