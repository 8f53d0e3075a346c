/-
  CM, fast: the fast evaluator is the evaluator: operations, second part.
-/
import Derived.Test.YtfoonohjjeofhaaGreatDoorCmFastEq
namespace Go.Cm
open Go
section
variable {P : Program}

theorem idxK_eq (n : Int) (len : Nat) (k : Nat → Res3) : idxK n len k = if 0 ≤ n ∧ n < len then k n.toNat else none := by
  cases n with
  | ofNat i =>
    show Bool.rec (motive := fun _ => Res3) none (k i) (Nat.blt i len) = _
    rw [PT.blt_iff]
    by_cases h : i < len
    · rw [decide_eq_true h, if_pos ⟨by show (0 : Int) ≤ (i : Int); omega, by show (i : Int) < _; omega⟩]; rfl
    · rw [decide_eq_false h, if_neg (fun e => h (by have : (i : Int) < _ := e.2; omega))]
  | negSucc i =>
    show none = _
    rw [if_neg (fun e => by have := e.1; omega)]

theorem indexAddrW_eq (ty : TypeId) (x i : Operand) : Eqv P (.indexAddr ty x i) (indexAddrW P ty x i) := by
  intro ih t S ok pan
  rw [useR_read rfl]
  have hno : ∀ (h : indexAddrV P ty (evT t x) (evT t i) = none), (noOp ih t S ok pan) = match readOp P (evT t) (.indexAddr ty x i) S with | some v => ok v S | none => none := by
    intro h; simp only [readOp, pureOp, h]; rfl
  unfold indexAddrW
  split
  · rename_i len elem hu
    split
    · rename_i n hn
      cases hx : evW x with | mk g =>
      cases hi : evW i with | mk h =>
      show indexArrF len n g h ih t S ok pan = _
      unfold indexArrF
      rw [evW_get hx, evW_get hi, with2_eq, asIntF_eq]
      simp only [readOp, pureOp, indexAddrV, hu]
      cases evT t i <;> try rfl
      rename_i k m
      simp only
      cases hv : evT t x
      case pointer a =>
        cases a with
        | none => rfl
        | some a =>
          obtain ⟨b, o, p⟩ := a
          cases p with
          | some p => rfl
          | none =>
            rw [ptr_some, idxK_eq]
            simp only [hn]
            by_cases hc : 0 ≤ m ∧ m < len
            · rw [if_pos hc, if_pos hc]; rfl
            · rw [if_neg hc, if_neg hc]
      all_goals rfl
    · rename_i hn
      refine hno ?_
      simp only [indexAddrV, hu]
      split
      · split
        · rename_i h1 _; cases h1; simp [hn]
        · rename_i h1 _; cases h1
        · rfl
      · rfl
  · rename_i elem hu
    split
    · rename_i n hn
      cases hx : evW x with | mk g =>
      cases hi : evW i with | mk h =>
      show indexSliceF n g h ih t S ok pan = _
      unfold indexSliceF
      rw [evW_get hx, evW_get hi, with2_eq, asIntF_eq]
      simp only [readOp, pureOp, indexAddrV, hu]
      cases evT t i <;> try rfl
      rename_i k m
      simp only [with3_eq, asSliceF_eq]
      cases hv : evT t x
      case slice a len cap =>
        cases a with
        | none => rfl
        | some a =>
          obtain ⟨b, o, p⟩ := a
          cases p with
          | some p => rfl
          | none =>
            simp only [sliceOf, idxK_eq, hn]
            by_cases hc : 0 ≤ m ∧ m < len
            · rw [if_pos hc, if_pos hc]; rfl
            · rw [if_neg hc, if_neg hc]
      all_goals rfl
    · rename_i hn
      refine hno ?_
      simp only [indexAddrV, hu]
      split
      · split
        · rename_i h1 _; cases h1
        · rename_i h1 _; cases h1; simp [hn]
        · rfl
      · rfl
  · rename_i h1 h2
    refine hno ?_
    unfold indexAddrV
    split
    · split
      · rename_i h3 _; exact absurd h3 (h1 _ _)
      · rename_i h3 _; exact absurd h3 (h2 _)
      · rfl
    · rfl

theorem notW_eq (ty : TypeId) (x : Operand) : Eqv P (.unOp .not ty x) (notW (evW x)) := by
  intro ih t S ok pan
  rw [useR_read rfl]
  cases hx : evW x with | mk g =>
  show notF g ih t S ok pan = _
  unfold notF
  rw [withO_eq, asBoolF_eq, evW_get hx]
  simp only [readOp, pureOp]
  cases evT t x <;> rfl

theorem extractW_eq (x : Operand) (i : Nat) : Eqv P (.extract x i) (extractW i (evW x)) := by
  intro ih t S ok pan
  rw [useR_read rfl]
  cases hx : evW x with | mk g =>
  show extractF i g ih t S ok pan = _
  unfold extractF
  rw [withO_eq, asTupF_eq, evW_get hx]
  simp only [readOp, pureOp]
  cases evT t x <;> try rfl
  simp only [withO_eq]
  cases nth _ i <;> rfl

theorem newF_eq (x : Blk) (S : St) (ok : OkK) : newF x S ok = ok (ptrTo S.size 0) ⟨S.heap.set S.size (some x), S.size + 1⟩ := by
  unfold newF
  have h : ∀ n, newAt S.heap x ok n = ok (ptrTo n 0) ⟨S.heap.set n (some x), n + 1⟩ := fun n => by
    unfold newAt; rw [hset_eq]
  cases hs : S.size with
  | zero => exact h 0
  | succ m => exact h (m + 1)

theorem allocW_eq (e : TypeId) : Eqv P (.alloc e) (allocW (zeroOf P e) e) := by
  intro ih t S ok pan
  rw [useR_new rfl]
  simp only [newOp]
  cases zeroOf P e with
  | none => rfl
  | some z =>
    show newF _ S ok = _
    rw [newF_eq]; rfl
theorem boxW_eq (e : TypeId) (x : Operand) : Eqv P (.box e x) (boxW e (evW x)) := by
  intro ih t S ok pan
  rw [useR_new rfl]
  cases hx : evW x with | mk g =>
  show boxF e g ih t S ok pan = _
  unfold boxF
  rw [newF_eq, cellsF_eq, evW_get hx]
  rfl

theorem withOmap {f : Option Value} {S : St} {ok : OkK} : (withO f fun v => ok v S) = match f with | some v => ok v S | none => none := by cases f <;> rfl
theorem mapE_eq (ρ : Operand → Value) (l : List (Nat × Operand)) : mapE ρ l = partsV ρ l := by
  induction l with
  | nil => rfl
  | cons x r ih => simp only [mapE, partsV, List.map_cons] at *; rw [ih]
theorem mapO_eq (ρ : Operand → Value) (l : List Operand) : mapO ρ l = l.map ρ := by
  induction l with
  | nil => rfl
  | cons x r ih => simp only [mapO, List.map_cons, ih]
theorem pureK_eq {op : Op} {f : (Operand → Value) → Option Value} (hk : kindOf op = .read) (h : ∀ ρ S, readOp P ρ op S = f ρ) : Eqv P op ⟨pureK f⟩ := by
  intro ih t S ok pan
  rw [useR_read hk, h]
  show (withO (f (evA t)) fun v => ok v S) = _
  rw [evA_eq, withOmap]
  cases f (evT t) <;> rfl
theorem readK_eq {op : Op} {f : (Operand → Value) → St → Option Value} (hk : kindOf op = .read) (h : ∀ ρ S, readOp P ρ op S = f ρ S) : Eqv P op ⟨readK f⟩ := by
  intro ih t S ok pan
  rw [useR_read hk, h]
  show (withO (f (evA t) S) fun v => ok v S) = _
  rw [evA_eq, withOmap]
  cases f (evT t) S <;> rfl
theorem newK_eq {op : Op} {f : (Operand → Value) → St → Option (Value × St)} (h : ∀ ih ρ S, stepOp P ih ρ op S = match f ρ S with | some (v, S') => some (.val v, S') | none => none) : Eqv P op ⟨newK f⟩ := by
  intro ih t S ok pan
  rw [h]
  show with2 (f (evA t) S) ok = _
  rw [evA_eq, with2_eq]
  cases f (evT t) S <;> rfl

theorem binW_eq (op : BinOp) (ty : TypeId) (x y : Operand) (yt : TypeId) : Eqv P (.binOp op ty x y yt) (binW P op ty x y yt) := by
  intro ih t S ok pan
  unfold binW
  cases hx : evW x with | mk g =>
  cases hy : evW y with | mk h =>
  have hg := evW_get hx t
  have hh := evW_get hy t
  cases hf : binFn op with
  | none => rfl
  | some f =>
    show binK1 f (slowF P (.binOp op ty x y yt) ih t S ok pan) S ok (asIntF (g t)) (asIntF (h t)) = _
    rw [hg, hh, asIntF_eq, asIntF_eq]
    have hslow : slowF P (.binOp op ty x y yt) ih t S ok pan = useR (stepOp P ih (evT t) (.binOp op ty x y yt) S) ok pan := rfl
    rw [← hslow]
    cases hvx : evT t x <;> try rfl
    rename_i k a
    cases hvy : evT t y <;> try rfl
    rename_i k' b
    show Bool.rec (motive := fun _ => Res3) none (ok (f k a b) S) (sameK k k') = _
    rw [hslow, useR_read rfl, sameK_eq]
    simp only [readOp, pureOp, hvx, hvy]
    by_cases hk : k = k'
    · subst hk
      rw [decide_eq_true rfl]
      show ok (f k a b) S = _
      cases op <;> simp only [binFn, reduceCtorEq, Option.some.injEq] at hf <;> subst hf <;>
        simp only [binV, if_true, intBin, addI, subI, mulI, eqlI, neqI, lssI, leqI, gtrI, geqI, wrapF_eq, eqI_eq, ltI_eq] <;> first
          | rfl
          | (congr 2; simp only [bne]; done)
          | (congr 2; rw [← decide_not]; exact decide_eq_decide.2 (by omega))
    · rw [decide_eq_false hk]
      show none = _
      cases op <;> simp only [binFn, reduceCtorEq] at hf <;> simp only [binV, if_neg hk]

theorem storeW_eq (ty : TypeId) (a x : Operand) : Eqv P (.store ty a x) (storeW (szOf P ty) (slowF P (.store ty a x)) (evW a) (evW x)) := by
  intro ih t S ok pan
  have hst : ∀ ρ, stepOp P ih ρ (.store ty a x) S = match storeV P ty (ρ a) (ρ x) S with | some S' => some (.val undef, S') | none => none := by
    intro ρ
    simp only [stepOp, kindOf, heavyOp]
    cases storeV P ty (ρ a) (ρ x) S <;> rfl
  cases hn : szOf P ty with
  | none =>
    rw [hst]
    have : storeV P ty (evT t a) (evT t x) S = none := by
      unfold storeV
      split
      · simp [hn]
      · rfl
    rw [this]
    rfl
  | some n =>
    cases ha : evW a with | mk g =>
    cases hx : evW x with | mk h =>
    show (with2 (asPtrF (g t)) fun b o => storeK n S b o (cellsF (h t)) (slowF P (.store ty a x) ih t S ok pan) ok) = _
    rw [evW_get ha, evW_get hx, cellsF_eq]
    by_cases hp : ∃ b o, evT t a = .pointer (some ⟨b, o, none⟩)
    · obtain ⟨b, o, hp⟩ := hp
      rw [hp, ptr_some]
      unfold storeK
      have hslow : slowF P (.store ty a x) ih t S ok pan = useR (stepOp P ih (evT t) (.store ty a x) S) ok pan := rfl
      cases hc : (Nat.beq (cellsL (evT t x)).length n && (cellsL (evT t x)).all cellV && Nat.blt 0 (cellsL (evT t x)).length) with
      | false =>
        show none = _
        rw [hst, hp]
        simp only [storeV, hn]
        cases hb : Nat.beq (cellsL (evT t x)).length n with
        | false => rfl
        | true =>
          rw [hb, Bool.true_and] at hc
          simp only [cond_true, writeCells]
          split
          · rename_i hx; split at hx
            · simp only [hc, cond_false] at hx; cases hx
            · cases hx
          · rfl
      | true =>
        show writeB S b o _ _ ok (hget S b) = _
        rw [hget_eq]
        simp only [Bool.and_eq_true] at hc
        have hc2 : ((cellsL (evT t x)).all cellV && Nat.blt 0 (cellsL (evT t x)).length) = true := by rw [hc.1.2, hc.2]; rfl
        unfold writeB
        split
        · rename_i c e row hb
          rw [hst, hp]
          simp only [storeV, hn, hc.1.1, cond_true, writeCells, hb, hc2, withO_eq]
          cases setN o (cellsL (evT t x)) c with
          | none => rfl
          | some c' =>
            simp only [hset_eq]
            rfl
        · exact hslow
    · have hne : ∀ b o, evT t a ≠ .pointer (some ⟨b, o, none⟩) := fun b o e => hp ⟨b, o, e⟩
      rw [ptr_none hne, hst]
      have : storeV P ty (evT t a) (evT t x) S = none := by
        unfold storeV
        split
        · rename_i b o he; exact absurd he (hne b o)
        · rfl
      rw [this]; rfl

theorem argsOf_eq (l : List Operand) (t : Tm) : argsOf (getsOf l) t = l.map (evT t) := by
  induction l with
  | nil => rfl
  | cons x r ih => simp only [getsOf, argsOf, List.map_cons, ih, evW_eq]

theorem endR_eq {r : Option (Ending × St)} {ok : OkK} {pan : PanK} : endR r ok pan = useR (match r with
    | some (.returned v, S') => some (OpR.val v, S')
    | some (.panicked ch, S') => some (.pan ch, S')
    | _ => none) ok pan := by
  cases r with
  | none => rfl
  | some x => obtain ⟨e, S⟩ := x; cases e <;> rfl

theorem callW_eq (c : Call) (hb : ∀ b, c.callee ≠ .builtin b) : Eqv P (.call c) (callW P c (.call c)) := by
  intro ih t S ok pan
  unfold callW
  split
  · rename_i f hc
    show endR (ih.call (.fn (.func f) #[]) (argsOf (getsOf c.args.toList) t) S) ok pan = _
    rw [endR_eq, argsOf_eq]
    obtain ⟨callee, args, ts⟩ := c
    simp only at hc
    subst hc
    rfl
  · rfl

theorem callW2_eq (c : Call) : Eqv P (.call c) (callW2 P c (.call c)) := by
  obtain ⟨callee, args, ts⟩ := c
  cases callee with
  | invoke r name => exact callW_eq _ (fun b => by simp)
  | value f => exact callW_eq _ (fun b => by simp)
  | builtin b =>
    show Eqv P _ (builtinW P b args.toList ts.toList (.call ⟨.builtin b, args, ts⟩))
    have hnew : kindOf (.call ⟨.builtin b, args, ts⟩) = .heavy → Eqv P (.call ⟨.builtin b, args, ts⟩) ⟨newK (builtinO P b ts.toList args.toList)⟩ := by
      intro hk
      refine newK_eq fun ih ρ S => ?_
      unfold stepOp
      rw [hk]
      simp only [builtinO, mapO_eq]
      cases builtinV P b ts.toList (List.map ρ args.toList) S <;> rfl
    cases b
    case len =>
      unfold builtinW
      split
      · rename_i x t rest _ ha ht
        refine readK_eq rfl fun ρ S => ?_
        simp only [readOp, ha, ht]
        rfl
      · exact slow_eq _
      · rename_i h1 h2; exact absurd rfl h1
    all_goals exact hnew rfl

theorem opW_eq (op : Op) : Eqv P op (opW P op) := by
  cases op
  case move x => intro ih t S ok pan; rw [useR_read rfl]; exact moveW_eq x ih t S ok pan
  case assign x => intro ih t S ok pan; rw [useR_read rfl]; exact moveW_eq x ih t S ok pan
  case pick c a b => exact pickW_eq c a b
  case load t x => exact loadW_eq t x
  case fieldAddr s x i => exact fieldAddrW_eq s x i
  case indexAddr t x i => exact indexAddrW_eq t x i
  case binOp o t x y yt => exact binW_eq o t x y yt
  case unOp o t x => cases o <;> first | exact notW_eq t x | exact slow_eq _
  case extract x i => exact extractW_eq x i
  case alloc e => exact allocW_eq e
  case box e x => exact boxW_eq e x
  case store t a x => exact storeW_eq t a x
  case build t parts => exact pureK_eq rfl (fun ρ S => by simp only [readOp, pureOp, buildO, mapE_eq])
  case nilCheck x => exact pureK_eq rfl (fun ρ S => rfl)
  case field t x i => exact pureK_eq rfl (fun ρ S => rfl)
  case index t x i => exact pureK_eq rfl (fun ρ S => rfl)
  case slice t x lo hi mx => exact readK_eq rfl (fun ρ S => rfl)
  case buildSlice t len parts => exact newK_eq (fun ih ρ S => rfl)
  case call c => exact callW2_eq c
  all_goals exact slow_eq _

end
end Go.Cm
