/-
  CM, fast: the fast evaluator is the evaluator: tables, operands, operations.
-/
import Derived.Test.YtfoonohjjeofhaaGreatDoorCmFast
import Derived.Test.YtfoonohjjeofhaaGreatDoorCmDraw
import Derived.Laws.BitsLemmas
import Derived.Laws.Bits64
namespace Go.Cm
open Go

/-! ### tables -/
theorem getW_eq {α : Type} : ∀ (d k : Nat) (t : PT α d), (getW d k : GW α d).f t = PT.at_ d t k
  | 0, _, _ => rfl
  | d + 1, k, t => by
    have e : (getW (d + 1) k : GW α (d + 1)) = Bool.rec (motive := fun _ => GW α _) (consR (getW d (Nat.div k 2))) (consL (getW d (Nat.div k 2))) (Nat.beq (Nat.mod k 2) 0) := rfl
    rw [e]
    have hL : ∀ w : GW α d, (consL w).f t = w.f t.1 := fun w => by cases w; rfl
    have hR : ∀ w : GW α d, (consR w).f t = w.f t.2 := fun w => by cases w; rfl
    cases hb : Nat.beq (Nat.mod k 2) 0 with
    | true =>
      rw [PT.at_tt (show Nat.beq (k % 2) 0 = true from hb)]
      show (consL (getW d (Nat.div k 2))).f t = _
      rw [hL]; exact getW_eq d _ _
    | false =>
      rw [PT.at_ff (show Nat.beq (k % 2) 0 = false from hb)]
      show (consR (getW d (Nat.div k 2))).f t = _
      rw [hR]; exact getW_eq d _ _
theorem getK_eq {α : Type} (d k : Nat) (t : PT α d) : (getK d k : GW α d).f t = t.get k := by
  unfold getK PT.get
  cases Nat.blt k (2 ^ d) with
  | true => exact getW_eq d k t
  | false => rfl
theorem setW_eq {α : Type} : ∀ (d k : Nat) (v : Option α) (t : PT α d), (setW d k : SW α d).f v t = PT.upd v d t k
  | 0, _, _, _ => rfl
  | d + 1, k, v, t => by
    have e : (setW (d + 1) k : SW α (d + 1)) = Bool.rec (motive := fun _ => SW α _) (sconsR (setW d (k / 2))) (sconsL (setW d (k / 2))) (Nat.beq (k % 2) 0) := rfl
    rw [e]
    have hL : ∀ w : SW α d, (sconsL w).f v t = ((w.f v t.1, t.2) : PT α d × PT α d) := fun w => by cases w; cases t; rfl
    have hR : ∀ w : SW α d, (sconsR w).f v t = ((t.1, w.f v t.2) : PT α d × PT α d) := fun w => by cases w; cases t; rfl
    cases hb : Nat.beq (k % 2) 0 with
    | true =>
      rw [PT.upd_tt hb]
      show (sconsL (setW d (k / 2))).f v t = _
      rw [hL, setW_eq d]
    | false =>
      rw [PT.upd_ff hb]
      show (sconsR (setW d (k / 2))).f v t = _
      rw [hR, setW_eq d]
theorem setK_eq {α : Type} (d k : Nat) (v : Option α) (t : PT α d) : (setK d k : SW α d).f v t = t.set k v := by
  unfold setK PT.set
  cases Nat.blt k (2 ^ d) with
  | true => exact setW_eq d k v t
  | false => rfl
theorem appS_eq {α : Type} {d : Nat} (w : SW α d) (v : Option α) (t : PT α d) : appS w v t = w.f v t := by cases w; rfl
theorem atG_eq {α : Type} : ∀ (d : Nat) (t : PT α d) (k : Nat), atG d t k = PT.at_ d t k
  | 0, _, _ => rfl
  | d + 1, t, k => by
    have e : atG (d + 1) t k = Bool.rec (motive := fun _ => Option α) (atG d t.2 (Nat.div k 2)) (atG d t.1 (Nat.div k 2)) (Nat.beq (Nat.mod k 2) 0) := rfl
    rw [e]
    cases hb : Nat.beq (Nat.mod k 2) 0 with
    | true => rw [PT.at_tt (show Nat.beq (k % 2) 0 = true from hb)]; exact atG_eq d _ _
    | false => rw [PT.at_ff (show Nat.beq (k % 2) 0 = false from hb)]; exact atG_eq d _ _
theorem updG_eq {α : Type} (v : Option α) : ∀ (d : Nat) (t : PT α d) (k : Nat), updG v d t k = PT.upd v d t k
  | 0, _, _ => rfl
  | d + 1, t, k => by
    obtain ⟨l, r⟩ := t
    have e : updG v (d + 1) ((l, r) : PT α d × PT α d) k = Bool.rec (motive := fun _ => PT α d × PT α d) (l, updG v d r (Nat.div k 2)) (updG v d l (Nat.div k 2), r) (Nat.beq (Nat.mod k 2) 0) := rfl
    rw [e]
    cases hb : Nat.beq (Nat.mod k 2) 0 with
    | true =>
      refine Eq.trans ?_ (PT.upd_tt (show Nat.beq (k % 2) 0 = true from hb)).symm
      show (updG v d l (Nat.div k 2), r) = _
      rw [updG_eq v d l]; rfl
    | false =>
      refine Eq.trans ?_ (PT.upd_ff (show Nat.beq (k % 2) 0 = false from hb)).symm
      show (l, updG v d r (Nat.div k 2)) = _
      rw [updG_eq v d r]; rfl
theorem hget_eq (S : St) (b : Nat) : hget S b = S.get b := by
  unfold hget St.get PT.get
  show Bool.rec (motive := fun _ => Option Blk) none (atG 16 S.heap b) (Nat.blt b 65536) = bif Nat.blt b (2 ^ 16) then PT.at_ 16 S.heap b else none
  rw [show (2 : Nat) ^ 16 = 65536 from rfl]
  cases Nat.blt b 65536 with
  | true => exact atG_eq 16 _ _
  | false => rfl
theorem hset_eq (h : Hp) (b : Nat) (x : Option Blk) : hset h b x = PT.set h b x := by
  unfold hset PT.set
  rw [show (2 : Nat) ^ 16 = 65536 from rfl]
  cases Nat.blt b 65536 with
  | true => exact updG_eq x 16 _ _
  | false => rfl

/-! ### looking into a value -/
theorem withO_eq {α : Type} (o : Option α) (k : α → Res3) : withO o k = match o with | some v => k v | none => none := by cases o <;> rfl
theorem with2_eq {α β : Type} (o : Option (α × β)) (k : α → β → Res3) : with2 o k = match o with | some (a, b) => k a b | none => none := by cases o <;> rfl
theorem with3_eq {α β γ : Type} (o : Option (α × β × γ)) (k : α → β → γ → Res3) : with3 o k = match o with | some (a, b, c) => k a b c | none => none := by cases o <;> rfl
theorem asBoolF_eq (v : Value) : asBoolF v = match v with | .bool b => some b | _ => none := by cases v <;> rfl
theorem asIntF_eq (v : Value) : asIntF v = match v with | .int k n => some (k, n) | _ => none := by cases v <;> rfl
theorem asPtrF_eq (v : Value) : asPtrF v = match v with | .pointer a => addrOf a | _ => none := by cases v <;> rfl
theorem asSliceF_eq (v : Value) : asSliceF v = match v with | .slice a n c => sliceOf a n c | _ => none := by cases v <;> rfl
theorem asTupF_eq (v : Value) : asTupF v = match v with | .tuple l => some l.toList | _ => none := by cases v <;> rfl
theorem cellsF_eq (v : Value) : cellsF v = cellsL v := by cases v <;> rfl

/-! ### operands -/
theorem evW_eq (x : Operand) (t : Tm) : (evW x).get t = evT t x := by
  cases x with
  | tmp i =>
    show (tmpW (getK 8 i)).get t = _
    have h : ∀ w : GW Value 8, (tmpW w).get t = unO (w.f t) := fun w => by cases w; rfl
    rw [h, getK_eq]
    show unO (t.get i) = match t.get i with | some v => v | none => undef
    cases t.get i <;> rfl
  | const v => rfl
  | global g => rfl
  | func f => rfl
theorem evA_eq (t : Tm) : evA t = evT t := by
  funext x
  rw [← evW_eq]
  show evF (evW x) t = _
  cases evW x; rfl
theorem ca_ev (n : Nat) (t : Tm) (df : List Deferred) : Ca.ev ⟨n, t, df⟩ = evT t := by
  funext x; cases x <;> rfl
theorem evW_get {x : Operand} {g : Tm → Value} (h : evW x = ⟨g⟩) (t : Tm) : g t = evT t x := by
  rw [← evW_eq, h]

/-! ### integers -/
theorem kindNo_inj : ∀ j k : IntKind, kindNo j = kindNo k → j = k := by intro j k h; cases j <;> cases k <;> first | rfl | (simp [kindNo] at h)
theorem sameK_eq (j k : IntKind) : sameK j k = decide (j = k) := by
  unfold sameK
  by_cases h : j = k
  · subst h; simp [nbeq_tt]
  · rw [nbeq_ff (fun e => h (kindNo_inj _ _ e))]; simp [h]
theorem eqI_eq : ∀ a b : Int, eqI a b = (a == b)
  | .ofNat a, .ofNat b => by
    show Nat.beq a b = _
    by_cases h : a = b
    · subst h; simp [nbeq_tt]
    · have h2 : ¬ (Int.ofNat a = Int.ofNat b) := fun e => h (Int.ofNat.inj e)
      rw [nbeq_ff h, beq_eq_false_iff_ne.2 h2]
  | .negSucc a, .negSucc b => by
    show Nat.beq a b = _
    by_cases h : a = b
    · subst h; simp [nbeq_tt]
    · rw [nbeq_ff h]; simp [h]
  | .ofNat a, .negSucc b => by simp [eqI]
  | .negSucc a, .ofNat b => by simp [eqI]
theorem ltI_eq : ∀ a b : Int, ltI a b = decide (a < b)
  | .ofNat a, .ofNat b => by
    show Nat.blt a b = _
    rw [PT.blt_iff]
    refine decide_eq_decide.2 ?_
    show a < b ↔ (a : Int) < (b : Int)
    omega
  | .negSucc a, .negSucc b => by
    show Nat.blt b a = _
    rw [PT.blt_iff]
    refine decide_eq_decide.2 ?_
    omega
  | .ofNat a, .negSucc b => by
    show false = _
    symm; rw [decide_eq_false_iff_not]
    show ¬ ((a : Int) < Int.negSucc b)
    omega
  | .negSucc a, .ofNat b => by
    show true = _
    symm; rw [decide_eq_true_eq]
    show Int.negSucc a < (b : Int)
    omega
theorem bif_eq {α : Type} {c : Bool} {x y : α} (h : c = true → x = y) : (bif c then x else y) = y := by
  cases c with
  | false => rfl
  | true => exact h rfl
theorem wrapF_eq (k : IntKind) (n : Int) : wrapF k n = k.wrap n := by
  unfold wrapF
  split
  · rename_i m
    refine bif_eq fun h => ?_
    have h := nblt_tt h
    rw [IntKind.wrap_i64]
    show (m : Int) = _
    have e : (Int.ofNat m) = (m : Int) := rfl
    rw [e]
    omega
  · rename_i m
    refine bif_eq fun h => ?_
    have h := nblt_tt h
    rw [IntKind.wrap_i64]
    omega
  · rename_i m
    refine bif_eq fun h => ?_
    have h := nblt_tt h
    rw [IntKind.wrap_u64]
    have e : (Int.ofNat m) = (m : Int) := rfl
    rw [e]
    omega
  · rfl

/-! ### operations -/
section
variable {P : Program} {ih : Fns} {t : Tm} {S : St} {ok : OkK} {pan : PanK}

theorem useR_read {f : Operand → Value} {op : Op} (hk : kindOf op = .read) : useR (stepOp P ih f op S) ok pan = match readOp P f op S with | some v => ok v S | none => none := by
  unfold stepOp
  rw [hk]
  simp only
  cases readOp P f op S <;> rfl
theorem useR_new {f : Operand → Value} {op : Op} (hk : kindOf op = .fresh) : useR (stepOp P ih f op S) ok pan = match newOp P f op S with | some (v, S') => ok v S' | none => none := by
  unfold stepOp
  rw [hk]
  simp only
  cases newOp P f op S <;> rfl

abbrev Eqv (P : Program) (op : Op) (w : OpW) : Prop := ∀ (ih : Fns) (t : Tm) (S : St) (ok : OkK) (pan : PanK), w.run ih t S ok pan = useR (stepOp P ih (evT t) op S) ok pan

theorem slow_eq (op : Op) : Eqv P op ⟨slowF P op⟩ := fun _ _ _ _ _ => rfl

theorem moveW_eq (x : Operand) (ih : Fns) (t : Tm) (S : St) (ok : OkK) (pan : PanK) : (moveW x).run ih t S ok pan = ok (evT t x) S := by
  have hE : ∀ w : EvW, (moveEW w).run ih t S ok pan = ok (w.get t) S := fun w => by cases w; rfl
  cases x with
  | tmp i =>
    show (movePW (getK 8 i)).run ih t S ok pan = _
    have hP : ∀ w : GW Value 8, (movePW w).run ih t S ok pan = Option.rec (motive := fun _ => Res3) (ok undef S) (fun v => ok v S) (w.f t) := fun w => by cases w; rfl
    rw [hP, getK_eq]
    show _ = ok (match t.get i with | some v => v | none => undef) S
    cases t.get i <;> rfl
  | const v => exact hE (evW (.const v))
  | global g => exact hE (evW (.global g))
  | func f => exact hE (evW (.func f))

theorem pickW_eq (c a b : Operand) : Eqv P (.pick c a b) (pickW (evW c) (evW a) (evW b)) := by
  intro ih t S ok pan
  rw [useR_read rfl]
  cases hc : evW c with | mk f =>
  cases ha : evW a with | mk g =>
  cases hb : evW b with | mk h =>
  show pickF f g h ih t S ok pan = _
  unfold pickF
  rw [withO_eq, asBoolF_eq, evW_get hc, evW_get ha, evW_get hb]
  simp only [readOp, pureOp]
  cases evT t c <;> first
    | rfl
    | (rename_i x; cases x <;> rfl)

theorem cellsOfB_eq (b : Option Blk) : cellsOfB b = match b with | some (.cells c _ _ _ _) => some c | _ => none := rfl

theorem loadW_eq (ty : TypeId) (x : Operand) : Eqv P (.load ty x) (loadW P ty x) := by
  intro ih t S ok pan
  rw [useR_read rfl]
  unfold loadW
  cases hx : evW x with | mk g =>
  have hg := evW_get hx t
  simp only [readOp, loadV]
  cases ha : aggOf P ty with
  | none =>
    have e : loadW1 (none : Option Bool) (szOf P ty) ⟨g⟩ = ⟨noOp⟩ := rfl
    rw [e]
    show none = _
    split
    · rename_i v hv
      split at hv
      · split at hv
        · simp [partL, ha] at hv
        · cases hv
      · cases hv
    · rfl
  | some y =>
    cases y with
    | true =>
      cases hn : szOf P ty with
      | none =>
        have e : loadW1 (some true) none ⟨g⟩ = ⟨noOp⟩ := rfl
        rw [e]
        show none = _
        split
        · rename_i v hv
          split at hv
          · split at hv
            · simp [partL, ha, hn] at hv
            · cases hv
          · cases hv
        · rfl
      | some n =>
        show loadAgg n g ih t S ok pan = _
        unfold loadAgg
        rw [with2_eq, asPtrF_eq, hg]
        cases evT t x <;> try rfl
        rename_i a
        cases a with
        | none => rfl
        | some a =>
          obtain ⟨b, o, p⟩ := a
          cases p with
          | some p => rfl
          | none =>
            simp only [addrOf]
            unfold loadAggK
            rw [withO_eq, hget_eq]
            cases hb : S.get b with
            | none => rfl
            | some B =>
              cases B <;> try rfl
              simp only [cellsOfB, withO_eq, partL, ha, hn]
              cases takeN n (dropN o _) <;> rfl
    | false =>
      have e : loadW1 (some false) (szOf P ty) ⟨g⟩ = ⟨loadOne g⟩ := by cases szOf P ty <;> rfl
      rw [e]
      show loadOne g ih t S ok pan = _
      unfold loadOne
      rw [with2_eq, asPtrF_eq, hg]
      cases evT t x <;> try rfl
      rename_i a
      cases a with
      | none => rfl
      | some a =>
        obtain ⟨b, o, p⟩ := a
        cases p with
        | some p => rfl
        | none =>
          simp only [addrOf]
          unfold loadOneK
          rw [withO_eq, hget_eq]
          cases hb : S.get b with
          | none => rfl
          | some B =>
            cases B <;> try rfl
            simp only [cellsOfB, withO_eq, partL, ha]
            cases nth _ o <;> rfl

theorem ptr_none {x : Value} {k : Nat → Nat → Res3} (h : ∀ b o, x ≠ .pointer (some ⟨b, o, none⟩)) : with2 (asPtrF x) k = none := by
  rw [with2_eq, asPtrF_eq]
  cases x <;> try rfl
  rename_i a
  cases a with
  | none => rfl
  | some a =>
    obtain ⟨b, o, p⟩ := a
    cases p with
    | some p => rfl
    | none => exact absurd rfl (h b o)
theorem ptr_some (b o : Nat) (k : Nat → Nat → Res3) : with2 (asPtrF (.pointer (some ⟨b, o, none⟩))) k = k b o := rfl

theorem fieldAddrW_eq (s : TypeId) (x : Operand) (i : Nat) : Eqv P (.fieldAddr s x i) (fieldAddrW P s x i) := by
  intro ih t S ok pan
  rw [useR_read rfl]
  have hno : ∀ (h : fieldAddrV P s (evT t x) i = none), (noOp ih t S ok pan) = match readOp P (evT t) (.fieldAddr s x i) S with | some v => ok v S | none => none := by
    intro h; simp only [readOp, pureOp, h]; rfl
  unfold fieldAddrW
  split
  · rename_i fields hu
    split
    · rename_i f hf
      split
      · rename_i m hsz
        cases hx : evW x with | mk g =>
        have hg := evW_get hx t
        show fieldAddrF f.offset g ih t S ok pan = _
        unfold fieldAddrF
        rw [hg]
        simp only [readOp, pureOp, fieldAddrV, hu]
        cases hv : evT t x
        case pointer a =>
          cases a with
          | none => rfl
          | some a =>
            obtain ⟨b, o, p⟩ := a
            cases p with
            | some p => rfl
            | none => simp only [hf, hsz]; rfl
        all_goals rfl
      · rename_i hne
        refine hno ?_
        simp only [fieldAddrV, hu]
        split
        · rename_i h1 h2; cases h1
          simp only [hf]
          first
            | done
            | (cases hm : szOf P f.type with
               | none => rfl
               | some m =>
                 cases m with
                 | zero => rfl
                 | succ m => exact absurd hm (hne m))
        · rfl
    · rename_i hf
      refine hno ?_
      simp only [fieldAddrV, hu]
      split
      · rename_i h1 h2; cases h1; simp [hf]
      · rfl
  · rename_i hne
    refine hno ?_
    unfold fieldAddrV
    split
    · rename_i h1 _; exact absurd h1 (hne _)
    · rfl

end
end Go.Cm
