/-
  CM, fast: the fast evaluator is the evaluator: regions, code, calls.
-/
import Derived.Test.YtfoonohjjeofhaaGreatDoorCmFastEq2
namespace Go.Cm
open Go
section
variable {P : Program}

/-! ### regions in the order of the text -/
def putS (n : Nat) (t : Tm) (dst : Option Tmp) (v : Value) (k : Tm → Res3) : Res3 := match Ca.put ⟨n, t, []⟩ dst v with
  | some a' => k a'.t
  | none => none
theorem putS_eq (n : Nat) (t : Tm) (df : List Deferred) (dst : Option Tmp) (v : Value) (k : Ca → Res3) : (match Ca.put ⟨n, t, df⟩ dst v with
  | some a' => k a'
  | none => none) = putS n t dst v fun t' => k ⟨n, t', df⟩ := by
  unfold putS Ca.put
  cases dst with
  | none => rfl
  | some d =>
    simp only
    cases Nat.blt d n <;> rfl
theorem plainW_eq (dst : Option Tmp) (f : OpK) (ih : Fns) (n : Nat) (t : Tm) (S : St) (k : Tm → St → Res3) (pan : PanK) :
    (plainW dst f).run ih n t S k pan = f ih t S (fun v S' => putS n t dst v fun t' => k t' S') pan := by
  cases dst with
  | none => rfl
  | some d =>
    unfold plainW
    simp only
    cases hs : (setK 8 d : SW Value 8) with | mk s =>
    show f ih t S (putK s d n t k) pan = _
    congr 1
    funext v S'
    have h := setK_eq 8 d (some v) t
    rw [hs] at h
    simp only at h
    unfold putK putS Ca.put
    rw [h]
    simp only
    cases Nat.blt d n <;> rfl
theorem plainOp_eq (dst : Option Tmp) (w : OpW) : plainOp dst w = plainW dst w.run := by cases w; rfl
theorem guardW_eq (g : GW Value 8) (w : Bool) (y z : StepW) (ih : Fns) (n : Nat) (t : Tm) (S : St) (k : Tm → St → Res3) (pan : PanK) :
    (guardW g w y z).run ih n t S k pan = bif isB (g.f t) w then y.run ih n t S k pan else z.run ih n t S k pan := by
  cases g; cases y; cases z
  rename_i g y z
  show Bool.rec (motive := fun _ => Res3) (z ih n t S k pan) (y ih n t S k pan) (isB (g t) w) = _
  cases isB (g t) w <;> rfl

theorem stepW_eq (full : List Oper) (o : Oper) (ih : Fns) (n : Nat) (t : Tm) (df : List Deferred) (S : St) (k : Tm → St → Res3) (pan : PanK) :
    (stepW P full o).run ih n t S k pan = bif wantedC full ⟨n, t, df⟩ o then useR (stepOp P ih (evT t) o.op S) (fun v S' => putS n t o.dst v fun t' => k t' S') pan else putS n t o.dst undef fun t' => k t' S := by
  have hpl : (plainOp o.dst (opW P o.op)).run ih n t S k pan = useR (stepOp P ih (evT t) o.op S) (fun v S' => putS n t o.dst v fun t' => k t' S') pan := by
    rw [plainOp_eq, plainW_eq, opW_eq]
  have hun : (plainW o.dst undefF).run ih n t S k pan = putS n t o.dst undef fun t' => k t' S := by
    rw [plainW_eq]; rfl
  unfold stepW wantedC
  cases hg : o.guard with
  | none => exact hpl
  | some q =>
    obtain ⟨j, w⟩ := q
    simp only
    cases hj : nth full j with
    | none => exact hun
    | some oj =>
      simp only
      cases hd : oj.dst with
      | none => exact hun
      | some d =>
        simp only
        rw [guardW_eq, getK_eq, hpl, hun]
        rfl

theorem runC_eq (full : List Oper) (ih : Fns) (n : Nat) (df : List Deferred) : ∀ (l : List Oper) (t : Tm) (S : St), runC ih n df (compL P full l) t S = runOps P ih full l ⟨n, t, df⟩ S
  | [], t, S => rfl
  | o :: l, t, S => by
    have e1 : compL P full (o :: l) = stepW P full o :: compL P full l := rfl
    have e2 : ∀ (w : StepW) (r : List StepW), runC ih n df (w :: r) t S = w.run ih n t S (runC ih n df r) (panA n t df) := fun w r => by cases w; rfl
    rw [e1, e2, stepW_eq (df := df)]
    unfold runOps
    have hk : runC ih n df (compL P full l) = fun t S => runOps P ih full l ⟨n, t, df⟩ S := by funext t S; exact runC_eq full ih n df l t S
    rw [hk, ca_ev]
    cases wantedC full ⟨n, t, df⟩ o with
    | false =>
      simp only [cond_false]
      exact (putS_eq n t df o.dst undef (fun a => runOps P ih full l a S)).symm
    | true =>
      simp only [cond_true]
      cases stepOp P ih (evT t) o.op S with
      | none => rfl
      | some x =>
        obtain ⟨r, S'⟩ := x
        cases r with
        | val v =>
          simp only [useR]
          exact (putS_eq n t df o.dst v (fun a => runOps P ih full l a S')).symm
        | pan ch => rfl

/-! ### plans -/
def entOf (P : Program) (c : Chk) (S : St) (k : Res3) : Res3 := bif c.ok P S then k else none
def entsOf (P : Program) (chk : List (Nat × Chk)) : List Ent := chk.map fun x => (x.1, entOf P x.2)
theorem lookE_eq (op : Op) (hk : kindOf op = .read) (ih : Fns) (n : Nat) (t : Tm) (df : List Deferred) (v : Value) : lookE (opW P op).run ih t v = entOf P (.read ⟨n, t, df⟩ op v) := by
  funext S k
  unfold lookE entOf
  rw [opW_eq, useR_read hk]
  simp only [Chk.ok, ca_ev]
  cases readOp P (evT t) op S with
  | none => rfl
  | some w =>
    simp only
    show Bool.rec (motive := fun _ => Res3) none k (sameV 100000 v w) = _
    cases sameV 100000 v w <;> rfl
theorem freshE_eq (c : Chk) : freshE P c = entOf P c := by
  funext S k
  unfold freshE entOf
  cases Chk.ok P S c <;> rfl
theorem keepE_eq (b : Nat) (chk : List (Nat × Chk)) : keepE b (entsOf P chk) = entsOf P (chk.filter fun x => !b.testBit x.1) := by
  induction chk with
  | nil => rfl
  | cons x r ih =>
    have e : entsOf P (x :: r) = (x.1, entOf P x.2) :: entsOf P r := rfl
    rw [e]
    unfold keepE
    simp only [List.filter_cons]
    cases hb : b.testBit x.1 with
    | true => simpa using ih
    | false => simp only [cond_false, Bool.not_false, if_true]; rw [ih]; rfl
theorem allE_eq (S : St) (k : Res3) (chk : List (Nat × Chk)) : allE S k (entsOf P chk) = bif chk.all (fun x => x.2.ok P S) then k else none := by
  induction chk with
  | nil => rfl
  | cons x r ih =>
    have e : allE S k (entsOf P (x :: r)) = entOf P x.2 S (allE S k (entsOf P r)) := rfl
    rw [e, ih]
    unfold entOf
    simp only [List.all_cons]
    cases x.2.ok P S <;> simp

theorem putOf_eq (dst : Option Tmp) (n : Nat) (t : Tm) (v : Value) (k : Tm → Res3) : putOf dst n t v k = putS n t dst v k := by
  cases dst with
  | none => rfl
  | some d =>
    unfold putOf
    simp only
    cases hs : (setK 8 d : SW Value 8) with | mk s =>
    have h := setK_eq 8 d (some v) t
    rw [hs] at h
    simp only at h
    show putD s d n t v k = _
    unfold putD putS Ca.put
    rw [h]
    simp only
    cases Nat.blt d n <;> rfl

theorem runPl_cons (w : PlW) (r : List PlW) (ih : Fns) (n : Nat) (df : List Deferred) (e : List Ent) (t : Tm) (S : St) : runPl ih n df (w :: r) e t S = w.run ih n df t S e (runPl ih n df r) := by cases w; rfl

theorem runPl_eq (full : List Oper) (bef : List Nat) (ih : Fns) (n : Nat) (df : List Deferred) : ∀ (l : List (Oper × Nat)) (chk : List (Nat × Chk)) (t : Tm) (S : St),
    runPl ih n df (compP P full bef l) (entsOf P chk) t S = runPlan P ih full bef l chk ⟨n, t, df⟩ S
  | [], chk, t, S => rfl
  | (o, i) :: l, chk, t, S => by
    have e1 : compP P full bef ((o, i) :: l) = plOpW P full ((nth bef i).getD 0) o i (opW P o.op) :: compP P full bef l := rfl
    rw [e1, runPl_cons]
    generalize hr : runPl ih n df (compP P full bef l) = rest
    have hrest : ∀ chk t S, rest (entsOf P chk) t S = runPlan P ih full bef l chk ⟨n, t, df⟩ S := fun chk t S => by rw [← hr]; exact runPl_eq full bef ih n df l chk t S
    have hun : plPlain (putOf o.dst) undefF ih n df t S (entsOf P chk) rest = putS n t o.dst undef fun t' => runPlan P ih full bef l chk ⟨n, t', df⟩ S := by
      show putOf o.dst n t undef (fun t' => rest (entsOf P chk) t' S) = _
      rw [putOf_eq]
      simp only [hrest]
    have hop : plOp P ((nth bef i).getD 0) o i (opW P o.op).run ih n df t S (entsOf P chk) rest = (match kindOf o.op with
      | .read => match readOp P (evT t) o.op S with
        | some v => match Ca.put ⟨n, t, df⟩ o.dst v with
          | some a' => runPlan P ih full bef l (bif looks o.op then (i, .read ⟨n, t, df⟩ o.op v) :: chk else chk) a' S
          | none => none
        | none => none
      | .fresh => match newOp P (evT t) o.op S with
        | some (v, S') => match Ca.put ⟨n, t, df⟩ o.dst v, chkOf S' S.size, S.get S.size with
          | some a', some c, none => runPlan P ih full bef l ((i, c) :: chk) a' S'
          | _, _, _ => none
        | none => none
      | .heavy => match stepOp P ih (evT t) o.op S with
        | some (.val v, S') => match Ca.put ⟨n, t, df⟩ o.dst v with
          | some a' =>
            let rest := chk.filter fun x => !((nth bef i).getD 0).testBit x.1
            bif rest.all fun x => x.2.ok P S' then runPlan P ih full bef l rest a' S' else none
          | none => none
        | _ => none) := by
      unfold plOp
      cases hk : kindOf o.op with
      | read =>
        simp only
        cases hl : looks o.op with
        | false =>
          show (opW P o.op).run ih t S (fun v S' => putOf o.dst n t v fun t' => rest (entsOf P chk) t' S') noPan = _
          rw [opW_eq, useR_read hk]
          cases readOp P (evT t) o.op S with
          | none => rfl
          | some v =>
            simp only [putOf_eq, hrest, cond_false]
            exact (putS_eq n t df o.dst v (fun a => runPlan P ih full bef l chk a S)).symm
        | true =>
          show (opW P o.op).run ih t S (fun v S' => putOf o.dst n t v fun t' => rest ((i, lookE (opW P o.op).run ih t v) :: entsOf P chk) t' S') noPan = _
          rw [opW_eq, useR_read hk]
          cases readOp P (evT t) o.op S with
          | none => rfl
          | some v =>
            simp only [putOf_eq, lookE_eq o.op hk ih n t df v, cond_true]
            have e2 : (i, entOf P (.read ⟨n, t, df⟩ o.op v)) :: entsOf P chk = entsOf P ((i, .read ⟨n, t, df⟩ o.op v) :: chk) := rfl
            simp only [e2, hrest]
            exact (putS_eq n t df o.dst v (fun a => runPlan P ih full bef l ((i, .read ⟨n, t, df⟩ o.op v) :: chk) a S)).symm
      | fresh =>
        simp only
        show (opW P o.op).run ih t S (fun v S' => putOf o.dst n t v fun t' => withO (chkOf S' S.size) fun c => Option.rec (motive := fun _ => Res3) (rest ((i, freshE P c) :: entsOf P chk) t' S') (fun _ => none) (hget S S.size)) noPan = _
        rw [opW_eq, useR_new hk]
        cases newOp P (evT t) o.op S with
        | none => rfl
        | some x =>
          obtain ⟨v, S'⟩ := x
          simp only [putOf_eq, freshE_eq, hget_eq]
          have e2 : ∀ c, (i, entOf P c) :: entsOf P chk = entsOf P ((i, c) :: chk) := fun _ => rfl
          simp only [e2, hrest]
          cases hck : chkOf S' S.size with
          | none =>
            refine (putS_eq n t df o.dst v (fun a => none)).symm.trans ?_
            cases Ca.put ⟨n, t, df⟩ o.dst v <;> rfl
          | some c =>
            cases hg : S.get S.size with
            | none =>
              refine (putS_eq n t df o.dst v (fun a => runPlan P ih full bef l ((i, c) :: chk) a S')).symm.trans ?_
              cases Ca.put ⟨n, t, df⟩ o.dst v <;> rfl
            | some B =>
              refine (putS_eq n t df o.dst v (fun a => none)).symm.trans ?_
              cases Ca.put ⟨n, t, df⟩ o.dst v <;> rfl
      | heavy =>
        simp only
        show (opW P o.op).run ih t S (fun v S' => putOf o.dst n t v fun t' => allE S' (rest (keepE ((nth bef i).getD 0) (entsOf P chk)) t' S') (keepE ((nth bef i).getD 0) (entsOf P chk))) noPan = _
        rw [opW_eq]
        cases stepOp P ih (evT t) o.op S with
        | none => rfl
        | some x =>
          obtain ⟨r, S'⟩ := x
          cases r with
          | pan ch => rfl
          | val v =>
            simp only [useR, putOf_eq, keepE_eq, allE_eq, hrest]
            exact (putS_eq n t df o.dst v (fun a => bif (chk.filter fun x => !((nth bef i).getD 0).testBit x.1).all (fun x => x.2.ok P S') then runPlan P ih full bef l (chk.filter fun x => !((nth bef i).getD 0).testBit x.1) a S' else none)).symm
    have hrun : ∀ w : OpW, (plOpW P full ((nth bef i).getD 0) o i w).run ih n df t S (entsOf P chk) rest =
        bif wantedC full ⟨n, t, df⟩ o then plOp P ((nth bef i).getD 0) o i w.run ih n df t S (entsOf P chk) rest else plPlain (putOf o.dst) undefF ih n df t S (entsOf P chk) rest := by
      intro w
      cases w with | mk f =>
      unfold plOpW wantedC
      simp only
      cases hg : o.guard with
      | none => rfl
      | some q =>
        obtain ⟨j, w⟩ := q
        simp only
        cases hj : nth full j with
        | none => rfl
        | some oj =>
          simp only
          cases hd : oj.dst with
          | none => rfl
          | some d =>
            simp only
            have hG : ∀ g : GW Value 8, (plGuardW g w (plOp P ((nth bef i).getD 0) o i f) (plPlain (putOf o.dst) undefF)).run ih n df t S (entsOf P chk) rest =
                bif isB (g.f t) w then plOp P ((nth bef i).getD 0) o i f ih n df t S (entsOf P chk) rest else plPlain (putOf o.dst) undefF ih n df t S (entsOf P chk) rest := by
              intro g
              cases g with | mk g =>
              show Bool.rec (motive := fun _ => Res3) _ _ (isB (g t) w) = _
              cases hb : isB (g t) w <;> rfl
            rw [hG, getK_eq]
            rfl
    rw [hrun, hop, hun]
    conv => rhs; unfold runPlan
    simp only [ca_ev]
    cases wantedC full ⟨n, t, df⟩ o with
    | false =>
      simp only [cond_false]
      exact (putS_eq n t df o.dst undef (fun a => runPlan P ih full bef l chk a S)).symm
    | true => rfl

/-! ### code -/
theorem seqK_eq (y : Code) (ih : Fns) (ro : Option Nat) (r : Res3) : seqK y ih ro r = (match r with
  | some (.normal, a', S') => ih.exec ro y a' S'
  | r => r) := rfl

theorem codeW_eq (ih : Fns) (ro : Option Nat) (code : Code) (a : Ca) (S : St) : (codeW P code).run ih ro a S = execF P ih ro code a S := by
  cases code with
  | skip => rfl
  | label l => rfl
  | exit id => rfl
  | ret => rfl
  | seq x y => rfl
  | loop c => rfl
  | block id c => rfl
  | scope c => rfl
  | rangeFunc f ps x y => rfl
  | goto l => rfl
  | refuse r => rfl
  | cond c x y =>
    show (condW (evW c) x y).run ih ro a S = _
    cases hc : evW c with | mk g =>
    show condK (ih.exec ro x a S) (ih.exec ro y a S) (asBoolF (g a.t)) = _
    unfold condK
    obtain ⟨n, t, df⟩ := a
    rw [withO_eq, asBoolF_eq, evW_get hc]
    simp only [execF, ca_ev]
    cases evT t c <;> try rfl
    rename_i b
    cases b <;> rfl
  | region id ops draw =>
    show (regionW P ops.toList draw).run ih ro a S = _
    unfold regionW
    simp only [execF]
    cases constsOk P ops.toList with
    | false => rfl
    | true =>
      simp only [cond_true]
      obtain ⟨n, t, df⟩ := a
      cases draw with
      | false => exact runC_eq _ _ _ _ _ _ _
      | true =>
        show (drawW P ops.toList (planW ops.toList)).run ih ro ⟨n, t, df⟩ S = runDraw P ih ops.toList ⟨n, t, df⟩ S
        unfold runDraw
        cases planW ops.toList with
        | none => rfl
        | some x =>
          obtain ⟨bf, pl⟩ := x
          exact runPl_eq ops.toList bf ih n df pl [] t S
theorem execG_eq (ih : Fns) : execG P ih = execF P ih := by
  funext ro code a S
  rw [← codeW_eq]
  show execW (codeW P code) ih ro a S = _
  cases codeW P code; rfl

/-! ### calls -/
theorem setArgs_eq : ∀ (l : List Value) (i : Nat) (t : Tm), setArgs i l t = PT.ofList i t l
  | [], i, t => rfl
  | v :: l, i, t => by
    have e : setArgs i (v :: l) t = setArgs (i + 1) l (appS (setK 8 i) (some v) t) := rfl
    rw [e, appS_eq, setK_eq, setArgs_eq l]
    rfl
theorem resG_eq (n : Nat) (t : Tm) (df : List Deferred) (S : St) : ∀ l, resG P t S l = resultsL P ⟨n, t, df⟩ S l
  | [] => rfl
  | .tmp x :: l => by
    unfold resG resultsL
    rw [resG_eq n t df S l, evA_eq]
    rfl
  | .cell x e :: l => by
    unfold resG resultsL
    rw [resG_eq n t df S l, evA_eq]
    rfl
theorem leaveG_eq (rs : List ResultVar) (r : Res3) : leaveG P rs r = (match r with
      | some (e, a', S') => match e with
        | .normal | .ret => match takeMarks a'.defers S' with
          | some S'' => match resultsL P a' S'' rs with
            | some [v] => some (.returned v, S'')
            | some vs => some (.returned (.tuple vs.toArray), S'')
            | none => none
          | none => none
        | .panic ch => match takeMarks a'.defers S' with
          | some S'' => some (.panicked ch, S'')
          | none => none
        | _ => none
      | none => none) := by
  cases r with
  | none => rfl
  | some x =>
    obtain ⟨e, ⟨n, t, df⟩, S⟩ := x
    have hret : retG P rs t (takeMarks df S) = (match takeMarks df S with
          | some S'' => match resultsL P ⟨n, t, df⟩ S'' rs with
            | some [v] => some (Ending.returned v, S'')
            | some vs => some (.returned (.tuple vs.toArray), S'')
            | none => none
          | none => none) := by
      cases takeMarks df S with
      | none => rfl
      | some S2 =>
        show retV S2 (resG P t S2 rs) = _
        rw [resG_eq n t df]
        simp only
        cases resultsL P ⟨n, t, df⟩ S2 rs with
        | none => rfl
        | some l => match l with
          | [] => rfl
          | [v] => rfl
          | _ :: _ :: _ => rfl
    cases e with
    | normal => exact hret
    | ret => exact hret
    | panic ch =>
      show panG ch (takeMarks df S) = _
      simp only
      cases takeMarks df S <;> rfl
    | exit id => rfl
    | goto l => rfl
    | outgrown => rfl

theorem enterG_eq (K : Known) (ih : Fns) (f : FuncId) (args : List Value) (S : St) : enterG P K ih f args S (entW P f) = enterB P K ih f args S := by
  unfold entW enterB
  cases hf : P.funcs[f]? with
  | none => rfl
  | some fn =>
    simp only
    cases hb : fn.body with
    | none => show extG (K.ext f args S) = _; cases K.ext f args S <;> rfl
    | some c =>
      simp only
      cases hn : (fn.name == "runtime.NumGoroutine") with
      | true => rfl
      | false =>
        simp only [cond_false, Bool.false_or]
        show goG P ih (maxN fn.ntmps args.length) c fn.results.toList args S = _
        unfold goG
        cases Nat.blt 256 (maxN fn.ntmps args.length) with
        | true => rfl
        | false =>
          simp only [cond_false]
          rw [leaveG_eq, setArgs_eq]
          first
            | rfl
            | (split <;> rfl)

theorem callG_eq (K : Known) (ih : Fns) : callG P K ih = callF P K ih := by
  funext target args S
  unfold callG
  split
  · rename_i f
    simp only [callF, List.append_nil, enterF, enterG_eq]
    cases K.call f args <;> rfl
  · rfl

theorem fnsG_eq (K : Known) : ∀ n, fnsG P K n = fns P K n
  | 0 => rfl
  | n + 1 => by
    have e : fnsG P K (n + 1) = ⟨execG P (fnsG P K n), callG P K (fnsG P K n)⟩ := rfl
    rw [e, execG_eq, callG_eq, fnsG_eq K n]
    rfl

end
end Go.Cm
