/-
  CM, part 19: regions that draw their order: the plan stands for every order.
-/
import Derived.Test.YtfoonohjjeofhaaGreatDoorCmDraw
namespace Go.Cm
open Go
variable {P : Program} {w0 : Base} {K : Known}

/-! ### activations -/
theorem put_get {a a' : Ca} {dst : Option Tmp} {v : Value} (hn : a.n ≤ 256) (h : a.put dst v = some a') (t : Tmp) : a'.get t = if dst = some t then v else a.get t := by
  unfold Ca.put at h
  cases dst with
  | none => simp only [Option.some.injEq] at h; subst h; simp
  | some d =>
    simp only at h
    cases hb : Nat.blt d a.n with
    | false => rw [hb] at h; cases h
    | true =>
      rw [hb] at h
      simp only [cond_true, Option.some.injEq] at h
      subst h
      have hd := nblt_tt hb
      simp only [get_eq, getT, Option.some.injEq]
      rw [PT.get_set_if _ _ _ (by omega)]
      by_cases e : t = d
      · subst e; simp
      · rw [if_neg e, if_neg (fun h => e h.symm)]
theorem put_n {a a' : Ca} {dst : Option Tmp} {v : Value} (h : a.put dst v = some a') : a'.n = a.n ∧ a'.defers = a.defers := by
  unfold Ca.put at h
  cases dst with
  | none => simp only [Option.some.injEq] at h; subst h; exact ⟨rfl, rfl⟩
  | some d =>
    simp only at h
    cases hb : Nat.blt d a.n with
    | false => rw [hb] at h; cases h
    | true =>
      rw [hb] at h
      simp only [cond_true, Option.some.injEq] at h
      subst h
      exact ⟨rfl, rfl⟩
theorem put_some {a a' b : Ca} {dst : Option Tmp} {v : Value} (h : a.put dst v = some a') (hn : b.n = a.n) (v' : Value) : ∃ b', b.put dst v' = some b' := by
  unfold Ca.put at h ⊢
  cases dst with
  | none => exact ⟨_, rfl⟩
  | some d =>
    simp only at h ⊢
    cases hb : Nat.blt d a.n with
    | false => rw [hb] at h; cases h
    | true => rw [hn, hb]; exact ⟨_, rfl⟩

theorem mem_guard {full : List Oper} {o oj : Oper} {j : Nat} {x : Bool} {d : Tmp} (h : o.guard = some (j, x)) (h1 : nth full j = some oj) (h2 : oj.dst = some d) : d ∈ opTmps full o := by
  unfold opTmps
  simp only [h, h1, h2, List.append_assoc]
  exact List.mem_append_left _ (by simp)
theorem mem_tmp {full : List Oper} {o : Oper} {t : Tmp} (h : .tmp t ∈ o.op.operands) : t ∈ opTmps full o := by
  unfold opTmps
  exact List.mem_append_right _ (List.mem_filterMap.2 ⟨.tmp t, by simpa using h, rfl⟩)

theorem wantedC_congr {full : List Oper} {o : Oper} {a b : Ca} (h : ∀ t ∈ opTmps full o, a.get t = b.get t) : wantedC full a o = wantedC full b o := by
  unfold wantedC
  cases hg : o.guard with
  | none => rfl
  | some q =>
    obtain ⟨j, x⟩ := q
    simp only
    cases hj : nth full j with
    | none => rfl
    | some oj =>
      simp only
      cases hd : oj.dst with
      | none => rfl
      | some d =>
        simp only
        have := h d (mem_guard hg hj hd)
        unfold Ca.get at this
        cases ha : a.t.get d with
        | none =>
          cases hb : b.t.get d with
          | none => rfl
          | some v => rw [ha, hb] at this; simp only at this; rw [← this]; rfl
        | some u =>
          cases hb : b.t.get d with
          | none => rw [ha, hb] at this; simp only at this; rw [this]; rfl
          | some v => rw [ha, hb] at this; simp only at this; rw [this]
theorem ev_congr {full : List Oper} {o : Oper} {a b : Ca} (h : ∀ t ∈ opTmps full o, a.get t = b.get t) : ∀ x, x ∈ o.op.operands → a.ev x = b.ev x := by
  intro x hx
  cases x with
  | tmp t => exact h t (mem_tmp hx)
  | const v => rfl
  | global g => rfl
  | func f => rfl

/-! ### what the plan has done and the model has not -/
structure Pn where
  o : Oper
  i : Nat
  a : Ca
  v : Value
  b : Option Nat

inductive PnOk (P : Program) (full : List Oper) (S : St) (chk : List (Nat × Chk)) (no : Nat → Bool) (q : Pn) : Prop
  | skip (h : wantedC full q.a q.o = false) (hv : q.v = undef) (hb : q.b = none)
  | read (h : wantedC full q.a q.o = true) (hk : kindOf q.o.op = .read) (hr : readOp P q.a.ev q.o.op S = some q.v) (hc : looks q.o.op = true → (q.i, Chk.read q.a q.o.op q.v) ∈ chk) (hb : q.b = none)
  | fresh (h : wantedC full q.a q.o = true) (hk : kindOf q.o.op = .fresh) {B : Blk} {mk : Nat → Value} {b : Nat} {c : Chk} (hb : q.b = some b) (hv : q.v = mk b) (hB : S.get b = some B) (hc : (q.i, c) ∈ chk)
      (hcb : ∀ S', c.ok P S' = true → S'.get b = some B) (hno : no b = true) (hrun : NewRun P q.o q.a.ev B mk)

theorem PnOk.grow {full : List Oper} {S S' : St} {chk chk' : List (Nat × Chk)} {no no' : Nat → Bool} {q : Pn} (h : PnOk P full S chk no q) (hl : Le S S') (hc : ∀ x ∈ chk, x ∈ chk') (hn : ∀ b, no b = true → no' b = true) : PnOk P full S' chk' no' q := by
  cases h with
  | skip h hv hb => exact .skip h hv hb
  | read h hk hr hk2 hb => exact .read h hk (readOp_mono hl hr) (fun h => hc _ (hk2 h)) hb
  | fresh h hk hb hv hB hcm hcb hno hrun => exact .fresh h hk hb hv (hl _ _ hB) (hc _ hcm) hcb (hn _ hno) hrun
theorem PnOk.turn {full : List Oper} {S S' : St} {chk chk' : List (Nat × Chk)} {no : Nat → Bool} {q : Pn} (h : PnOk P full S chk no q) (hkeep : ∀ c, (q.i, c) ∈ chk → (q.i, c) ∈ chk') (hok : ∀ x ∈ chk', x.2.ok P S' = true) : PnOk P full S' chk' no q := by
  cases h with
  | skip h hv hb => exact .skip h hv hb
  | read h hk hr hk2 hb =>
    refine .read h hk ?_ (fun h => hkeep _ (hk2 h)) hb
    cases hlk : looks q.o.op with
    | false => exact readOp_calm hlk hr
    | true =>
      have := hok _ (hkeep _ (hk2 hlk))
      simp only [Chk.ok] at this
      split at this
      · rename_i x hx
        rw [hx, sameV_eq _ _ _ this]
      · cases this
  | fresh h hk hb hv hB hcm hcb hno hrun => exact .fresh h hk hb hv (hcb _ (hok _ (hkeep _ hcm))) (hkeep _ hcm) hcb hno hrun
theorem PnOk.no {full : List Oper} {S : St} {chk : List (Nat × Chk)} {no no' : Nat → Bool} {q : Pn} (h : PnOk P full S chk no q) (hn : ∀ b, q.b = some b → no b = true → no' b = true) : PnOk P full S chk no' q := by
  cases h with
  | skip h hv hb => exact .skip h hv hb
  | read h hk hr hk2 hb => exact .read h hk hr hk2 hb
  | fresh h hk hb hv hB hcm hcb hno hrun => exact .fresh h hk hb hv hB hcm hcb (hn _ hb hno) hrun

abbrev bef (full : List Oper) (i : Nat) : Nat := bits (befores full []) i

/-- the plan's run and the model's run: where they stand -/
structure Inv (P : Program) (ih : Fns) (full : List Oper) (e : Exit) (a1 : Ca) (S1 : St) (w0 : Base) (ρ0 : Rmap) (Ls : Nat → Prop) (ar : Act) (w : World)
    (pend : List Pn) (rest : List (Oper × Nat)) (chk : List (Nat × Chk)) (a : Ca) (S : St) (A : Ca) (no : Nat → Bool) (ρ : Rmap) (done : Nat) : Prop where
  run : runPlan P ih full (befores full []) rest chk a S = some (e, a1, S1)
  plan : planOk full (befores full []) rest done = true
  mem : ∀ x ∈ rest, full[x.2]? = some x.1
  don : ∀ x, done.testBit x = true ↔ Ls x ∨ ∃ q ∈ pend, q.i = x
  cls : ∀ j, Ls j → ∀ b, (bef full j).testBit b = true → Ls b
  pmem : ∀ q ∈ pend, full[q.i]? = some q.o
  pnl : ∀ q ∈ pend, ¬ Ls q.i
  pun : ∀ q ∈ pend, ∀ q' ∈ pend, q.i = q'.i → q = q'
  pbef : ∀ q ∈ pend, ∀ b, (bef full q.i).testBit b = true → done.testBit b = true
  pok : ∀ q ∈ pend, PnOk P full S chk no q
  pput : ∀ q ∈ pend, ∃ a', q.a.put q.o.dst q.v = some a'
  pn : ∀ q ∈ pend, q.a.n = a.n
  An : A.n = a.n ∧ A.defers = a.defers
  agree : ∀ t, (∀ q ∈ pend, q.o.dst ≠ some t) → A.get t = a.get t
  pagree : ∀ q ∈ pend, ∀ t ∈ opTmps full q.o, (∀ j ∈ pend, (bef full q.i).testBit j.i = true → j.o.dst ≠ some t) → A.get t = q.a.get t
  pdst : ∀ q ∈ pend, ∀ d, q.o.dst = some d → a.get d = q.v
  ppdst : ∀ q ∈ pend, ∀ j ∈ pend, (bef full q.i).testBit j.i = true → ∀ d, j.o.dst = some d → q.a.get d = j.v
  bno : ∀ x, no x = true ↔ w0.no x = true ∨ ∃ q ∈ pend, q.b = some x
  bw : ∀ q ∈ pend, ∀ x, q.b = some x → w0.no x = false
  bun : ∀ q ∈ pend, ∀ q' ∈ pend, ∀ x, q.b = some x → q'.b = some x → q.i = q'.i
  ext : Ext ρ0 ρ
  sim : Sim P ⟨w0.toWorld, no⟩ ρ S w
  act : ActR ρ A ar

section
variable {ih : Fns} {full : List Oper} {e : Exit} {a1 : Ca} {S1 : St} {ρ0 : Rmap} {Ls : Nat → Prop} {ar : Act} {w : World}
  {pend : List Pn} {rest : List (Oper × Nat)} {chk : List (Nat × Chk)} {a : Ca} {S : St} {A : Ca} {no : Nat → Bool} {ρ : Rmap} {done : Nat}

theorem bit_or {x i j : Nat} : (x ||| 2 ^ i).testBit j = true ↔ x.testBit j = true ∨ j = i := by
  rw [Nat.testBit_or, Nat.testBit_two_pow, Bool.or_eq_true, decide_eq_true_eq]
  constructor <;> (rintro (h | h) <;> first | exact .inl h | exact .inr h.symm)

theorem Inv.push (hP : pairsOk full (befores full []) full.zipIdx = true) {o : Oper} {i : Nat} {r : List (Oper × Nat)} (h : Inv P ih full e a1 S1 w0 ρ0 Ls ar w pend ((o, i) :: r) chk a S A no ρ done)
    {v : Value} {b : Option Nat} {a' : Ca} {S' : St} {chk' : List (Nat × Chk)} {no' : Nat → Bool} (hput : a.put o.dst v = some a') (hrun : runPlan P ih full (befores full []) r chk' a' S' = some (e, a1, S1))
    (hl : Le S S') (hc : ∀ x ∈ chk, x ∈ chk') (hno : ∀ x, no' x = true ↔ no x = true ∨ b = some x) (hb : ∀ x, b = some x → no x = false) (hsim : Sim P ⟨w0.toWorld, no'⟩ ρ S' w)
    (hq : PnOk P full S' chk' no' ⟨o, i, a, v, b⟩) : Inv P ih full e a1 S1 w0 ρ0 Ls ar w (pend ++ [⟨o, i, a, v, b⟩]) r chk' a' S' A no' ρ (done ||| 2 ^ i) := by
  obtain ⟨hd, hbf, _, hpl⟩ := planOk_cons h.plan
  have hi : full[i]? = some o := h.mem (o, i) (by simp)
  have hn : a.n ≤ 256 := by rw [← h.An.1]; exact h.act.le
  have hnd : ¬ (done.testBit i = true) := by rw [hd]; simp
  have hpi : ∀ q ∈ pend, q.i ≠ i := fun q hq e => hnd ((h.don i).2 (.inr ⟨q, hq, e⟩))
  have mem' : ∀ q, q ∈ pend ++ [⟨o, i, a, v, b⟩] ↔ q ∈ pend ∨ q = ⟨o, i, a, v, b⟩ := fun q => by simp
  refine ⟨hrun, hpl, fun x hx => h.mem x (by simp [hx]), fun x => ?_, h.cls, ?_, ?_, ?_, ?_, ?_, ?_, ?_, ?_, ?_, ?_, ?_, ?_, ?_, ?_, ?_, h.ext, hsim, h.act⟩
  · rw [bit_or, h.don]
    constructor
    · rintro ((h1 | ⟨q, hq, h1⟩) | h1)
      · exact .inl h1
      · exact .inr ⟨q, (mem' q).2 (.inl hq), h1⟩
      · exact .inr ⟨_, (mem' _).2 (.inr rfl), h1.symm⟩
    · rintro (h1 | ⟨q, hq, h1⟩)
      · exact .inl (.inl h1)
      · rcases (mem' q).1 hq with hq | rfl
        · exact .inl (.inr ⟨q, hq, h1⟩)
        · exact .inr h1.symm
  · intro q hq
    rcases (mem' q).1 hq with hq | rfl
    · exact h.pmem q hq
    · exact hi
  · intro q hq
    rcases (mem' q).1 hq with hq | rfl
    · exact h.pnl q hq
    · exact fun hl => hnd ((h.don i).2 (.inl hl))
  · intro q hq q' hq' he
    rcases (mem' q).1 hq with hq | rfl
    · rcases (mem' q').1 hq' with hq' | rfl
      · exact h.pun q hq q' hq' he
      · exact absurd he (hpi q hq)
    · rcases (mem' q').1 hq' with hq' | rfl
      · exact absurd he.symm (hpi q' hq')
      · rfl
  · intro q hq x hx
    refine bit_or.2 (.inl ?_)
    rcases (mem' q).1 hq with hq | rfl
    · exact h.pbef q hq x hx
    · exact hbf x hx
  · intro q hq'
    rcases (mem' q).1 hq' with hq' | rfl
    · exact (h.pok q hq').grow hl hc (fun x hx => (hno x).2 (.inl hx))
    · exact hq
  · intro q hq
    rcases (mem' q).1 hq with hq | rfl
    · exact h.pput q hq
    · exact ⟨_, hput⟩
  · intro q hq
    rw [(put_n hput).1]
    rcases (mem' q).1 hq with hq | rfl
    · exact h.pn q hq
    · rfl
  · rw [(put_n hput).1, (put_n hput).2]; exact h.An
  · intro t ht
    rw [put_get hn hput, if_neg (ht ⟨o, i, a, v, b⟩ ((mem' _).2 (.inr rfl)))]
    exact h.agree t fun q hq => ht q ((mem' q).2 (.inl hq))
  · intro q hq t ht hpre
    rcases (mem' q).1 hq with hq | rfl
    · exact h.pagree q hq t ht fun j hj => hpre j ((mem' j).2 (.inl hj))
    · refine h.agree t fun j hj he => ?_
      rcases (pair_sep hP (h.pmem j hj) hi (hpi j hj)).1 t he ht with h1 | h1
      · exact hpre j ((mem' j).2 (.inl hj)) h1 he
      · exact hnd (h.pbef j hj i h1)
  · intro q hq d hqd
    rw [put_get hn hput]
    rcases (mem' q).1 hq with hq | rfl
    · rw [if_neg ((pair_sep hP (h.pmem q hq) hi (hpi q hq)).2 d hqd)]
      exact h.pdst q hq d hqd
    · rw [if_pos hqd]
  · intro q hq j hj hbit d hjd
    rcases (mem' q).1 hq with hq | rfl
    · rcases (mem' j).1 hj with hj | rfl
      · exact h.ppdst q hq j hj hbit d hjd
      · exact absurd (h.pbef q hq i hbit) hnd
    · rcases (mem' j).1 hj with hj | rfl
      · exact h.pdst j hj d hjd
      · exact absurd (hbf i hbit) hnd
  · intro x
    rw [hno, h.bno]
    constructor
    · rintro ((h1 | ⟨q, hq, h1⟩) | h1)
      · exact .inl h1
      · exact .inr ⟨q, (mem' q).2 (.inl hq), h1⟩
      · exact .inr ⟨_, (mem' _).2 (.inr rfl), h1⟩
    · rintro (h1 | ⟨q, hq, h1⟩)
      · exact .inl (.inl h1)
      · rcases (mem' q).1 hq with hq | rfl
        · exact .inl (.inr ⟨q, hq, h1⟩)
        · exact .inr h1
  · intro q hq x hx
    rcases (mem' q).1 hq with hq | rfl
    · exact h.bw q hq x hx
    · have h1 := hb x hx
      cases h2 : w0.no x with
      | false => rfl
      | true => rw [(h.bno x).2 (.inl h2)] at h1; cases h1
  · intro q hq q' hq' x hx hx'
    rcases (mem' q).1 hq with hq | rfl
    · rcases (mem' q').1 hq' with hq' | rfl
      · exact h.bun q hq q' hq' x hx hx'
      · have := hb x hx'
        rw [(h.bno x).2 (.inr ⟨q, hq, hx⟩)] at this
        cases this
    · rcases (mem' q').1 hq' with hq' | rfl
      · have := hb x hx
        rw [(h.bno x).2 (.inr ⟨q', hq', hx'⟩)] at this
        cases this
      · rfl

theorem le_new {S : St} (B : Blk) (h : S.get S.size = none) : Le S ⟨S.heap.set S.size (some B), S.size + 1⟩ := by
  intro b C hC
  simp only [St.get, PT.get_set_any] at hC h ⊢
  rw [if_neg (fun e => by rw [e.1, h] at hC; cases hC)]
  exact hC

theorem Inv.absorb (hP : pairsOk full (befores full []) full.zipIdx = true) : ∀ (rest : List (Oper × Nat)) (pend : List Pn) (chk : List (Nat × Chk)) (a : Ca) (S : St) (no : Nat → Bool) (done : Nat),
    Inv P ih full e a1 S1 w0 ρ0 Ls ar w pend rest chk a S A no ρ done →
    ∃ pend' rest' chk' a' S' no' done', Inv P ih full e a1 S1 w0 ρ0 Ls ar w pend' rest' chk' a' S' A no' ρ done' ∧ pend'.length + rest'.length = pend.length + rest.length ∧
      (∀ o i r, rest' = (o, i) :: r → wantedC full a' o = true ∧ kindOf o.op = .heavy)
  | [], pend, chk, a, S, no, done, h => ⟨pend, [], chk, a, S, no, done, h, rfl, fun o i r he => by cases he⟩
  | (o, i) :: r, pend, chk, a, S, no, done, h => by
    have hr := h.run
    unfold runPlan at hr
    cases hw : wantedC full a o with
    | false =>
      rw [hw] at hr
      simp only [cond_false] at hr
      split at hr
      · rename_i a' hput
        have h2 := h.push hP (v := undef) (b := none) (no' := no) hput hr (fun _ _ h => h) (fun _ h => h) (fun x => by simp) (fun x hx => by cases hx) h.sim (.skip hw rfl rfl)
        obtain ⟨p', r', c', a'', S', no', d', h3, h4, h5⟩ := Inv.absorb hP r _ _ _ _ _ _ h2
        exact ⟨p', r', c', a'', S', no', d', h3, by rw [h4]; simp; omega, h5⟩
      · cases hr
    | true =>
      rw [hw] at hr
      simp only [cond_true] at hr
      split at hr
      · rename_i hk
        split at hr
        · rename_i v hv
          split at hr
          · rename_i a' hput
            have h2 := h.push hP (v := v) (b := none) (no' := no) hput hr (fun _ _ h => h) (fun x hx => by cases looks o.op <;> simp [hx]) (fun x => by simp) (fun x hx => by cases hx) h.sim
              (.read hw hk hv (fun hlk => by simp [hlk]) rfl)
            obtain ⟨p', r', c', a'', S', no', d', h3, h4, h5⟩ := Inv.absorb hP r _ _ _ _ _ _ h2
            exact ⟨p', r', c', a'', S', no', d', h3, by rw [h4]; simp; omega, h5⟩
          · cases hr
        · cases hr
      · rename_i hk
        split at hr
        · rename_i v S' hv
          split at hr
          · rename_i a' c hput hck hnone
            obtain ⟨B, mk, rfl, rfl, hrun⟩ := new_spec hv
            have hlt : S.size < 2 ^ 16 := by
              unfold chkOf at hck
              split at hck
              · rename_i hg; exact get_lt hg
              · rename_i hg; exact get_lt hg
              · cases hck
            have hB : (⟨S.heap.set S.size (some B), S.size + 1⟩ : St).get S.size = some B := by
              simp only [St.get, PT.get_set_any]
              rw [if_pos ⟨trivial, hlt⟩]
            have hnoS : no S.size = false := by
              cases hx : no S.size with
              | false => rfl
              | true => exact absurd (h.sim.no _ hx).2 (Nat.lt_irrefl _)
            have hno' : ∀ x, (no x || x == S.size) = true ↔ no x = true ∨ some S.size = some x := by
              intro x
              rw [Bool.or_eq_true, beq_iff_eq, Option.some.injEq]
              constructor <;> (rintro (h | h) <;> first | exact .inl h | exact .inr h.symm)
            have h2 := h.push hP (v := mk S.size) (b := some S.size) (no' := fun x => no x || x == S.size) hput hr (le_new B hnone) (fun x hx => by simp [hx]) hno'
              (fun x hx => by cases hx; exact hnoS)
              (h.sim.unborn B (fun x hx => by rcases (hno' x).1 hx with h1 | h1 <;> first | exact .inl h1 | exact .inr (Option.some.inj h1).symm))
              (.fresh hw hk rfl rfl hB (List.mem_cons_self ..) (fun S'' hok => chk_get hck hB hok) ((hno' _).2 (.inr rfl)) hrun)
            obtain ⟨p', r', c', a'', S', no', d', h3, h4, h5⟩ := Inv.absorb hP r _ _ _ _ _ _ h2
            exact ⟨p', r', c', a'', S', no', d', h3, by rw [h4]; simp; omega, h5⟩
          · cases hr
        · cases hr
      · rename_i hk
        exact ⟨pend, (o, i) :: r, chk, a, S, no, done, h, rfl, fun o' i' r' he => by cases he; exact ⟨hw, hk⟩⟩

/-- the model has done what was pending -/
theorem Inv.drop (hP : pairsOk full (befores full []) full.zipIdx = true) (h : Inv P ih full e a1 S1 w0 ρ0 Ls ar w pend rest chk a S A no ρ done) {q : Pn} (hq : q ∈ pend) (hready : ∀ b, (bef full q.i).testBit b = true → Ls b)
    {A' : Ca} {ar' : Act} {w' : World} {ρ' : Rmap} {no' : Nat → Bool} (hput : A.put q.o.dst q.v = some A') (hno : ∀ x, no' x = true ↔ no x = true ∧ q.b ≠ some x) (hx : Ext ρ ρ')
    (hs : Sim P ⟨w0.toWorld, no'⟩ ρ' S w') (hact : ActR ρ' A' ar') :
    Inv P ih full e a1 S1 w0 ρ0 (fun x => Ls x ∨ x = q.i) ar' w' (pend.filter fun x => !(x.i == q.i)) rest chk a S A' no' ρ' done := by
  have hn : A.n ≤ 256 := h.act.le
  have mem' : ∀ x, x ∈ (pend.filter fun x => !(x.i == q.i)) ↔ x ∈ pend ∧ x.i ≠ q.i := fun x => by simp [List.mem_filter]
  have hqi := h.pmem q hq
  refine ⟨h.run, h.plan, h.mem, fun x => ?_, ?_, ?_, ?_, ?_, ?_, ?_, ?_, ?_, ?_, ?_, ?_, ?_, ?_, ?_, ?_, ?_, h.ext.trans hx, hs, hact⟩
  · rw [h.don]
    constructor
    · rintro (h1 | ⟨p, hp, h1⟩)
      · exact .inl (.inl h1)
      · by_cases he : p.i = q.i
        · exact .inl (.inr (h1 ▸ he))
        · exact .inr ⟨p, (mem' p).2 ⟨hp, he⟩, h1⟩
    · rintro ((h1 | h1) | ⟨p, hp, h1⟩)
      · exact .inl h1
      · exact .inr ⟨q, hq, h1.symm⟩
      · exact .inr ⟨p, ((mem' p).1 hp).1, h1⟩
  · rintro j (hj | hj) b hb
    · exact .inl (h.cls j hj b hb)
    · subst hj; exact .inl (hready b hb)
  · intro p hp; exact h.pmem p ((mem' p).1 hp).1
  · rintro p hp (h1 | h1)
    · exact h.pnl p ((mem' p).1 hp).1 h1
    · exact ((mem' p).1 hp).2 h1
  · intro p hp p' hp'; exact h.pun p ((mem' p).1 hp).1 p' ((mem' p').1 hp').1
  · intro p hp; exact h.pbef p ((mem' p).1 hp).1
  · intro p hp
    refine (h.pok p ((mem' p).1 hp).1).no fun b hb hnb => (hno b).2 ⟨hnb, fun he => ?_⟩
    exact ((mem' p).1 hp).2 (h.bun p ((mem' p).1 hp).1 q hq b hb he)
  · intro p hp; exact h.pput p ((mem' p).1 hp).1
  · intro p hp; exact h.pn p ((mem' p).1 hp).1
  · rw [(put_n hput).1, (put_n hput).2]; exact h.An
  · intro t ht
    rw [put_get hn hput]
    by_cases he : q.o.dst = some t
    · rw [if_pos he]; exact (h.pdst q hq t he).symm
    · rw [if_neg he]
      refine h.agree t fun p hp hpt => ?_
      by_cases hpi : p.i = q.i
      · have := h.pun p hp q hq hpi
        subst this
        exact he hpt
      · exact ht p ((mem' p).2 ⟨hp, hpi⟩) hpt
  · intro p hp t ht hpre
    have hp0 := (mem' p).1 hp
    rw [put_get hn hput]
    by_cases he : q.o.dst = some t
    · rw [if_pos he]
      rcases (pair_sep hP hqi (h.pmem p hp0.1) (fun e => hp0.2 e.symm)).1 t he ht with h1 | h1
      · exact (h.ppdst p hp0.1 q hq h1 t he).symm
      · exact absurd (hready _ h1) (h.pnl p hp0.1)
    · rw [if_neg he]
      refine h.pagree p hp0.1 t ht fun j hj hbit hjt => ?_
      by_cases hji : j.i = q.i
      · have := h.pun j hj q hq hji
        subst this
        exact he hjt
      · exact hpre j ((mem' j).2 ⟨hj, hji⟩) hbit hjt
  · intro p hp; exact h.pdst p ((mem' p).1 hp).1
  · intro p hp j hj; exact h.ppdst p ((mem' p).1 hp).1 j ((mem' j).1 hj).1
  · intro x
    rw [hno, h.bno]
    constructor
    · rintro ⟨h1 | ⟨p, hp, h1⟩, h2⟩
      · exact .inl h1
      · refine .inr ⟨p, (mem' p).2 ⟨hp, fun he => ?_⟩, h1⟩
        have := h.pun p hp q hq he
        subst this
        exact h2 h1
    · rintro (h1 | ⟨p, hp, h1⟩)
      · refine ⟨.inl h1, fun he => ?_⟩
        have := h.bw q hq x he
        rw [h1] at this; cases this
      · have hp0 := (mem' p).1 hp
        exact ⟨.inr ⟨p, hp0.1, h1⟩, fun he => hp0.2 (h.bun p hp0.1 q hq x h1 he)⟩
  · intro p hp; exact h.bw p ((mem' p).1 hp).1
  · intro p hp p' hp'; exact h.bun p ((mem' p).1 hp).1 p' ((mem' p').1 hp').1

/-- the model has done the plan's next heavy operation -/
theorem Inv.head (hP : pairsOk full (befores full []) full.zipIdx = true) {o : Oper} {i : Nat} {r : List (Oper × Nat)} (h : Inv P ih full e a1 S1 w0 ρ0 Ls ar w pend ((o, i) :: r) chk a S A no ρ done)
    (hready : ∀ b, (bef full i).testBit b = true → Ls b) {v : Value} {a' A' : Ca} {S' : St} (hput : a.put o.dst v = some a') (hputA : A.put o.dst v = some A')
    (hrun : runPlan P ih full (befores full []) r (chk.filter fun x => !(bef full i).testBit x.1) a' S' = some (e, a1, S1)) (hok : ∀ x ∈ (chk.filter fun x => !(bef full i).testBit x.1), x.2.ok P S' = true)
    {ar' : Act} {w' : World} {ρ' : Rmap} (hx : Ext ρ ρ') (hs : Sim P ⟨w0.toWorld, no⟩ ρ' S' w') (hact : ActR ρ' A' ar') :
    Inv P ih full e a1 S1 w0 ρ0 (fun x => Ls x ∨ x = i) ar' w' pend r (chk.filter fun x => !(bef full i).testBit x.1) a' S' A' no ρ' (done ||| 2 ^ i) := by
  obtain ⟨hd, hbf, _, hpl⟩ := planOk_cons h.plan
  have hi : full[i]? = some o := h.mem (o, i) (by simp)
  have hn : a.n ≤ 256 := by rw [← h.An.1]; exact h.act.le
  have hnA : A.n ≤ 256 := h.act.le
  have hnd : ¬ (done.testBit i = true) := by rw [hd]; simp
  have hpi : ∀ q ∈ pend, q.i ≠ i := fun q hq e => hnd ((h.don i).2 (.inr ⟨q, hq, e⟩))
  have hpb : ∀ q ∈ pend, ¬ ((bef full i).testBit q.i = true) := fun q hq hb => h.pnl q hq (hready _ hb)
  refine ⟨hrun, hpl, fun x hx => h.mem x (by simp [hx]), fun x => ?_, ?_, h.pmem, ?_, h.pun, ?_, ?_, h.pput, ?_, ?_, ?_, ?_, ?_, h.ppdst, h.bno, h.bw, h.bun, h.ext.trans hx, hs, hact⟩
  · rw [bit_or, h.don]
    constructor
    · rintro ((h1 | h1) | h1)
      · exact .inl (.inl h1)
      · exact .inr h1
      · exact .inl (.inr h1)
    · rintro ((h1 | h1) | h1)
      · exact .inl (.inl h1)
      · exact .inr h1
      · exact .inl (.inr h1)
  · rintro j (hj | hj) b hb
    · exact .inl (h.cls j hj b hb)
    · subst hj; exact .inl (hready b hb)
  · rintro q hq (h1 | h1)
    · exact h.pnl q hq h1
    · exact hpi q hq h1
  · intro q hq b hb; exact bit_or.2 (.inl (h.pbef q hq b hb))
  · intro q hq
    refine (h.pok q hq).turn (fun c hc => List.mem_filter.2 ⟨hc, ?_⟩) hok
    cases hb : (bef full i).testBit q.i with
    | false => rfl
    | true => exact absurd hb (hpb q hq)
  · intro q hq; rw [(put_n hput).1]; exact h.pn q hq
  · rw [(put_n hput).1, (put_n hput).2, (put_n hputA).1, (put_n hputA).2]; exact h.An
  · intro t ht
    rw [put_get hn hput, put_get hnA hputA]
    by_cases he : o.dst = some t
    · rw [if_pos he, if_pos he]
    · rw [if_neg he, if_neg he]; exact h.agree t ht
  · intro q hq t ht hpre
    rw [put_get hnA hputA, if_neg (fun he => ?_)]
    · exact h.pagree q hq t ht hpre
    · rcases (pair_sep hP hi (h.pmem q hq) (fun e => hpi q hq e.symm)).1 t he ht with h1 | h1
      · exact hnd (h.pbef q hq i h1)
      · exact hpb q hq h1
  · intro q hq d hqd
    rw [put_get hn hput, if_neg ((pair_sep hP (h.pmem q hq) hi (hpi q hq)).2 d hqd)]
    exact h.pdst q hq d hqd

end

end Go.Cm
