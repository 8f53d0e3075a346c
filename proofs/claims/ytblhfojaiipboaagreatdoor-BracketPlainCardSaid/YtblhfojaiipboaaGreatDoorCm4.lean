/-
  The evaluator of the model, and that it is sound: part 4.
-/
import Derived.Laws.BitsLemmas
import Derived.Laws.Bits64
import Derived.Lib.LaidTab
import Derived.RowKit3
import Derived.Test.YtblhfojaiipboaaGreatDoorCm3
namespace Go.Cm
open Go
variable {P : Program} {w0 : Base} {K : Known}
theorem put_get {a a' : Ca} {dst : Option Tmp} {v : Value} (hn : a.n ≤ 256) (h : a.put dst v = some a') (t : Tmp) : a'.get t = if dst = some t then v else a.get t := by
 unfold Ca.put at h
 cases dst with
 | none => simp only [Option.some.injEq] at h; subst h; simp
 | some d =>
  simp only at h
  cases hb : Nat.blt d a.n with
  | false => rw [hb] at h; cases h
  | true =>
   rw [hb] at h
   simp only [cond_true, Option.some.injEq] at h
   subst h
   have hd := nblt_tt hb
   simp only [get_eq, getT, Option.some.injEq]
   rw [PT.get_set_if _ _ _ (by omega)]
   by_cases e : t = d
   ·subst e; simp
   ·rw [if_neg e, if_neg (fun h => e h.symm)]
theorem put_n {a a' : Ca} {dst : Option Tmp} {v : Value} (h : a.put dst v = some a') : a'.n = a.n ∧ a'.defers = a.defers := by
 unfold Ca.put at h
 cases dst with
 | none => simp only [Option.some.injEq] at h; subst h; exact ⟨rfl, rfl⟩
 | some d =>
  simp only at h
  cases hb : Nat.blt d a.n with
  | false => rw [hb] at h; cases h
  | true =>
   rw [hb] at h
   simp only [cond_true, Option.some.injEq] at h
   subst h
   exact ⟨rfl, rfl⟩
theorem put_some {a a' b : Ca} {dst : Option Tmp} {v : Value} (h : a.put dst v = some a') (hn : b.n = a.n) (v' : Value) : ∃ b', b.put dst v' = some b' := by
 unfold Ca.put at h ⊢
 cases dst with
 | none => exact ⟨_, rfl⟩
 | some d =>
  simp only at h ⊢
  cases hb : Nat.blt d a.n with
  | false => rw [hb] at h; cases h
  | true => rw [hn, hb]; exact ⟨_, rfl⟩
theorem mem_guard {full : List Oper} {o oj : Oper} {j : Nat} {x : Bool} {d : Tmp} (h : o.guard = some (j, x)) (h1 : nth full j = some oj) (h2 : oj.dst = some d) : d ∈ opTmps full o := by
 unfold opTmps
 simp only [h, h1, h2, List.append_assoc]
 exact List.mem_append_left _ (by simp)
theorem mem_tmp {full : List Oper} {o : Oper} {t : Tmp} (h : .tmp t ∈ o.op.operands) : t ∈ opTmps full o := by
 unfold opTmps
 exact List.mem_append_right _ (List.mem_filterMap.2 ⟨.tmp t, by simpa using h, rfl⟩)
theorem wantedC_congr {full : List Oper} {o : Oper} {a b : Ca} (h : ∀ t ∈ opTmps full o, a.get t = b.get t) : wantedC full a o = wantedC full b o := by
 unfold wantedC
 cases hg : o.guard with
 | none => rfl
 | some q =>
  obtain ⟨j, x⟩ := q
  simp only
  cases hj : nth full j with
  | none => rfl
  | some oj =>
   simp only
   cases hd : oj.dst with
   | none => rfl
   | some d =>
    simp only
    have := h d (mem_guard hg hj hd)
    unfold Ca.get at this
    cases ha : a.t.get d with
    | none =>
     cases hb : b.t.get d with
     | none => rfl
     | some v => rw [ha, hb] at this; simp only at this; rw [← this]; rfl
    | some u =>
     cases hb : b.t.get d with
     | none => rw [ha, hb] at this; simp only at this; rw [this]; rfl
     | some v => rw [ha, hb] at this; simp only at this; rw [this]
theorem ev_congr {full : List Oper} {o : Oper} {a b : Ca} (h : ∀ t ∈ opTmps full o, a.get t = b.get t) : ∀ x, x ∈ o.op.operands → a.ev x = b.ev x := by
 intro x hx
 cases x with
 | tmp t => exact h t (mem_tmp hx)
 | const v => rfl
 | global g => rfl
 | func f => rfl
structure Pn where
 o : Oper
 i : Nat
 a : Ca
 v : Value
 b : Option Nat
inductive PnOk (P : Program) (full : List Oper) (S : St) (chk : List (Nat × Chk)) (no : Nat → Bool) (q : Pn) : Prop
 | skip (h : wantedC full q.a q.o = false) (hv : q.v = undef) (hb : q.b = none)
 | read (h : wantedC full q.a q.o = true) (hk : kindOf q.o.op = .read) (hr : readOp P q.a.ev q.o.op S = some q.v) (hc : looks q.o.op = true → (q.i, Chk.read q.a q.o.op q.v) ∈ chk) (hb : q.b = none)
 | fresh (h : wantedC full q.a q.o = true) (hk : kindOf q.o.op = .fresh) {B : Blk} {mk : Nat → Value} {b : Nat} {c : Chk} (hb : q.b = some b) (hv : q.v = mk b) (hB : S.get b = some B) (hc : (q.i, c) ∈ chk)
   (hcb : ∀ S', c.ok P S' = true → S'.get b = some B) (hno : no b = true) (hrun : NewRun P q.o q.a.ev B mk)
theorem PnOk.grow {full : List Oper} {S S' : St} {chk chk' : List (Nat × Chk)} {no no' : Nat → Bool} {q : Pn} (h : PnOk P full S chk no q) (hl : Le S S') (hc : ∀ x ∈ chk, x ∈ chk') (hn : ∀ b, no b = true → no' b = true) : PnOk P full S' chk' no' q := by
 cases h with
 | skip h hv hb => exact .skip h hv hb
 | read h hk hr hk2 hb => exact .read h hk (readOp_mono hl hr) (fun h => hc _ (hk2 h)) hb
 | fresh h hk hb hv hB hcm hcb hno hrun => exact .fresh h hk hb hv (hl _ _ hB) (hc _ hcm) hcb (hn _ hno) hrun
theorem PnOk.turn {full : List Oper} {S S' : St} {chk chk' : List (Nat × Chk)} {no : Nat → Bool} {q : Pn} (h : PnOk P full S chk no q) (hkeep : ∀ c, (q.i, c) ∈ chk → (q.i, c) ∈ chk') (hok : ∀ x ∈ chk', x.2.ok P S' = true) : PnOk P full S' chk' no q := by
 cases h with
 | skip h hv hb => exact .skip h hv hb
 | read h hk hr hk2 hb =>
  refine .read h hk ?_ (fun h => hkeep _ (hk2 h)) hb
  cases hlk : looks q.o.op with
  | false => exact readOp_calm hlk hr
  | true =>
   have := hok _ (hkeep _ (hk2 hlk))
   simp only [Chk.ok] at this
   split at this
   ·rename_i x hx
    rw [hx, sameV_eq _ _ _ this]
   ·cases this
 | fresh h hk hb hv hB hcm hcb hno hrun => exact .fresh h hk hb hv (hcb _ (hok _ (hkeep _ hcm))) (hkeep _ hcm) hcb hno hrun
theorem PnOk.no {full : List Oper} {S : St} {chk : List (Nat × Chk)} {no no' : Nat → Bool} {q : Pn} (h : PnOk P full S chk no q) (hn : ∀ b, q.b = some b → no b = true → no' b = true) : PnOk P full S chk no' q := by
 cases h with
 | skip h hv hb => exact .skip h hv hb
 | read h hk hr hk2 hb => exact .read h hk hr hk2 hb
 | fresh h hk hb hv hB hcm hcb hno hrun => exact .fresh h hk hb hv hB hcm hcb (hn _ hb hno) hrun
abbrev bef (full : List Oper) (i : Nat) : Nat := bits (befores full []) i
structure Inv (P : Program) (ih : Fns) (full : List Oper) (e : Exit) (a1 : Ca) (S1 : St) (w0 : Base) (ρ0 : Rmap) (Ls : Nat → Prop) (ar : Act) (w : World)
  (pend : List Pn) (rest : List (Oper × Nat)) (chk : List (Nat × Chk)) (a : Ca) (S : St) (A : Ca) (no : Nat → Bool) (ρ : Rmap) (done : Nat) : Prop where
 run : runPlan P ih full (befores full []) rest chk a S = some (e, a1, S1)
 plan : planOk full (befores full []) rest done = true
 mem : ∀ x ∈ rest, full[x.2]? = some x.1
 don : ∀ x, done.testBit x = true ↔ Ls x ∨ ∃ q ∈ pend, q.i = x
 cls : ∀ j, Ls j → ∀ b, (bef full j).testBit b = true → Ls b
 pmem : ∀ q ∈ pend, full[q.i]? = some q.o
 pnl : ∀ q ∈ pend, ¬ Ls q.i
 pun : ∀ q ∈ pend, ∀ q' ∈ pend, q.i = q'.i → q = q'
 pbef : ∀ q ∈ pend, ∀ b, (bef full q.i).testBit b = true → done.testBit b = true
 pok : ∀ q ∈ pend, PnOk P full S chk no q
 pput : ∀ q ∈ pend, ∃ a', q.a.put q.o.dst q.v = some a'
 pn : ∀ q ∈ pend, q.a.n = a.n
 An : A.n = a.n ∧ A.defers = a.defers
 agree : ∀ t, (∀ q ∈ pend, q.o.dst ≠ some t) → A.get t = a.get t
 pagree : ∀ q ∈ pend, ∀ t ∈ opTmps full q.o, (∀ j ∈ pend, (bef full q.i).testBit j.i = true → j.o.dst ≠ some t) → A.get t = q.a.get t
 pdst : ∀ q ∈ pend, ∀ d, q.o.dst = some d → a.get d = q.v
 ppdst : ∀ q ∈ pend, ∀ j ∈ pend, (bef full q.i).testBit j.i = true → ∀ d, j.o.dst = some d → q.a.get d = j.v
 bno : ∀ x, no x = true ↔ w0.no x = true ∨ ∃ q ∈ pend, q.b = some x
 bw : ∀ q ∈ pend, ∀ x, q.b = some x → w0.no x = false
 bun : ∀ q ∈ pend, ∀ q' ∈ pend, ∀ x, q.b = some x → q'.b = some x → q.i = q'.i
 ext : Ext ρ0 ρ
 sim : Sim P ⟨w0.toWorld, no⟩ ρ S w
 act : ActR ρ A ar
section
variable {ih : Fns} {full : List Oper} {e : Exit} {a1 : Ca} {S1 : St} {ρ0 : Rmap} {Ls : Nat → Prop} {ar : Act} {w : World}
 {pend : List Pn} {rest : List (Oper × Nat)} {chk : List (Nat × Chk)} {a : Ca} {S : St} {A : Ca} {no : Nat → Bool} {ρ : Rmap} {done : Nat}
theorem bit_or {x i j : Nat} : (x ||| 2 ^ i).testBit j = true ↔ x.testBit j = true ∨ j = i := by
 rw [Nat.testBit_or, Nat.testBit_two_pow, Bool.or_eq_true, decide_eq_true_eq]
 constructor <;> (rintro (h | h) <;> first | exact .inl h | exact .inr h.symm)
theorem Inv.push (hP : pairsOk full (befores full []) full.zipIdx = true) {o : Oper} {i : Nat} {r : List (Oper × Nat)} (h : Inv P ih full e a1 S1 w0 ρ0 Ls ar w pend ((o, i) :: r) chk a S A no ρ done)
  {v : Value} {b : Option Nat} {a' : Ca} {S' : St} {chk' : List (Nat × Chk)} {no' : Nat → Bool} (hput : a.put o.dst v = some a') (hrun : runPlan P ih full (befores full []) r chk' a' S' = some (e, a1, S1))
  (hl : Le S S') (hc : ∀ x ∈ chk, x ∈ chk') (hno : ∀ x, no' x = true ↔ no x = true ∨ b = some x) (hb : ∀ x, b = some x → no x = false) (hsim : Sim P ⟨w0.toWorld, no'⟩ ρ S' w)
  (hq : PnOk P full S' chk' no' ⟨o, i, a, v, b⟩) : Inv P ih full e a1 S1 w0 ρ0 Ls ar w (pend ++ [⟨o, i, a, v, b⟩]) r chk' a' S' A no' ρ (done ||| 2 ^ i) := by
 obtain ⟨hd, hbf, _, hpl⟩ := planOk_cons h.plan
 have hi : full[i]? = some o := h.mem (o, i) (by simp)
 have hn : a.n ≤ 256 := by rw [← h.An.1]; exact h.act.le
 have hnd : ¬ (done.testBit i = true) := by rw [hd]; simp
 have hpi : ∀ q ∈ pend, q.i ≠ i := fun q hq e => hnd ((h.don i).2 (.inr ⟨q, hq, e⟩))
 have mem' : ∀ q, q ∈ pend ++ [⟨o, i, a, v, b⟩] ↔ q ∈ pend ∨ q = ⟨o, i, a, v, b⟩ := fun q => by simp
 refine ⟨hrun, hpl, fun x hx => h.mem x (by simp [hx]), fun x => ?_, h.cls, ?_, ?_, ?_, ?_, ?_, ?_, ?_, ?_, ?_, ?_, ?_, ?_, ?_, ?_, ?_, h.ext, hsim, h.act⟩
 ·rw [bit_or, h.don]
  constructor
  ·rintro ((h1 | ⟨q, hq, h1⟩) | h1)
   ·exact .inl h1
   ·exact .inr ⟨q, (mem' q).2 (.inl hq), h1⟩
   ·exact .inr ⟨_, (mem' _).2 (.inr rfl), h1.symm⟩
  ·rintro (h1 | ⟨q, hq, h1⟩)
   ·exact .inl (.inl h1)
   ·rcases (mem' q).1 hq with hq | rfl
    ·exact .inl (.inr ⟨q, hq, h1⟩)
    ·exact .inr h1.symm
 ·intro q hq
  rcases (mem' q).1 hq with hq | rfl
  ·exact h.pmem q hq
  ·exact hi
 ·intro q hq
  rcases (mem' q).1 hq with hq | rfl
  ·exact h.pnl q hq
  ·exact fun hl => hnd ((h.don i).2 (.inl hl))
 ·intro q hq q' hq' he
  rcases (mem' q).1 hq with hq | rfl
  ·rcases (mem' q').1 hq' with hq' | rfl
   ·exact h.pun q hq q' hq' he
   ·exact absurd he (hpi q hq)
  ·rcases (mem' q').1 hq' with hq' | rfl
   ·exact absurd he.symm (hpi q' hq')
   ·rfl
 ·intro q hq x hx
  refine bit_or.2 (.inl ?_)
  rcases (mem' q).1 hq with hq | rfl
  ·exact h.pbef q hq x hx
  ·exact hbf x hx
 ·intro q hq'
  rcases (mem' q).1 hq' with hq' | rfl
  ·exact (h.pok q hq').grow hl hc (fun x hx => (hno x).2 (.inl hx))
  ·exact hq
 ·intro q hq
  rcases (mem' q).1 hq with hq | rfl
  ·exact h.pput q hq
  ·exact ⟨_, hput⟩
 ·intro q hq
  rw [(put_n hput).1]
  rcases (mem' q).1 hq with hq | rfl
  ·exact h.pn q hq
  ·rfl
 ·rw [(put_n hput).1, (put_n hput).2]; exact h.An
 ·intro t ht
  rw [put_get hn hput, if_neg (ht ⟨o, i, a, v, b⟩ ((mem' _).2 (.inr rfl)))]
  exact h.agree t fun q hq => ht q ((mem' q).2 (.inl hq))
 ·intro q hq t ht hpre
  rcases (mem' q).1 hq with hq | rfl
  ·exact h.pagree q hq t ht fun j hj => hpre j ((mem' j).2 (.inl hj))
  ·refine h.agree t fun j hj he => ?_
   rcases (pair_sep hP (h.pmem j hj) hi (hpi j hj)).1 t he ht with h1 | h1
   ·exact hpre j ((mem' j).2 (.inl hj)) h1 he
   ·exact hnd (h.pbef j hj i h1)
 ·intro q hq d hqd
  rw [put_get hn hput]
  rcases (mem' q).1 hq with hq | rfl
  ·rw [if_neg ((pair_sep hP (h.pmem q hq) hi (hpi q hq)).2 d hqd)]
   exact h.pdst q hq d hqd
  ·rw [if_pos hqd]
 ·intro q hq j hj hbit d hjd
  rcases (mem' q).1 hq with hq | rfl
  ·rcases (mem' j).1 hj with hj | rfl
   ·exact h.ppdst q hq j hj hbit d hjd
   ·exact absurd (h.pbef q hq i hbit) hnd
  ·rcases (mem' j).1 hj with hj | rfl
   ·exact h.pdst j hj d hjd
   ·exact absurd (hbf i hbit) hnd
 ·intro x
  rw [hno, h.bno]
  constructor
  ·rintro ((h1 | ⟨q, hq, h1⟩) | h1)
   ·exact .inl h1
   ·exact .inr ⟨q, (mem' q).2 (.inl hq), h1⟩
   ·exact .inr ⟨_, (mem' _).2 (.inr rfl), h1⟩
  ·rintro (h1 | ⟨q, hq, h1⟩)
   ·exact .inl (.inl h1)
   ·rcases (mem' q).1 hq with hq | rfl
    ·exact .inl (.inr ⟨q, hq, h1⟩)
    ·exact .inr h1
 ·intro q hq x hx
  rcases (mem' q).1 hq with hq | rfl
  ·exact h.bw q hq x hx
  ·have h1 := hb x hx
   cases h2 : w0.no x with
   | false => rfl
   | true => rw [(h.bno x).2 (.inl h2)] at h1; cases h1
 ·intro q hq q' hq' x hx hx'
  rcases (mem' q).1 hq with hq | rfl
  ·rcases (mem' q').1 hq' with hq' | rfl
   ·exact h.bun q hq q' hq' x hx hx'
   ·have := hb x hx'
    rw [(h.bno x).2 (.inr ⟨q, hq, hx⟩)] at this
    cases this
  ·rcases (mem' q').1 hq' with hq' | rfl
   ·have := hb x hx
    rw [(h.bno x).2 (.inr ⟨q', hq', hx'⟩)] at this
    cases this
   ·rfl
theorem le_new {S : St} (B : Blk) (h : S.get S.size = none) : Le S ⟨S.heap.set S.size (some B), S.size + 1⟩ := by
 intro b C hC
 simp only [St.get, Heap.get_set_any] at hC h ⊢
 rw [if_neg (fun e => by rw [e, h] at hC; cases hC)]
 exact hC
theorem Inv.absorb (hP : pairsOk full (befores full []) full.zipIdx = true) : ∀ (rest : List (Oper × Nat)) (pend : List Pn) (chk : List (Nat × Chk)) (a : Ca) (S : St) (no : Nat → Bool) (done : Nat),
  Inv P ih full e a1 S1 w0 ρ0 Ls ar w pend rest chk a S A no ρ done →
  ∃ pend' rest' chk' a' S' no' done', Inv P ih full e a1 S1 w0 ρ0 Ls ar w pend' rest' chk' a' S' A no' ρ done' ∧ pend'.length + rest'.length = pend.length + rest.length ∧
   (∀ o i r, rest' = (o, i) :: r → wantedC full a' o = true ∧ kindOf o.op = .heavy)
 | [], pend, chk, a, S, no, done, h => ⟨pend, [], chk, a, S, no, done, h, rfl, fun o i r he => by cases he⟩
 | (o, i) :: r, pend, chk, a, S, no, done, h => by
  have hr := h.run
  unfold runPlan at hr
  cases hw : wantedC full a o with
  | false =>
   rw [hw] at hr
   simp only [cond_false] at hr
   split at hr
   ·rename_i a' hput
    have h2 := h.push hP (v := undef) (b := none) (no' := no) hput hr (fun _ _ h => h) (fun _ h => h) (fun x => by simp) (fun x hx => by cases hx) h.sim (.skip hw rfl rfl)
    obtain ⟨p', r', c', a'', S', no', d', h3, h4, h5⟩ := Inv.absorb hP r _ _ _ _ _ _ h2
    exact ⟨p', r', c', a'', S', no', d', h3, by rw [h4]; simp; omega, h5⟩
   ·cases hr
  | true =>
   rw [hw] at hr
   simp only [cond_true] at hr
   split at hr
   ·rename_i hk
    split at hr
    ·rename_i v hv
     split at hr
     ·rename_i a' hput
      have h2 := h.push hP (v := v) (b := none) (no' := no) hput hr (fun _ _ h => h) (fun x hx => by cases looks o.op <;> simp [hx]) (fun x => by simp) (fun x hx => by cases hx) h.sim
       (.read hw hk hv (fun hlk => by simp [hlk]) rfl)
      obtain ⟨p', r', c', a'', S', no', d', h3, h4, h5⟩ := Inv.absorb hP r _ _ _ _ _ _ h2
      exact ⟨p', r', c', a'', S', no', d', h3, by rw [h4]; simp; omega, h5⟩
     ·cases hr
    ·cases hr
   ·rename_i hk
    split at hr
    ·rename_i v S' hv
     split at hr
     ·rename_i a' c hput hck hnone
      obtain ⟨B, mk, rfl, rfl, hrun⟩ := new_spec hv
      have hB : (⟨S.heap.set S.size (some B), S.size + 1⟩ : St).get S.size = some B := by
       simp only [St.get, Heap.get_set_any]
       rw [if_pos trivial]
      have hnoS : no S.size = false := by
       cases hx : no S.size with
       | false => rfl
       | true => exact absurd (h.sim.no _ hx).2 (Nat.lt_irrefl _)
      have hno' : ∀ x, (no x || x == S.size) = true ↔ no x = true ∨ some S.size = some x := by
       intro x
       rw [Bool.or_eq_true, beq_iff_eq, Option.some.injEq]
       constructor <;> (rintro (h | h) <;> first | exact .inl h | exact .inr h.symm)
      have h2 := h.push hP (v := mk S.size) (b := some S.size) (no' := fun x => no x || x == S.size) hput hr (le_new B hnone) (fun x hx => by simp [hx]) hno'
       (fun x hx => by cases hx; exact hnoS)
       (h.sim.unborn B (fun x hx => by rcases (hno' x).1 hx with h1 | h1 <;> first | exact .inl h1 | exact .inr (Option.some.inj h1).symm))
       (.fresh hw hk rfl rfl hB (List.mem_cons_self ..) (fun S'' hok => chk_get hck hB hok) ((hno' _).2 (.inr rfl)) hrun)
      obtain ⟨p', r', c', a'', S', no', d', h3, h4, h5⟩ := Inv.absorb hP r _ _ _ _ _ _ h2
      exact ⟨p', r', c', a'', S', no', d', h3, by rw [h4]; simp; omega, h5⟩
     ·cases hr
    ·cases hr
   ·rename_i hk
    exact ⟨pend, (o, i) :: r, chk, a, S, no, done, h, rfl, fun o' i' r' he => by cases he; exact ⟨hw, hk⟩⟩
theorem Inv.drop (hP : pairsOk full (befores full []) full.zipIdx = true) (h : Inv P ih full e a1 S1 w0 ρ0 Ls ar w pend rest chk a S A no ρ done) {q : Pn} (hq : q ∈ pend) (hready : ∀ b, (bef full q.i).testBit b = true → Ls b)
  {A' : Ca} {ar' : Act} {w' : World} {ρ' : Rmap} {no' : Nat → Bool} (hput : A.put q.o.dst q.v = some A') (hno : ∀ x, no' x = true ↔ no x = true ∧ q.b ≠ some x) (hx : Ext ρ ρ')
  (hs : Sim P ⟨w0.toWorld, no'⟩ ρ' S w') (hact : ActR ρ' A' ar') :
  Inv P ih full e a1 S1 w0 ρ0 (fun x => Ls x ∨ x = q.i) ar' w' (pend.filter fun x => !(x.i == q.i)) rest chk a S A' no' ρ' done := by
 have hn : A.n ≤ 256 := h.act.le
 have mem' : ∀ x, x ∈ (pend.filter fun x => !(x.i == q.i)) ↔ x ∈ pend ∧ x.i ≠ q.i := fun x => by simp [List.mem_filter]
 have hqi := h.pmem q hq
 refine ⟨h.run, h.plan, h.mem, fun x => ?_, ?_, ?_, ?_, ?_, ?_, ?_, ?_, ?_, ?_, ?_, ?_, ?_, ?_, ?_, ?_, ?_, h.ext.trans hx, hs, hact⟩
 ·rw [h.don]
  constructor
  ·rintro (h1 | ⟨p, hp, h1⟩)
   ·exact .inl (.inl h1)
   ·by_cases he : p.i = q.i
    ·exact .inl (.inr (h1 ▸ he))
    ·exact .inr ⟨p, (mem' p).2 ⟨hp, he⟩, h1⟩
  ·rintro ((h1 | h1) | ⟨p, hp, h1⟩)
   ·exact .inl h1
   ·exact .inr ⟨q, hq, h1.symm⟩
   ·exact .inr ⟨p, ((mem' p).1 hp).1, h1⟩
 ·rintro j (hj | hj) b hb
  ·exact .inl (h.cls j hj b hb)
  ·subst hj; exact .inl (hready b hb)
 ·intro p hp; exact h.pmem p ((mem' p).1 hp).1
 ·rintro p hp (h1 | h1)
  ·exact h.pnl p ((mem' p).1 hp).1 h1
  ·exact ((mem' p).1 hp).2 h1
 ·intro p hp p' hp'; exact h.pun p ((mem' p).1 hp).1 p' ((mem' p').1 hp').1
 ·intro p hp; exact h.pbef p ((mem' p).1 hp).1
 ·intro p hp
  refine (h.pok p ((mem' p).1 hp).1).no fun b hb hnb => (hno b).2 ⟨hnb, fun he => ?_⟩
  exact ((mem' p).1 hp).2 (h.bun p ((mem' p).1 hp).1 q hq b hb he)
 ·intro p hp; exact h.pput p ((mem' p).1 hp).1
 ·intro p hp; exact h.pn p ((mem' p).1 hp).1
 ·rw [(put_n hput).1, (put_n hput).2]; exact h.An
 ·intro t ht
  rw [put_get hn hput]
  by_cases he : q.o.dst = some t
  ·rw [if_pos he]; exact (h.pdst q hq t he).symm
  ·rw [if_neg he]
   refine h.agree t fun p hp hpt => ?_
   by_cases hpi : p.i = q.i
   ·have := h.pun p hp q hq hpi
    subst this
    exact he hpt
   ·exact ht p ((mem' p).2 ⟨hp, hpi⟩) hpt
 ·intro p hp t ht hpre
  have hp0 := (mem' p).1 hp
  rw [put_get hn hput]
  by_cases he : q.o.dst = some t
  ·rw [if_pos he]
   rcases (pair_sep hP hqi (h.pmem p hp0.1) (fun e => hp0.2 e.symm)).1 t he ht with h1 | h1
   ·exact (h.ppdst p hp0.1 q hq h1 t he).symm
   ·exact absurd (hready _ h1) (h.pnl p hp0.1)
  ·rw [if_neg he]
   refine h.pagree p hp0.1 t ht fun j hj hbit hjt => ?_
   by_cases hji : j.i = q.i
   ·have := h.pun j hj q hq hji
    subst this
    exact he hjt
   ·exact hpre j ((mem' j).2 ⟨hj, hji⟩) hbit hjt
 ·intro p hp; exact h.pdst p ((mem' p).1 hp).1
 ·intro p hp j hj; exact h.ppdst p ((mem' p).1 hp).1 j ((mem' j).1 hj).1
 ·intro x
  rw [hno, h.bno]
  constructor
  ·rintro ⟨h1 | ⟨p, hp, h1⟩, h2⟩
   ·exact .inl h1
   ·refine .inr ⟨p, (mem' p).2 ⟨hp, fun he => ?_⟩, h1⟩
    have := h.pun p hp q hq he
    subst this
    exact h2 h1
  ·rintro (h1 | ⟨p, hp, h1⟩)
   ·refine ⟨.inl h1, fun he => ?_⟩
    have := h.bw q hq x he
    rw [h1] at this; cases this
   ·have hp0 := (mem' p).1 hp
    exact ⟨.inr ⟨p, hp0.1, h1⟩, fun he => hp0.2 (h.bun p hp0.1 q hq x h1 he)⟩
 ·intro p hp; exact h.bw p ((mem' p).1 hp).1
 ·intro p hp p' hp'; exact h.bun p ((mem' p).1 hp).1 p' ((mem' p').1 hp').1
theorem Inv.head (hP : pairsOk full (befores full []) full.zipIdx = true) {o : Oper} {i : Nat} {r : List (Oper × Nat)} (h : Inv P ih full e a1 S1 w0 ρ0 Ls ar w pend ((o, i) :: r) chk a S A no ρ done)
  (hready : ∀ b, (bef full i).testBit b = true → Ls b) {v : Value} {a' A' : Ca} {S' : St} (hput : a.put o.dst v = some a') (hputA : A.put o.dst v = some A')
  (hrun : runPlan P ih full (befores full []) r (chk.filter fun x => !(bef full i).testBit x.1) a' S' = some (e, a1, S1)) (hok : ∀ x ∈ (chk.filter fun x => !(bef full i).testBit x.1), x.2.ok P S' = true)
  {ar' : Act} {w' : World} {ρ' : Rmap} (hx : Ext ρ ρ') (hs : Sim P ⟨w0.toWorld, no⟩ ρ' S' w') (hact : ActR ρ' A' ar') :
  Inv P ih full e a1 S1 w0 ρ0 (fun x => Ls x ∨ x = i) ar' w' pend r (chk.filter fun x => !(bef full i).testBit x.1) a' S' A' no ρ' (done ||| 2 ^ i) := by
 obtain ⟨hd, hbf, _, hpl⟩ := planOk_cons h.plan
 have hi : full[i]? = some o := h.mem (o, i) (by simp)
 have hn : a.n ≤ 256 := by rw [← h.An.1]; exact h.act.le
 have hnA : A.n ≤ 256 := h.act.le
 have hnd : ¬ (done.testBit i = true) := by rw [hd]; simp
 have hpi : ∀ q ∈ pend, q.i ≠ i := fun q hq e => hnd ((h.don i).2 (.inr ⟨q, hq, e⟩))
 have hpb : ∀ q ∈ pend, ¬ ((bef full i).testBit q.i = true) := fun q hq hb => h.pnl q hq (hready _ hb)
 refine ⟨hrun, hpl, fun x hx => h.mem x (by simp [hx]), fun x => ?_, ?_, h.pmem, ?_, h.pun, ?_, ?_, h.pput, ?_, ?_, ?_, ?_, ?_, h.ppdst, h.bno, h.bw, h.bun, h.ext.trans hx, hs, hact⟩
 ·rw [bit_or, h.don]
  constructor
  ·rintro ((h1 | h1) | h1)
   ·exact .inl (.inl h1)
   ·exact .inr h1
   ·exact .inl (.inr h1)
  ·rintro ((h1 | h1) | h1)
   ·exact .inl (.inl h1)
   ·exact .inr h1
   ·exact .inl (.inr h1)
 ·rintro j (hj | hj) b hb
  ·exact .inl (h.cls j hj b hb)
  ·subst hj; exact .inl (hready b hb)
 ·rintro q hq (h1 | h1)
  ·exact h.pnl q hq h1
  ·exact hpi q hq h1
 ·intro q hq b hb; exact bit_or.2 (.inl (h.pbef q hq b hb))
 ·intro q hq
  refine (h.pok q hq).turn (fun c hc => List.mem_filter.2 ⟨hc, ?_⟩) hok
  cases hb : (bef full i).testBit q.i with
  | false => rfl
  | true => exact absurd hb (hpb q hq)
 ·intro q hq; rw [(put_n hput).1]; exact h.pn q hq
 ·rw [(put_n hput).1, (put_n hput).2, (put_n hputA).1, (put_n hputA).2]; exact h.An
 ·intro t ht
  rw [put_get hn hput, put_get hnA hputA]
  by_cases he : o.dst = some t
  ·rw [if_pos he, if_pos he]
  ·rw [if_neg he, if_neg he]; exact h.agree t ht
 ·intro q hq t ht hpre
  rw [put_get hnA hputA, if_neg (fun he => ?_)]
  ·exact h.pagree q hq t ht hpre
  ·rcases (pair_sep hP hi (h.pmem q hq) (fun e => hpi q hq e.symm)).1 t he ht with h1 | h1
   ·exact hnd (h.pbef q hq i h1)
   ·exact hpb q hq h1
 ·intro q hq d hqd
  rw [put_get hn hput, if_neg ((pair_sep hP (h.pmem q hq) hi (hpi q hq)).2 d hqd)]
  exact h.pdst q hq d hqd
end
end Go.Cm

namespace Go.Cm
open Go
variable {P : Program} {w0 : Base} {K : Known}
section
variable {ih : Fns} {e : Exit} {a1 : Ca} {S1 : St} {ρ0 : Rmap} {Ls : Nat → Prop} {ar : Act} {w : World}
 {pend : List Pn} {rest : List (Oper × Nat)} {chk : List (Nat × Chk)} {a : Ca} {S : St} {A : Ca} {no : Nat → Bool} {ρ : Rmap} {done : Nat}
theorem agree_ready {full : List Oper} (h : Inv P ih full e a1 S1 w0 ρ0 Ls ar w pend rest chk a S A no ρ done) {q : Pn} (hq : q ∈ pend) (hready : ∀ b, (bef full q.i).testBit b = true → Ls b) :
  ∀ t ∈ opTmps full q.o, A.get t = q.a.get t := fun t ht => h.pagree q hq t ht fun j hj hb => absurd (hready _ hb) (h.pnl j hj)
theorem step_read {f : Operand → Value} {op : Op} {S : St} {v : Value} (hk : kindOf op = .read) (h : readOp P f op S = some v) : stepOp P ih f op S = some (.val v, S) := by
 unfold stepOp
 rw [hk]
 simp [h]
theorem hno_none {q : Pn} (hb : q.b = none) : ∀ x, no x = true ↔ no x = true ∧ q.b ≠ some x := fun x => by simp [hb]
theorem pend_step {ops : Array Oper} (hih : ∀ no, FnsSound P ⟨w0.toWorld, no⟩ ih) (hP : pairsOk ops.toList (befores ops.toList []) ops.toList.zipIdx = true) (hC : constsOk P ops.toList = true)
  (h : Inv P ih ops.toList e a1 S1 w0 ρ0 Ls ar w pend rest chk a S A no ρ done) {q : Pn} (hq : q ∈ pend) (hready : ∀ b, (bef ops.toList q.i).testBit b = true → Ls b) {ro : Option Nat}
  {Kn : Act → World → Prop} {Q : Exit → Act → World → Prop}
  (hK : ∀ ar' w' A' no' ρ', Inv P ih ops.toList e a1 S1 w0 ρ0 (fun x => Ls x ∨ x = q.i) ar' w' (pend.filter fun x => !(x.i == q.i)) rest chk a S A' no' ρ' done → Kn ar' w') :
  if Region.wanted q.o (yielded ops ar.tmps) then q.o.wpIn (FW ro) 0 P ar w Kn Q else (∀ f, q.o.about P w ar.eval = some f → (FW ro).fn f) ∧ Kn (ar.put q.o.dst undef) w := by
 have hag := agree_ready h hq hready
 rw [← wanted_sound h.act (o := q.o), wantedC_congr hag]
 have hqi := h.pmem q hq
 have hoc : OpC P q.o := constsOk_spec hC q.o (List.mem_of_getElem? hqi)
 have hev : ∀ x, x ∈ q.o.op.operands → VR ρ (q.a.ev x) (ar.eval x) := fun x hx => by
  rw [← ev_congr hag x hx]; exact h.act.evs h.sim hoc x hx
 obtain ⟨a', hput⟩ := h.pput q hq
 obtain ⟨A', hputA⟩ := put_some hput (b := A) (by rw [h.An.1, h.pn q hq]) q.v
 cases h.pok q hq with
 | skip hw hv hb =>
  rw [hw]
  simp only [Bool.false_eq_true, if_false]
  refine ⟨about_wide, hK _ _ A' no ρ (h.drop hP hq hready hputA (hno_none hb) (Ext.refl _) h.sim (h.act.put hputA ?_))⟩
  rw [hv]; exact VR.undef _
 | read hw hk hr hc hb =>
  rw [hw]
  simp only [if_true]
  refine ⟨about_wide, step_sound (hih _) h.sim hev (step_read (ih := ih) hk hr) ⟨?_, ?_⟩⟩
  ·intro v hv ρ' v' w' h1 h2 h3
   cases hv
   exact hK _ _ A' no ρ' (h.drop hP hq hready hputA (hno_none hb) h1 h3 ((h.act.mono h1).put hputA h2))
  ·intro c hc; cases hc
 | fresh hw hk hb hv hB hc hcb hno hrun =>
  rename_i B mk b c
  rw [hw]
  simp only [if_true]
  refine ⟨about_wide, ?_⟩
  have hd : ∀ c, q.o.op ≠ .defer c := fun c hc => by rw [hc] at hk; simp [kindOf] at hk
  rw [Oper.semAt_eq _ _ _ hd]
  obtain ⟨ob, L, v', h1, h2, h3, h4⟩ := hrun ρ ar.eval w hev
  rw [h1]
  show Kn (ar.put q.o.dst v') (w.alloc ob)
  have hno' : ∀ x, (no x && !(x == b)) = true ↔ no x = true ∧ q.b ≠ some x := by
   intro x
   rw [hb]
   simp only [Bool.and_eq_true, Bool.not_eq_true', beq_eq_false_iff_ne, ne_eq, Option.some.injEq]
   constructor <;> (rintro ⟨h1, h2⟩; exact ⟨h1, fun h => h2 h.symm⟩)
  obtain ⟨k1, k2⟩ := h.sim.born (no' := fun x => no x && !(x == b)) hno hB (fun x hx => ⟨((hno' x).1 hx).1, fun he => ((hno' x).1 hx).2 (by rw [hb, he])⟩) h2 h3
  refine hK _ _ A' _ _ (h.drop hP hq hready hputA hno' k1 k2 ((h.act.mono k1).put hputA ?_))
  rw [hv]
  exact h4 _ _ (upd_same _ _ _)
theorem head_step {ops : Array Oper} (hih : ∀ no, FnsSound P ⟨w0.toWorld, no⟩ ih) (hP : pairsOk ops.toList (befores ops.toList []) ops.toList.zipIdx = true) (hC : constsOk P ops.toList = true)
  {o : Oper} {i : Nat} {r : List (Oper × Nat)} (h : Inv P ih ops.toList e a1 S1 w0 ρ0 Ls ar w pend ((o, i) :: r) chk a S A no ρ done) (hready : ∀ b, (bef ops.toList i).testBit b = true → Ls b) {ro : Option Nat}
  (hw : wantedC ops.toList a o = true) (hk : kindOf o.op = .heavy) {Kn : Act → World → Prop} {Q : Exit → Act → World → Prop}
  (hK : ∀ ar' w' chk' a' S' A' ρ' done', Inv P ih ops.toList e a1 S1 w0 ρ0 (fun x => Ls x ∨ x = i) ar' w' pend r chk' a' S' A' no ρ' done' → Kn ar' w') :
  if Region.wanted o (yielded ops ar.tmps) then o.wpIn (FW ro) 0 P ar w Kn Q else (∀ f, o.about P w ar.eval = some f → (FW ro).fn f) ∧ Kn (ar.put o.dst undef) w := by
 obtain ⟨hd, hbf, _, hpl⟩ := planOk_cons h.plan
 have hi : ops.toList[i]? = some o := h.mem (o, i) (by simp)
 have hnd : ¬ (done.testBit i = true) := by rw [hd]; simp
 have hag : ∀ t ∈ opTmps ops.toList o, A.get t = a.get t := by
  refine fun t ht => h.agree t fun q hq he => ?_
  have hpi : q.i ≠ i := fun e => hnd ((h.don i).2 (.inr ⟨q, hq, e⟩))
  rcases (pair_sep hP (h.pmem q hq) hi hpi).1 t he ht with h1 | h1
  ·exact h.pnl q hq (hready _ h1)
  ·exact hnd (h.pbef q hq i h1)
 have hoc : OpC P o := constsOk_spec hC o (List.mem_of_getElem? hi)
 have hev : ∀ x, x ∈ o.op.operands → VR ρ (a.ev x) (ar.eval x) := fun x hx => by
  rw [← ev_congr hag x hx]; exact h.act.evs h.sim hoc x hx
 rw [← wanted_sound h.act (o := o), wantedC_congr hag, hw]
 simp only [if_true]
 have hr := h.run
 unfold runPlan at hr
 rw [hw, hk] at hr
 simp only [cond_true] at hr
 split at hr
 ·rename_i v S' hst
  split at hr
  ·rename_i a' hput
   obtain ⟨A', hputA⟩ := put_some hput (b := A) h.An.1 v
   cases hall : (chk.filter fun x => !((nth (befores ops.toList []) i).getD 0).testBit x.1).all (fun x => x.2.ok P S') with
   | false => rw [hall] at hr; cases hr
   | true =>
    rw [hall] at hr
    simp only [cond_true] at hr
    rw [List.all_eq_true] at hall
    refine ⟨about_wide, step_sound (hih _) h.sim hev hst ⟨?_, ?_⟩⟩
    ·intro v2 hv ρ' v' w' h1 h2 h3
     cases hv
     exact hK _ _ _ a' S' A' ρ' _ (h.head hP hready hput hputA hr hall h1 h3 ((h.act.mono h1).put hputA h2))
    ·intro c hc; cases hc
  ·cases hr
 ·cases hr
end
theorem ready_iff {ops : Array Oper} {listed : Array Bool} {i : Nat} : i ∈ Region.ready .any ops listed ↔ i < ops.size ∧ listed.getD i true = false ∧ ∃ o, ops.toList[i]? = some o ∧ ∀ e ∈ o.after.toList, Region.binds .any e = true → listed.getD e.on false = true := by
 unfold Region.ready
 simp only [List.mem_filter, List.mem_range, Bool.and_eq_true, Bool.not_eq_true']
 refine and_congr_right fun hi => and_congr_right fun _ => ?_
 have hg : ops[i]? = some ops[i] := Array.getElem?_eq_getElem hi
 rw [Array.getElem?_toList, hg]
 simp only [Option.map_some, Option.getD_some, Option.some.injEq, exists_eq_left']
 rw [← Array.all_toList, List.all_eq_true]
 refine forall_congr' fun e => forall_congr' fun _ => ?_
 cases Region.binds .any e <;> simp
theorem getD_lt {l : Array Bool} {i : Nat} (h : i < l.size) (b c : Bool) : l.getD i b = l.getD i c := by
 rw [Array.getD_eq_getD_getElem?, Array.getD_eq_getD_getElem?, Array.getElem?_eq_getElem h]; rfl
theorem done_sound {ih : Fns} {ops : Array Oper} (hP : pairsOk ops.toList (befores ops.toList []) ops.toList.zipIdx = true)
  {e : Exit} {a1 : Ca} {S1 : St} {ρ0 : Rmap} {Q : Exit → Act → World → Prop} (hQ : ∀ e' ar' w', ExitGood P w0 ρ0 e a1 S1 e' ar' w' → Q e' ar' w') {Ls : Nat → Prop}
  {ar : Act} {w : World} {pend : List Pn} {rest : List (Oper × Nat)} {chk : List (Nat × Chk)} {a : Ca} {S : St} {A : Ca} {no : Nat → Bool} {ρ : Rmap} {done : Nat}
  (h : Inv P ih ops.toList e a1 S1 w0 ρ0 Ls ar w pend rest chk a S A no ρ done) (hall : ∀ i, i < ops.size → Ls i) : Q .normal ar w := by
 obtain ⟨pend, rest, chk, a, S, no, done, h, hlen, hhead⟩ := h.absorb hP
 have hp : pend = [] := by
  refine List.eq_nil_iff_forall_not_mem.2 fun q hq => h.pnl q hq (hall q.i ?_)
  have := (List.getElem?_eq_some_iff.1 (h.pmem q hq)).1
  simpa using this
 have hr : rest = [] := by
  cases rest with
  | nil => rfl
  | cons x r =>
   obtain ⟨o, i⟩ := x
   have hi := (List.getElem?_eq_some_iff.1 (h.mem (o, i) (by simp))).1
   have := (planOk_cons h.plan).1
   rw [(h.don i).2 (.inl (hall i (by simpa using hi)))] at this
   cases this
 subst hp hr
 have hrun := h.run
 simp only [runPlan, Option.some.injEq, Prod.mk.injEq] at hrun
 obtain ⟨rfl, rfl, rfl⟩ := hrun
 refine hQ _ _ _ ⟨ρ, h.ext, .normal, ⟨by rw [← h.An.1]; exact h.act.le, ⟨by rw [← h.An.1]; exact h.act.tm.1, fun t => ?_⟩, by rw [← h.An.2]; exact h.act.df⟩, ?_⟩
 ·have := h.act.tm.2 t
  rw [← get_eq, h.agree t (fun q hq => by cases hq)] at this
  exact this
 ·have e1 : no = w0.no := by
   funext x
   have := h.bno x
   simp only [List.not_mem_nil, false_and, exists_false, or_false] at this
   cases h1 : no x <;> cases h2 : w0.no x <;> simp_all
  have := h.sim
  rw [e1] at this
  exact this
def unl (n : Nat) (listed : Array Bool) : Nat := ((List.range n).filter fun x => !(listed.getD x false)).length
theorem unl_lt {n : Nat} {listed : Array Bool} {i : Nat} (hi : i < n) (hs : listed.size = n) (hl : listed.getD i false = false) : unl n (listed.setIfInBounds i true) < unl n listed := by
 unfold unl
 have hset : ∀ x, (listed.setIfInBounds i true).getD x false = (listed.getD x false || x == i) := by
  intro x
  rw [Array.getD_eq_getD_getElem?, Array.getElem?_setIfInBounds]
  by_cases e : i = x
  ·subst e; simp [hs, hi]
  ·rw [if_neg e, ← Array.getD_eq_getD_getElem?]
   have : (x == i) = false := by simpa using fun h : x = i => e h.symm
   rw [this, Bool.or_false]
 have e1 : ((List.range n).filter fun x => !((listed.setIfInBounds i true).getD x false)) = (((List.range n).filter fun x => !(listed.getD x false)).filter fun x => !(x == i)) := by
  rw [List.filter_filter]
  refine List.filter_congr fun x _ => ?_
  rw [hset, Bool.not_or, Bool.and_comm]
 rw [e1]
 exact List.length_filter_lt_length_iff_exists.2 ⟨i, List.mem_filter.2 ⟨List.mem_range.2 hi, by rw [hl]; rfl⟩, by simp⟩
theorem any_sound {ih : Fns} {ops : Array Oper} (hih : ∀ no, FnsSound P ⟨w0.toWorld, no⟩ ih) (hE : edgesOk ops.toList.zipIdx = true) (hP : pairsOk ops.toList (befores ops.toList []) ops.toList.zipIdx = true) (hC : constsOk P ops.toList = true)
  {e : Exit} {a1 : Ca} {S1 : St} {ρ0 : Rmap} {ro : Option Nat} {Q : Exit → Act → World → Prop} (hQ : ∀ e' ar' w', ExitGood P w0 ρ0 e a1 S1 e' ar' w' → Q e' ar' w') :
  ∀ (fuel : Nat) (listed : Array Bool) (ar : Act) (w : World) (pend : List Pn) (rest : List (Oper × Nat)) (chk : List (Nat × Chk)) (a : Ca) (S : St) (A : Ca) (no : Nat → Bool) (ρ : Rmap) (done : Nat),
   Inv P ih ops.toList e a1 S1 w0 ρ0 (fun x => listed.getD x false = true) ar w pend rest chk a S A no ρ done → listed.size = ops.size → unl ops.size listed ≤ fuel →
   wpAnyIn (FW ro) 0 P .any ops Q fuel listed ar w := by
 intro fuel
 induction fuel with
 | zero =>
  intro listed ar w pend rest chk a S A no ρ done h hsz hle
  have hall : ∀ i, i < ops.size → listed.getD i false = true := by
   intro i hi
   cases hl : listed.getD i false with
   | true => rfl
   | false =>
    have := unl_lt hi hsz hl
    omega
  refine ⟨List.eq_nil_iff_forall_not_mem.2 fun i hi => ?_, done_sound hP hQ h hall⟩
  obtain ⟨h1, h2, _⟩ := ready_iff.1 hi
  rw [getD_lt (by omega) true false, hall i h1] at h2
  cases h2
 | succ fuel ihf =>
  intro listed ar w pend rest chk a S A no ρ done h hsz hle
  obtain ⟨pend, rest, chk, a, S, no, done, h, hlen, hhead⟩ := h.absorb hP
  refine ⟨fun hnil => ?_, fun i hi => ?_⟩
  ·have hall : ∀ i, i < ops.size → listed.getD i false = true := by
    intro i
    induction i using Nat.strongRecOn with
    | ind i ihi =>
     intro hi
     cases hl : listed.getD i false with
     | true => rfl
     | false =>
      have : i ∈ Region.ready .any ops listed := by
       refine ready_iff.2 ⟨hi, by rw [getD_lt (by omega) true false]; exact hl, ops[i], by rw [Array.getElem?_toList]; exact Array.getElem?_eq_getElem hi, fun e he hb => ?_⟩
       have hlt := edges_lt hE (by rw [Array.getElem?_toList]; exact Array.getElem?_eq_getElem hi) e he hb
       exact ihi e.on hlt (by omega)
      rw [hnil] at this
      cases this
   exact done_sound hP hQ h hall
  ·obtain ⟨hi1, hi2, o, ho, hed⟩ := ready_iff.1 hi
   have hready : ∀ b, (bef ops.toList i).testBit b = true → listed.getD b false = true := by
    intro b hb
    obtain ⟨e, he, hbn, hx⟩ := (bits_spec hE ho b).1 hb
    have h1 := hed e he hbn
    rcases hx with rfl | hx
    ·exact h1
    ·exact h.cls _ h1 b hx
   have hset : ∀ x, (listed.setIfInBounds i true).getD x false = true ↔ listed.getD x false = true ∨ x = i := by
    intro x
    rw [Array.getD_eq_getD_getElem?, Array.getElem?_setIfInBounds]
    by_cases e : i = x
    ·subst e; simp [hsz, hi1]
    ·rw [if_neg e, ← Array.getD_eq_getD_getElem?]
     constructor
     ·exact .inl
     ·rintro (h | h)
      ·exact h
      ·exact absurd h.symm e
   have hLs : (fun x => (listed.setIfInBounds i true).getD x false = true) = fun x => listed.getD x false = true ∨ x = i := funext fun x => propext (hset x)
   have ho' : ops[i]? = some o := by rw [← Array.getElem?_toList]; exact ho
   unfold wpOpIn
   rw [ho']
   simp only
   have hnl : ¬ (listed.getD i false = true) := by rw [← getD_lt (by omega) true false, hi2]; simp
   rcases planOk_all _ _ h.plan i (by simpa using hi1) with h3 | ⟨o', h3⟩
   ·rcases (h.don i).1 h3 with h4 | ⟨q, hq, rfl⟩
    ·exact absurd h4 hnl
    ·have e1 : o = q.o := by
      have := h.pmem q hq
      rw [ho] at this
      exact Option.some.inj this
     subst e1
     refine pend_step hih hP hC h hq hready fun ar' w' A' no' ρ' h' => ?_
     rw [← hLs] at h'
     refine ihf _ _ _ _ _ _ _ _ _ _ _ _ h' (by simp [hsz]) ?_
     have := unl_lt hi1 hsz (by rw [← getD_lt (by omega) true false]; exact hi2)
     omega
   ·cases rest with
    | nil => cases h3
    | cons x r =>
     obtain ⟨p, k⟩ := x
     obtain ⟨hw, hk⟩ := hhead p k r rfl
     obtain ⟨hd, hbf, hhv, hpl⟩ := planOk_cons h.plan
     rcases List.mem_cons.1 h3 with h4 | h4
     ·cases h4
      have e1 : o = o' := by
       have := h.mem (o', i) (by simp)
       simp only at this
       rw [ho] at this
       exact Option.some.inj this
      subst e1
      refine head_step hih hP hC h hready hw hk fun ar' w' chk' a' S' A' ρ' done' h' => ?_
      rw [← hLs] at h'
      refine ihf _ _ _ _ _ _ _ _ _ _ _ _ h' (by simp [hsz]) ?_
      have := unl_lt hi1 hsz (by rw [← getD_lt (by omega) true false]; exact hi2)
      omega
     ·have h5 := hready k (hhv hk _ h4)
      have : done.testBit k = true := (h.don k).2 (.inl h5)
      rw [hd] at this
      cases this
theorem draw_sound {ih : Fns} (hm : P.follows .mixedOrders = true) (hih : ∀ no, FnsSound P ⟨w0.toWorld, no⟩ ih) : DrawSound P w0 ih := by
 intro id ops a S e a1 S1 h hC ro ρ w ar hs ha
 unfold runDraw at h
 split at h
 ·rename_i bf pl hpl
  unfold planW at hpl
  cases hg : (regionOk ops.toList && planOk ops.toList (befores ops.toList []) (planOf ops.toList) 0) with
  | false => simp only [hg, cond_false] at hpl; cases hpl
  | true =>
   simp only [hg, cond_true, Option.some.injEq, Prod.mk.injEq] at hpl
   obtain ⟨rfl, rfl⟩ := hpl
   simp only [Bool.and_eq_true] at hg
   obtain ⟨hreg, hplan⟩ := hg
   simp only [regionOk, Bool.and_eq_true] at hreg
   obtain ⟨⟨hE, hP⟩, _⟩ := hreg
   refine wpIn_region_any hm ?_
   have hlist : ∀ x, ¬ ((Array.replicate ops.size false).getD x false = true) := by
    intro x
    rw [Array.getD_eq_getD_getElem?, Array.getElem?_replicate]
    split <;> simp
   refine any_sound hih hE hP hC (fun _ _ _ h => h) ops.size _ ar _ [] (planOf ops.toList) [] a S a w0.no ρ 0 ?_ (by simp) (by unfold unl; refine Nat.le_trans (List.length_filter_le ..) (by simp))
   refine ⟨h, hplan, planOf_mem, fun x => by simp [hlist], fun j hj => absurd hj (hlist j), fun q hq => (by cases hq), fun q hq => (by cases hq), fun q hq => (by cases hq), fun q hq => (by cases hq), fun q hq => (by cases hq),
    fun q hq => (by cases hq), fun q hq => (by cases hq), ⟨rfl, rfl⟩, fun _ _ => rfl, fun q hq => (by cases hq), fun q hq => (by cases hq), fun q hq => (by cases hq), fun x => by simp, fun q hq => (by cases hq), fun q hq => (by cases hq),
    Ext.refl _, hs.same rfl rfl rfl, ha⟩
 ·cases h
theorem fns_sound {W : World} (hm : P.follows .mixedOrders = true) (hK : KnownSound P K W) : ∀ (n m : Nat), m ≤ n → ∀ no, FnsSound P ⟨W, no⟩ (fns P K m) := by
 intro n
 induction n with
 | zero =>
  intro m hle no
  have : m = 0 := by omega
  subst this
  exact ⟨(fun t args S e S' h => by cases h), (fun ro c a S e a' S' h => by cases h)⟩
 | succ n ihn =>
  intro m hle no
  rcases Nat.lt_or_ge m (n + 1) with h1 | h1
  ·exact ihn m (by omega) no
  ·have : m = n + 1 := by omega
   subst this
   exact ⟨callF_sound (ihn n (Nat.le_refl _) no) hK, exec_sound (fun m hm => ihn m hm no) (draw_sound hm (ihn n (Nat.le_refl _))) (range_sound (ihn n (Nat.le_refl _) no))⟩
end Go.Cm

namespace Go.Cm
structure GW (α : Type) (d : Nat) where
 f : PT α d → Option α
def idG {α : Type} (t : PT α 0) : Option α := t
def getL {α : Type} {d : Nat} (g : PT α d → Option α) (t : PT α (d + 1)) : Option α := g t.1
def getR {α : Type} {d : Nat} (g : PT α d → Option α) (t : PT α (d + 1)) : Option α := g t.2
def consL {α : Type} {d : Nat} (w : GW α d) : GW α (d + 1) := match w with
 | ⟨g⟩ => ⟨getL g⟩
def consR {α : Type} {d : Nat} (w : GW α d) : GW α (d + 1) := match w with
 | ⟨g⟩ => ⟨getR g⟩
noncomputable def getW {α : Type} (d : Nat) : Nat → GW α d :=
 Nat.rec (motive := fun d => Nat → GW α d) (fun _ => ⟨idG⟩) (fun _ ih k => Bool.rec (motive := fun _ => GW α _) (consR (ih (Nat.div k 2))) (consL (ih (Nat.div k 2))) (Nat.beq (Nat.mod k 2) 0)) d
noncomputable def getK {α : Type} (d k : Nat) : GW α d := Bool.rec (motive := fun _ => GW α d) ⟨fun _ => none⟩ (getW d k) (Nat.blt k (2 ^ d))
structure SW (α : Type) (d : Nat) where
 f : Option α → PT α d → PT α d
def idS {α : Type} (v : Option α) (_ : PT α 0) : PT α 0 := v
noncomputable def setL {α : Type} {d : Nat} (g : Option α → PT α d → PT α d) (v : Option α) (t : PT α (d + 1)) : PT α (d + 1) := Prod.rec (motive := fun _ => PT α d × PT α d) (fun l r => (g v l, r)) t
noncomputable def setR {α : Type} {d : Nat} (g : Option α → PT α d → PT α d) (v : Option α) (t : PT α (d + 1)) : PT α (d + 1) := Prod.rec (motive := fun _ => PT α d × PT α d) (fun l r => (l, g v r)) t
noncomputable def sconsL {α : Type} {d : Nat} (w : SW α d) : SW α (d + 1) := match w with
 | ⟨g⟩ => ⟨setL g⟩
noncomputable def sconsR {α : Type} {d : Nat} (w : SW α d) : SW α (d + 1) := match w with
 | ⟨g⟩ => ⟨setR g⟩
noncomputable def setW {α : Type} (d : Nat) : Nat → SW α d :=
 Nat.rec (motive := fun d => Nat → SW α d) (fun _ => ⟨idS⟩) (fun _ ih k => Bool.rec (motive := fun _ => SW α _) (sconsR (ih (k / 2))) (sconsL (ih (k / 2))) (Nat.beq (k % 2) 0)) d
noncomputable def setK {α : Type} (d k : Nat) : SW α d := Bool.rec (motive := fun _ => SW α d) ⟨fun _ t => t⟩ (setW d k) (Nat.blt k (2 ^ d))
abbrev Hp := Heap
def appS {α : Type} {d : Nat} (w : SW α d) (v : Option α) (t : PT α d) : PT α d := match w with
 | ⟨g⟩ => g v t
noncomputable def atG {α : Type} (d : Nat) : PT α d → Nat → Option α :=
 Nat.rec (motive := fun d => PT α d → Nat → Option α) (fun t _ => t) (fun _ ih t k => Bool.rec (motive := fun _ => Option α) (ih t.2 (Nat.div k 2)) (ih t.1 (Nat.div k 2)) (Nat.beq (Nat.mod k 2) 0)) d
noncomputable def updG {α : Type} (v : Option α) (d : Nat) : PT α d → Nat → PT α d :=
 Nat.rec (motive := fun d => PT α d → Nat → PT α d) (fun _ _ => v)
  (fun d ih t k => Prod.rec (motive := fun _ => PT α d × PT α d) (fun l r => Bool.rec (motive := fun _ => PT α d × PT α d) (l, ih r (Nat.div k 2)) (ih l (Nat.div k 2), r) (Nat.beq (Nat.mod k 2) 0)) t) d
noncomputable def hgetH (h : Hp) (b : Nat) : Option Blk := Heap.rec (motive := fun _ => Option Blk) (fun t more => Bool.rec (motive := fun _ => Option Blk) (more b) (atG 18 t b) (Nat.blt b 262144)) h
noncomputable def hget (S : St) (b : Nat) : Option Blk := hgetH S.heap b
noncomputable def hset (h : Hp) (b : Nat) (x : Option Blk) : Hp := Heap.rec (motive := fun _ => Hp) (fun t more => Bool.rec (motive := fun _ => Hp) ⟨t, fun j => bif Nat.beq j b then x else more j⟩ ⟨updG x 18 t b, more⟩ (Nat.blt b 262144)) h
abbrev Res3 := Option (Exit × Ca × St)
abbrev OkK := Value → St → Res3
abbrev PanK := List PanicEntry → St → Res3
abbrev OpK := Fns → Tm → St → OkK → PanK → Res3
def useR (r : Option (OpR × St)) (ok : OkK) (pan : PanK) : Res3 := match r with
 | some (.val v, S') => ok v S'
 | some (.pan ch, S') => pan ch S'
 | none => none
noncomputable def asBoolF (v : Value) : Option Bool := @Value.rec (fun _ => Option Bool) (fun _ => PUnit) (fun _ => PUnit) some (fun _ _ => none) (fun _ _ => none) (fun _ _ _ => none) (fun _ => none) (fun _ => none) (fun _ _ _ => none) (fun _ => none) (fun _ => none)
 (fun _ _ _ _ _ => none) none (fun _ _ _ => none) none (fun _ _ => none) (fun _ _ => none) (fun _ _ => ⟨⟩) ⟨⟩ (fun _ _ _ _ => ⟨⟩) v
noncomputable def asIntF (v : Value) : Option (IntKind × Int) := @Value.rec (fun _ => Option (IntKind × Int)) (fun _ => PUnit) (fun _ => PUnit) (fun _ => none) (fun k n => some (k, n)) (fun _ _ => none) (fun _ _ _ => none) (fun _ => none) (fun _ => none) (fun _ _ _ => none) (fun _ => none) (fun _ => none)
 (fun _ _ _ _ _ => none) none (fun _ _ _ => none) none (fun _ _ => none) (fun _ _ => none) (fun _ _ => ⟨⟩) ⟨⟩ (fun _ _ _ _ => ⟨⟩) v
def addrOf (a : Option Addr) : Option (Nat × Nat) := match a with
 | some ⟨b, o, none⟩ => some (b, o)
 | _ => none
noncomputable def asPtrF (v : Value) : Option (Nat × Nat) := @Value.rec (fun _ => Option (Nat × Nat)) (fun _ => PUnit) (fun _ => PUnit) (fun _ => none) (fun _ _ => none) (fun _ _ => none) (fun _ _ _ => none) (fun _ => none) addrOf (fun _ _ _ => none) (fun _ => none) (fun _ => none)
 (fun _ _ _ _ _ => none) none (fun _ _ _ => none) none (fun _ _ => none) (fun _ _ => none) (fun _ _ => ⟨⟩) ⟨⟩ (fun _ _ _ _ => ⟨⟩) v
def sliceOf (a : Option Addr) (len : Nat) (_ : Nat) : Option (Nat × Nat × Nat) := match a with
 | some ⟨b, o, none⟩ => some (b, o, len)
 | _ => none
noncomputable def asSliceF (v : Value) : Option (Nat × Nat × Nat) := @Value.rec (fun _ => Option (Nat × Nat × Nat)) (fun _ => PUnit) (fun _ => PUnit) (fun _ => none) (fun _ _ => none) (fun _ _ => none) (fun _ _ _ => none) (fun _ => none) (fun _ => none) sliceOf (fun _ => none) (fun _ => none)
 (fun _ _ _ _ _ => none) none (fun _ _ _ => none) none (fun _ _ => none) (fun _ _ => none) (fun _ _ => ⟨⟩) ⟨⟩ (fun _ _ _ _ => ⟨⟩) v
noncomputable def asTupF (v : Value) : Option (List Value) := @Value.rec (fun _ => Option (List Value)) (fun _ => PUnit) (fun _ => PUnit) (fun _ => none) (fun _ _ => none) (fun _ _ => none) (fun _ _ _ => none) (fun _ => none) (fun _ => none) (fun _ _ _ => none) (fun _ => none) (fun _ => none)
 (fun _ _ _ _ _ => none) none (fun _ _ _ => none) none (fun _ _ => none) (fun vs _ => some vs.toList) (fun _ _ => ⟨⟩) ⟨⟩ (fun _ _ _ _ => ⟨⟩) v
noncomputable def cellsF (v : Value) : List Value := @Value.rec (fun _ => List Value) (fun _ => PUnit) (fun _ => PUnit) (fun _ => [v]) (fun _ _ => [v]) (fun _ _ => [v]) (fun _ _ _ => [v]) (fun _ => [v]) (fun _ => [v]) (fun _ _ _ => [v]) (fun _ => [v]) (fun _ => [v])
 (fun _ _ _ _ _ => [v]) [v] (fun _ _ _ => [v]) [v] (fun cs _ => cs.toList) (fun _ _ => [v]) (fun _ _ => ⟨⟩) ⟨⟩ (fun _ _ _ _ => ⟨⟩) v
noncomputable def withO {α : Type} (o : Option α) (k : α → Res3) : Res3 := Option.rec (motive := fun _ => Res3) none k o
noncomputable def with2 {α β : Type} (o : Option (α × β)) (k : α → β → Res3) : Res3 := Option.rec (motive := fun _ => Res3) none (fun p => k p.1 p.2) o
noncomputable def with3 {α β γ : Type} (o : Option (α × β × γ)) (k : α → β → γ → Res3) : Res3 := Option.rec (motive := fun _ => Res3) none (fun p => k p.1 p.2.1 p.2.2) o
def cellsOfB (b : Option Blk) : Option (List Value) := match b with
 | some (.cells c _ _ _ _) => some c
 | _ => none
structure EvW where
 get : Tm → Value
noncomputable def unO (o : Option Value) : Value := Option.rec (motive := fun _ => Value) undef (fun v => v) o
noncomputable def tmpV (g : Tm → Option Value) (t : Tm) : Value := unO (g t)
def constV (v : Value) (_ : Tm) : Value := v
noncomputable def tmpW (w : GW Value 8) : EvW := match w with
 | ⟨g⟩ => ⟨tmpV g⟩
noncomputable def evW : Operand → EvW
 | .tmp t => tmpW (getK 8 t)
 | .const v => ⟨constV v⟩
 | .global g => ⟨constV (.pointer (some ⟨g, 0, none⟩))⟩
 | .func f => ⟨constV (.func (.func f) #[] #[])⟩
def evT (t : Tm) (x : Operand) : Value := match x with
 | .tmp i => match t.get i with
  | some v => v
  | none => undef
 | .const v => v
 | .global g => .pointer (some ⟨g, 0, none⟩)
 | .func f => .func (.func f) #[] #[]
structure OpW where
 run : OpK
noncomputable def moveF (g : Tm → Value) (_ : Fns) (t : Tm) (S : St) (ok : OkK) (_ : PanK) : Res3 := ok (g t) S
noncomputable def movePF (g : Tm → Option Value) (_ : Fns) (t : Tm) (S : St) (ok : OkK) (_ : PanK) : Res3 := Option.rec (motive := fun _ => Res3) (ok undef S) (fun v => ok v S) (g t)
noncomputable def movePW (w : GW Value 8) : OpW := match w with
 | ⟨g⟩ => ⟨movePF g⟩
noncomputable def moveEW (w : EvW) : OpW := match w with
 | ⟨g⟩ => ⟨moveF g⟩
noncomputable def moveW : Operand → OpW
 | .tmp t => movePW (getK 8 t)
 | x => moveEW (evW x)
def noOp (_ : Fns) (_ : Tm) (_ : St) (_ : OkK) (_ : PanK) : Res3 := none
variable (P : Program)
def slowF (op : Op) (ih : Fns) (t : Tm) (S : St) (ok : OkK) (pan : PanK) : Res3 := useR (stepOp P ih (evT t) op S) ok pan
noncomputable def loadAggK (n b o : Nat) (S : St) (ok : OkK) : Res3 := withO (cellsOfB (hget S b)) fun c => withO (takeN n (dropN o c)) fun l => ok (aggL l) S
noncomputable def loadAgg (n : Nat) (g : Tm → Value) (_ : Fns) (t : Tm) (S : St) (ok : OkK) (_ : PanK) : Res3 := with2 (asPtrF (g t)) fun b o => loadAggK n b o S ok
noncomputable def loadOneK (b o : Nat) (S : St) (ok : OkK) : Res3 := withO (cellsOfB (hget S b)) fun c => withO (nth c o) fun v => ok v S
noncomputable def loadOne (g : Tm → Value) (_ : Fns) (t : Tm) (S : St) (ok : OkK) (_ : PanK) : Res3 := with2 (asPtrF (g t)) fun b o => loadOneK b o S ok
noncomputable def loadW1 (a : Option Bool) (n : Option Nat) (e : EvW) : OpW := match a, n, e with
 | some true, some n, ⟨g⟩ => ⟨loadAgg n g⟩
 | some false, _, ⟨g⟩ => ⟨loadOne g⟩
 | _, _, _ => ⟨noOp⟩
noncomputable def loadW (t : TypeId) (x : Operand) : OpW := loadW1 (aggOf P t) (szOf P t) (evW x)
noncomputable def fieldAddrF (off : Nat) (g : Tm → Value) (_ : Fns) (t : Tm) (S : St) (ok : OkK) (_ : PanK) : Res3 := with2 (asPtrF (g t)) fun b o => ok (ptrTo b (Nat.add o off)) S
noncomputable def fieldAddrW1 (off : Nat) (e : EvW) : OpW := match e with
 | ⟨g⟩ => ⟨fieldAddrF off g⟩
noncomputable def fieldAddrW (s : TypeId) (x : Operand) (i : Nat) : OpW := match P.underlying s with
 | some (.struct fields) => match nth fields.toList i with
  | some f => match szOf P f.type with
   | some (_ + 1) => fieldAddrW1 f.offset (evW x)
   | _ => ⟨noOp⟩
  | none => ⟨noOp⟩
 | _ => ⟨noOp⟩
noncomputable def idxK (n : Int) (len : Nat) (k : Nat → Res3) : Res3 := Int.rec (motive := fun _ => Res3) (fun i => Bool.rec (motive := fun _ => Res3) none (k i) (Nat.blt i len)) (fun _ => none) n
noncomputable def indexSliceF (n : Nat) (g h : Tm → Value) (_ : Fns) (t : Tm) (S : St) (ok : OkK) (_ : PanK) : Res3 :=
 with2 (asIntF (h t)) fun _ i => with3 (asSliceF (g t)) fun b o len => idxK i len fun j => ok (ptrTo b (Nat.add o (Nat.mul j n))) S
noncomputable def indexArrF (len n : Nat) (g h : Tm → Value) (_ : Fns) (t : Tm) (S : St) (ok : OkK) (_ : PanK) : Res3 :=
 with2 (asIntF (h t)) fun _ i => with2 (asPtrF (g t)) fun b o => idxK i len fun j => ok (ptrTo b (Nat.add o (Nat.mul j n))) S
noncomputable def indexW1 (arr : Option Nat) (n : Nat) (e f : EvW) : OpW := match arr, e, f with
 | some len, ⟨g⟩, ⟨h⟩ => ⟨indexArrF len n g h⟩
 | none, ⟨g⟩, ⟨h⟩ => ⟨indexSliceF n g h⟩
noncomputable def indexAddrW (ty : TypeId) (x i : Operand) : OpW := match P.underlying ty with
 | some (.array len elem) => match szOf P elem with
  | some n => indexW1 (some len) n (evW x) (evW i)
  | none => ⟨noOp⟩
 | some (.slice elem) => match szOf P elem with
  | some n => indexW1 none n (evW x) (evW i)
  | none => ⟨noOp⟩
 | _ => ⟨noOp⟩
def wrapF (k : IntKind) (n : Int) : Int := match k, n with
 | .i64, .ofNat m => bif Nat.blt m 9223372036854775808 then .ofNat m else IntKind.i64.wrap (.ofNat m)
 | .i64, .negSucc m => bif Nat.blt m 9223372036854775808 then .negSucc m else IntKind.i64.wrap (.negSucc m)
 | .u64, .ofNat m => bif Nat.blt m 18446744073709551616 then .ofNat m else IntKind.u64.wrap (.ofNat m)
 | k, n => k.wrap n
def ltI : Int → Int → Bool
 | .ofNat a, .ofNat b => Nat.blt a b
 | .ofNat _, .negSucc _ => false
 | .negSucc _, .ofNat _ => true
 | .negSucc a, .negSucc b => Nat.blt b a
def eqI : Int → Int → Bool
 | .ofNat a, .ofNat b => Nat.beq a b
 | .negSucc a, .negSucc b => Nat.beq a b
 | _, _ => false
def kindNo : IntKind → Nat
 | .i8 => 0
 | .i16 => 1
 | .i32 => 2
 | .i64 => 3
 | .u8 => 4
 | .u16 => 5
 | .u32 => 6
 | .u64 => 7
def sameK (j k : IntKind) : Bool := Nat.beq (kindNo j) (kindNo k)
abbrev BinI := IntKind → Int → Int → Value
noncomputable def binK2 (f : BinI) (slow : Res3) (k : IntKind) (a : Int) (S : St) (ok : OkK) (o : Option (IntKind × Int)) : Res3 :=
 Option.rec (motive := fun _ => Res3) slow (fun p => Bool.rec (motive := fun _ => Res3) none (ok (f k a p.2) S) (sameK k p.1)) o
noncomputable def binK1 (f : BinI) (slow : Res3) (S : St) (ok : OkK) (o o' : Option (IntKind × Int)) : Res3 :=
 Option.rec (motive := fun _ => Res3) slow (fun p => binK2 f slow p.1 p.2 S ok o') o
noncomputable def binF (f : BinI) (sl : OpK) (g h : Tm → Value) (ih : Fns) (t : Tm) (S : St) (ok : OkK) (pan : PanK) : Res3 :=
 binK1 f (sl ih t S ok pan) S ok (asIntF (g t)) (asIntF (h t))
def addI (k : IntKind) (a b : Int) : Value := .int k (wrapF k (Int.add a b))
def subI (k : IntKind) (a b : Int) : Value := .int k (wrapF k (Int.sub a b))
def mulI (k : IntKind) (a b : Int) : Value := .int k (wrapF k (Int.mul a b))
def eqlI (_ : IntKind) (a b : Int) : Value := .bool (eqI a b)
def neqI (_ : IntKind) (a b : Int) : Value := .bool (!eqI a b)
def lssI (_ : IntKind) (a b : Int) : Value := .bool (ltI a b)
def leqI (_ : IntKind) (a b : Int) : Value := .bool (!ltI b a)
def gtrI (_ : IntKind) (a b : Int) : Value := .bool (ltI b a)
def geqI (_ : IntKind) (a b : Int) : Value := .bool (!ltI a b)
def binFn (op : BinOp) : Option BinI := match op with
 | .add => some addI
 | .sub => some subI
 | .mul => some mulI
 | .eql => some eqlI
 | .neq => some neqI
 | .lss => some lssI
 | .leq => some leqI
 | .gtr => some gtrI
 | .geq => some geqI
 | _ => none
noncomputable def binW1 (f : Option BinI) (sl : OpK) (e e' : EvW) : OpW := match f, e, e' with
 | some f, ⟨g⟩, ⟨h⟩ => ⟨binF f sl g h⟩
 | none, _, _ => ⟨sl⟩
noncomputable def binW (op : BinOp) (t : TypeId) (x y : Operand) (yt : TypeId) : OpW := binW1 (binFn op) (slowF P (.binOp op t x y yt)) (evW x) (evW y)
noncomputable def extractF (i : Nat) (g : Tm → Value) (_ : Fns) (t : Tm) (S : St) (ok : OkK) (_ : PanK) : Res3 := withO (asTupF (g t)) fun l => withO (nth l i) fun v => ok v S
noncomputable def extractW (i : Nat) (e : EvW) : OpW := match e with
 | ⟨g⟩ => ⟨extractF i g⟩
noncomputable def pickF (c a b : Tm → Value) (_ : Fns) (t : Tm) (S : St) (ok : OkK) (_ : PanK) : Res3 := withO (asBoolF (c t)) fun x => Bool.rec (motive := fun _ => Res3) (ok (b t) S) (ok (a t) S) x
noncomputable def pickW (c a b : EvW) : OpW := match c, a, b with
 | ⟨f⟩, ⟨g⟩, ⟨h⟩ => ⟨pickF f g h⟩
noncomputable def notF (g : Tm → Value) (_ : Fns) (t : Tm) (S : St) (ok : OkK) (_ : PanK) : Res3 := withO (asBoolF (g t)) fun x => ok (.bool (not x)) S
noncomputable def notW (e : EvW) : OpW := match e with
 | ⟨g⟩ => ⟨notF g⟩
noncomputable def newAt (h : Hp) (x : Blk) (ok : OkK) (n : Nat) : Res3 := ok (ptrTo n 0) ⟨hset h n (some x), Nat.succ n⟩
noncomputable def newF (x : Blk) (S : St) (ok : OkK) : Res3 := Nat.rec (motive := fun _ => Res3) (newAt S.heap x ok 0) (fun m _ => newAt S.heap x ok (Nat.succ m)) S.size
noncomputable def allocF (x : Blk) (_ : Fns) (_ : Tm) (S : St) (ok : OkK) (_ : PanK) : Res3 := newF x S ok
noncomputable def allocW (z : Option (List Value)) (e : TypeId) : OpW := match z with
 | some z => ⟨allocF (.cells z e false true [])⟩
 | none => ⟨noOp⟩
noncomputable def boxF (e : TypeId) (g : Tm → Value) (_ : Fns) (t : Tm) (S : St) (ok : OkK) (_ : PanK) : Res3 := newF (.cells (cellsF (g t)) e false true []) S ok
noncomputable def boxW (e : TypeId) (x : EvW) : OpW := match x with
 | ⟨g⟩ => ⟨boxF e g⟩
noncomputable def writeB (S : St) (b o : Nat) (vs : List Value) (slow : Res3) (ok : OkK) (x : Option Blk) : Res3 := match x with
 | some (.cells c e row true []) => withO (setN o vs c) fun c' => ok undef ⟨hset S.heap b (some (.cells c' e row true [])), S.size⟩
 | _ => slow
noncomputable def storeK (n : Nat) (S : St) (b o : Nat) (vs : List Value) (slow : Res3) (ok : OkK) : Res3 :=
 Bool.rec (motive := fun _ => Res3) none (writeB S b o vs slow ok (hget S b)) (Nat.beq vs.length n && vs.all cellV && Nat.blt 0 vs.length)
noncomputable def storeF (n : Nat) (sl : OpK) (g h : Tm → Value) (ih : Fns) (t : Tm) (S : St) (ok : OkK) (pan : PanK) : Res3 :=
 with2 (asPtrF (g t)) fun b o => storeK n S b o (cellsF (h t)) (sl ih t S ok pan) ok
noncomputable def storeW (n : Option Nat) (sl : OpK) (e e' : EvW) : OpW := match n, e, e' with
 | some n, ⟨g⟩, ⟨h⟩ => ⟨storeF n sl g h⟩
 | none, _, _ => ⟨noOp⟩
def endR (r : Option (Ending × St)) (ok : OkK) (pan : PanK) : Res3 := match r with
 | some (.returned v, S') => ok v S'
 | some (.panicked ch, S') => pan ch S'
 | _ => none
def argsOf : List (Tm → Value) → Tm → List Value
 | [], _ => []
 | g :: r, t => g t :: argsOf r t
def callFnF (f : FuncId) (gs : List (Tm → Value)) (ih : Fns) (t : Tm) (S : St) (ok : OkK) (pan : PanK) : Res3 := endR (ih.call (.fn (.func f) #[]) (argsOf gs t) S) ok pan
noncomputable def getsOf : List Operand → List (Tm → Value)
 | [] => []
 | x :: r => (evW x).get :: getsOf r
noncomputable def callW (c : Call) (op : Op) : OpW := match c.callee with
 | .value (.func f) => ⟨callFnF f (getsOf c.args.toList)⟩
 | _ => ⟨slowF P op⟩
noncomputable def evF (e : EvW) (t : Tm) : Value := EvW.rec (motive := fun _ => Value) (fun g => g t) e
noncomputable def evA (t : Tm) (x : Operand) : Value := evF (evW x) t
noncomputable def pureK (f : (Operand → Value) → Option Value) (_ : Fns) (t : Tm) (S : St) (ok : OkK) (_ : PanK) : Res3 := withO (f (evA t)) fun v => ok v S
noncomputable def readK (f : (Operand → Value) → St → Option Value) (_ : Fns) (t : Tm) (S : St) (ok : OkK) (_ : PanK) : Res3 := withO (f (evA t) S) fun v => ok v S
noncomputable def newK (f : (Operand → Value) → St → Option (Value × St)) (_ : Fns) (t : Tm) (S : St) (ok : OkK) (_ : PanK) : Res3 := with2 (f (evA t) S) ok
def mapE (ρ : Operand → Value) : List (Nat × Operand) → List (Nat × Value)
 | [] => []
 | x :: r => (x.1, ρ x.2) :: mapE ρ r
def buildO (t : TypeId) (l : List (Nat × Operand)) (ρ : Operand → Value) : Option Value := buildV P t (mapE ρ l)
def nilO (x : Operand) (ρ : Operand → Value) : Option Value := nilCheckV (ρ x)
def fieldO (t : TypeId) (x : Operand) (i : Nat) (ρ : Operand → Value) : Option Value := fieldV P t (ρ x) i
def indexO (t : TypeId) (x i : Operand) (ρ : Operand → Value) : Option Value := indexV P t (ρ x) (ρ i)
def lenO (t : TypeId) (x : Operand) (ρ : Operand → Value) (S : St) : Option Value := lenV P t (ρ x) S
def sliceO (t : TypeId) (x : Operand) (lo hi mx : Option Operand) (ρ : Operand → Value) (S : St) : Option Value := sliceV P t (ρ x) (lo.map ρ) (hi.map ρ) (mx.map ρ) S
def buildSliceO (t : TypeId) (len : Nat) (parts : Array (Nat × Operand)) (ρ : Operand → Value) (S : St) : Option (Value × St) := newOp P ρ (.buildSlice t len parts) S
def mapO (ρ : Operand → Value) : List Operand → List Value
 | [] => []
 | x :: r => ρ x :: mapO ρ r
def builtinO (b : Builtin) (ts : List TypeId) (args : List Operand) (ρ : Operand → Value) (S : St) : Option (Value × St) := builtinV P b ts (mapO ρ args) S
noncomputable def builtinW (b : Builtin) (args : List Operand) (ts : List TypeId) (op : Op) : OpW := match b, args, ts with
 | .len, [x], t :: _ => ⟨readK (lenO P t x)⟩
 | .len, _, _ => ⟨slowF P op⟩
 | b, args, ts => ⟨newK (builtinO P b ts args)⟩
noncomputable def callW2 (c : Call) (op : Op) : OpW := match c.callee with
 | .builtin b => builtinW P b c.args.toList c.argTypes.toList op
 | _ => callW P c op
noncomputable def opW (op : Op) : OpW := match op with
 | .move x => moveW x
 | .assign x => moveW x
 | .pick c a b => pickW (evW c) (evW a) (evW b)
 | .load t x => loadW P t x
 | .fieldAddr s x i => fieldAddrW P s x i
 | .indexAddr t x i => indexAddrW P t x i
 | .binOp o t x y yt => binW P o t x y yt
 | .unOp .not _ x => notW (evW x)
 | .extract x i => extractW i (evW x)
 | .alloc e => allocW (zeroOf P e) e
 | .box e x => boxW e (evW x)
 | .store t a x => storeW (szOf P t) (slowF P (.store t a x)) (evW a) (evW x)
 | .build t parts => ⟨pureK (buildO P t parts.toList)⟩
 | .nilCheck x => ⟨pureK (nilO x)⟩
 | .field t x i => ⟨pureK (fieldO P t x i)⟩
 | .index t x i => ⟨pureK (indexO P t x i)⟩
 | .slice t x lo hi mx => ⟨readK (sliceO P t x lo hi mx)⟩
 | .buildSlice t len parts => ⟨newK (buildSliceO P t len parts)⟩
 | .call c => callW2 P c (.call c)
 | op => ⟨slowF P op⟩
abbrev StepK := Fns → Nat → Tm → St → (Tm → St → Res3) → PanK → Res3
structure StepW where
 run : StepK
noncomputable def putK (s : Option Value → Tm → Tm) (d n : Nat) (t : Tm) (k : Tm → St → Res3) (v : Value) (S : St) : Res3 := Bool.rec (motive := fun _ => Res3) none (k (s (some v) t) S) (Nat.blt d n)
noncomputable def stepDr (s : Option Value → Tm → Tm) (d : Nat) (f : OpK) (ih : Fns) (n : Nat) (t : Tm) (S : St) (k : Tm → St → Res3) (pan : PanK) : Res3 := f ih t S (putK s d n t k) pan
def dropK (t : Tm) (k : Tm → St → Res3) (_ : Value) (S : St) : Res3 := k t S
def stepN (f : OpK) (ih : Fns) (_ : Nat) (t : Tm) (S : St) (k : Tm → St → Res3) (pan : PanK) : Res3 := f ih t S (dropK t k) pan
def isB (v : Option Value) (w : Bool) : Bool := match v with
 | some (.bool b) => b == w
 | _ => false
noncomputable def stepG (g : Tm → Option Value) (w : Bool) (yes no : StepK) (ih : Fns) (n : Nat) (t : Tm) (S : St) (k : Tm → St → Res3) (pan : PanK) : Res3 :=
 Bool.rec (motive := fun _ => Res3) (no ih n t S k pan) (yes ih n t S k pan) (isB (g t) w)
noncomputable def plainW (dst : Option Tmp) (f : OpK) : StepW := match dst with
 | none => ⟨stepN f⟩
 | some d => match (setK 8 d : SW Value 8) with
  | ⟨s⟩ => ⟨stepDr s d f⟩
def undefF (_ : Fns) (_ : Tm) (S : St) (ok : OkK) (_ : PanK) : Res3 := ok undef S
noncomputable def guardW (g : GW Value 8) (w : Bool) (y n : StepW) : StepW := match g, y, n with
 | ⟨g⟩, ⟨y⟩, ⟨n⟩ => ⟨stepG g w y n⟩
noncomputable def plainOp (dst : Option Tmp) (w : OpW) : StepW := match w with
 | ⟨f⟩ => plainW dst f
noncomputable def stepW (full : List Oper) (o : Oper) : StepW := match o.guard with
 | none => plainOp o.dst (opW P o.op)
 | some (j, w) => match nth full j with
  | some oj => match oj.dst with
   | some d => guardW (getK 8 d) w (plainOp o.dst (opW P o.op)) (plainW o.dst undefF)
   | none => plainW o.dst undefF
  | none => plainW o.dst undefF
noncomputable def compL (full : List Oper) (l : List Oper) : List StepW := List.rec (motive := fun _ => List StepW) [] (fun o _ ih => stepW P full o :: ih) l
noncomputable def stepRun (w : StepW) (ih : Fns) (n : Nat) (t : Tm) (S : St) (k : Tm → St → Res3) (pan : PanK) : Res3 := StepW.rec (motive := fun _ => Res3) (fun f => f ih n t S k pan) w
def panA (n : Nat) (t : Tm) (df : List Deferred) (ch : List PanicEntry) (S : St) : Res3 := some (.panic ch, ⟨n, t, df⟩, S)
noncomputable def runC (ih : Fns) (n : Nat) (df : List Deferred) (l : List StepW) : Tm → St → Res3 :=
 List.rec (motive := fun _ => Tm → St → Res3) (fun t S => some (.normal, ⟨n, t, df⟩, S)) (fun c _ rest t S => stepRun c ih n t S rest (panA n t df)) l
abbrev Ent := Nat × (St → Res3 → Res3)
abbrev PlK := Fns → Nat → List Deferred → Tm → St → List Ent → (List Ent → Tm → St → Res3) → Res3
structure PlW where
 run : PlK
noncomputable def sameK2 (v : Value) (k : Res3) (w : Value) (_ : St) : Res3 := Bool.rec (motive := fun _ => Res3) none k (sameV 100000 v w)
def noPan (_ : List PanicEntry) (_ : St) : Res3 := none
noncomputable def lookE (f : OpK) (ih : Fns) (t : Tm) (v : Value) (S : St) (k : Res3) : Res3 := f ih t S (sameK2 v k) noPan
noncomputable def freshE (P : Program) (c : Chk) (S : St) (k : Res3) : Res3 := Bool.rec (motive := fun _ => Res3) none k (Chk.ok P S c)
noncomputable def allE (S : St) (k : Res3) (l : List Ent) : Res3 := List.rec (motive := fun _ => Res3) k (fun e _ ih => e.2 S ih) l
def keepE (bef : Nat) : List Ent → List Ent
 | [] => []
 | e :: r => bif bef.testBit e.1 then keepE bef r else e :: keepE bef r
abbrev PutK := Nat → Tm → Value → (Tm → Res3) → Res3
noncomputable def putD (s : Option Value → Tm → Tm) (d : Nat) (n : Nat) (t : Tm) (v : Value) (k : Tm → Res3) : Res3 := Bool.rec (motive := fun _ => Res3) none (k (s (some v) t)) (Nat.blt d n)
def putN (_ : Nat) (t : Tm) (_ : Value) (k : Tm → Res3) : Res3 := k t
noncomputable def putOf (dst : Option Tmp) : PutK := match dst with
 | none => putN
 | some d => match (setK 8 d : SW Value 8) with
  | ⟨s⟩ => putD s d
def plPlain (p : PutK) (f : OpK) (ih : Fns) (n : Nat) (_ : List Deferred) (t : Tm) (S : St) (l : List Ent) (k : List Ent → Tm → St → Res3) : Res3 := f ih t S (fun v S' => p n t v fun t' => k l t' S') noPan
noncomputable def plLook (i : Nat) (p : PutK) (f : OpK) (ih : Fns) (n : Nat) (_ : List Deferred) (t : Tm) (S : St) (l : List Ent) (k : List Ent → Tm → St → Res3) : Res3 := f ih t S (fun v S' => p n t v fun t' => k ((i, lookE f ih t v) :: l) t' S') noPan
noncomputable def plFresh (i : Nat) (p : PutK) (f : OpK) (ih : Fns) (n : Nat) (_ : List Deferred) (t : Tm) (S : St) (l : List Ent) (k : List Ent → Tm → St → Res3) : Res3 :=
 f ih t S (fun v S' => p n t v fun t' => withO (chkOf S' S.size) fun c => Option.rec (motive := fun _ => Res3) (k ((i, freshE P c) :: l) t' S') (fun _ => none) (hget S S.size)) noPan
noncomputable def plHeavy (bef : Nat) (p : PutK) (f : OpK) (ih : Fns) (n : Nat) (_ : List Deferred) (t : Tm) (S : St) (l : List Ent) (k : List Ent → Tm → St → Res3) : Res3 :=
 f ih t S (fun v S' => p n t v fun t' => allE S' (k (keepE bef l) t' S') (keepE bef l)) noPan
noncomputable def plGuard (g : Tm → Option Value) (w : Bool) (yes no : PlK) (ih : Fns) (n : Nat) (df : List Deferred) (t : Tm) (S : St) (l : List Ent) (k : List Ent → Tm → St → Res3) : Res3 :=
 Bool.rec (motive := fun _ => Res3) (no ih n df t S l k) (yes ih n df t S l k) (isB (g t) w)
noncomputable def plOp (bef : Nat) (o : Oper) (i : Nat) (f : OpK) : PlK := match kindOf o.op with
 | .read => bif looks o.op then plLook i (putOf o.dst) f else plPlain (putOf o.dst) f
 | .fresh => plFresh P i (putOf o.dst) f
 | .heavy => plHeavy bef (putOf o.dst) f
noncomputable def plGuardW (g : GW Value 8) (w : Bool) (y n : PlK) : PlW := match g with
 | ⟨g⟩ => ⟨plGuard g w y n⟩
noncomputable def plOpW (full : List Oper) (bef : Nat) (o : Oper) (i : Nat) (w : OpW) : PlW := match w with
 | ⟨f⟩ => match o.guard with
  | none => ⟨plOp P bef o i f⟩
  | some (j, w) => match nth full j with
   | some oj => match oj.dst with
    | some d => plGuardW (getK 8 d) w (plOp P bef o i f) (plPlain (putOf o.dst) undefF)
    | none => ⟨plPlain (putOf o.dst) undefF⟩
   | none => ⟨plPlain (putOf o.dst) undefF⟩
noncomputable def compP (full : List Oper) (bef : List Nat) (l : List (Oper × Nat)) : List PlW :=
 List.rec (motive := fun _ => List PlW) [] (fun x _ ih => plOpW P full ((nth bef x.2).getD 0) x.1 x.2 (opW P x.1.op) :: ih) l
noncomputable def plRun (w : PlW) : PlK := PlW.rec (motive := fun _ => PlK) (fun f => f) w
noncomputable def runPl (ih : Fns) (n : Nat) (df : List Deferred) (l : List PlW) : List Ent → Tm → St → Res3 :=
 List.rec (motive := fun _ => List Ent → Tm → St → Res3) (fun _ t S => some (.normal, ⟨n, t, df⟩, S)) (fun c _ rest e t S => plRun c ih n df t S e rest) l
structure CodeW where
 run : Fns → Option Nat → Ca → St → Res3
noncomputable def regionF (l : List StepW) (ih : Fns) (_ : Option Nat) (a : Ca) (S : St) : Res3 := Ca.rec (motive := fun _ => Res3) (fun n t df => runC ih n df l t S) a
noncomputable def drawF (l : List PlW) (ih : Fns) (_ : Option Nat) (a : Ca) (S : St) : Res3 := Ca.rec (motive := fun _ => Res3) (fun n t df => runPl ih n df l [] t S) a
def constF (e : Exit) (_ : Fns) (_ : Option Nat) (a : Ca) (S : St) : Res3 := some (e, a, S)
def seqK (y : Code) (ih : Fns) (ro : Option Nat) (r : Res3) : Res3 := match r with
 | some (.normal, a', S') => ih.exec ro y a' S'
 | r => r
def seqF (x y : Code) (ih : Fns) (ro : Option Nat) (a : Ca) (S : St) : Res3 := seqK y ih ro (ih.exec ro x a S)
noncomputable def condK (x y : Res3) (o : Option Bool) : Res3 := withO o fun b => Bool.rec (motive := fun _ => Res3) y x b
noncomputable def condF (g : Tm → Value) (x y : Code) (ih : Fns) (ro : Option Nat) (a : Ca) (S : St) : Res3 := condK (ih.exec ro x a S) (ih.exec ro y a S) (asBoolF (g a.t))
noncomputable def condW (e : EvW) (x y : Code) : CodeW := match e with
 | ⟨g⟩ => ⟨condF g x y⟩
def blockK (id : Nat) (r : Res3) : Res3 := match r with
 | some (.exit j, a', S') => bif Nat.beq j id then some (.normal, a', S') else some (.exit j, a', S')
 | r => r
def blockF (id : Nat) (c : Code) (ih : Fns) (ro : Option Nat) (a : Ca) (S : St) : Res3 := blockK id (ih.exec ro c a S)
def loopF (c : Code) (ih : Fns) (ro : Option Nat) (a : Ca) (S : St) : Res3 := seqK (.loop c) ih ro (ih.exec ro c a S)
def elseF (code : Code) (ih : Fns) (ro : Option Nat) (a : Ca) (S : St) : Res3 := execF P ih ro code a S
def noCode (_ : Fns) (_ : Option Nat) (_ : Ca) (_ : St) : Res3 := none
noncomputable def drawW (full : List Oper) (o : Option (List Nat × List (Oper × Nat))) : CodeW := match o with
 | some (bef, pl) => ⟨drawF (compP P full bef pl)⟩
 | none => ⟨noCode⟩
noncomputable def regionW (ops : List Oper) (draw : Bool) : CodeW := bif constsOk P ops then (bif draw then drawW P ops (planW ops) else ⟨regionF (compL P ops ops)⟩) else ⟨noCode⟩
noncomputable def codeW (code : Code) : CodeW := match code with
 | .skip => ⟨constF .normal⟩
 | .label _ => ⟨constF .normal⟩
 | .exit id => ⟨constF (.exit id)⟩
 | .ret => ⟨constF .ret⟩
 | .region _ ops draw => regionW P ops.toList draw
 | .seq x y => ⟨seqF x y⟩
 | .cond c x y => condW (evW c) x y
 | .block id c => ⟨blockF id c⟩
 | .loop c => ⟨loopF c⟩
 | code => ⟨elseF P code⟩
noncomputable def execW (w : CodeW) (ih : Fns) (ro : Option Nat) (a : Ca) (S : St) : Res3 := CodeW.rec (motive := fun _ => Res3) (fun f => f ih ro a S) w
noncomputable def execG (ih : Fns) (ro : Option Nat) (code : Code) (a : Ca) (S : St) : Res3 := execW (codeW P code) ih ro a S
inductive EntW where
 | bad
 | ext
 | go (n : Nat) (c : Code) (rs : List ResultVar)
def entW (f : FuncId) : EntW := match P.funcs[f]? with
 | some fn => match fn.body with
  | some c => bif fn.name == "runtime.NumGoroutine" then .bad else .go fn.ntmps c fn.results.toList
  | none => .ext
 | none => .bad
noncomputable def setArgs (i : Nat) (l : List Value) : Tm → Tm := List.rec (motive := fun _ => Nat → Tm → Tm) (fun _ t => t) (fun v _ ih i t => ih (Nat.succ i) (appS (setK 8 i) (some v) t)) l i
noncomputable def resG (t : Tm) (S : St) : List ResultVar → Option (List Value)
 | [] => some []
 | .tmp x :: r => match resG t S r with
  | some l => some (evA t (.tmp x) :: l)
  | none => none
 | .cell x e :: r => match loadV P e (evA t (.tmp x)) S, resG t S r with
  | some v, some l => some (v :: l)
  | _, _ => none
abbrev Res2 := Option (Ending × St)
def retV (S : St) (l : Option (List Value)) : Res2 := match l with
 | some [v] => some (.returned v, S)
 | some vs => some (.returned (.tuple vs.toArray), S)
 | none => none
noncomputable def retG (rs : List ResultVar) (t : Tm) (S : Option St) : Res2 := Option.rec (motive := fun _ => Res2) none (fun S => retV S (resG P t S rs)) S
def panG (ch : List PanicEntry) (S : Option St) : Res2 := match S with
 | some S => some (.panicked ch, S)
 | none => none
noncomputable def leave1 (rs : List ResultVar) (S : St) (e : Exit) (t : Tm) (df : List Deferred) : Res2 := match e with
 | .normal => retG P rs t (takeMarks df S)
 | .ret => retG P rs t (takeMarks df S)
 | .panic ch => panG ch (takeMarks df S)
 | _ => none
noncomputable def leaveG (rs : List ResultVar) (r : Res3) : Res2 := match r with
 | some (e, ⟨_, t, df⟩, S) => leave1 P rs S e t df
 | none => none
noncomputable def goG (ih : Fns) (n : Nat) (c : Code) (rs : List ResultVar) (args : List Value) (S : St) : Res2 :=
 bif Nat.blt 256 n then none else leaveG P rs (ih.exec none c ⟨n, setArgs 0 args (PT.nil 8), []⟩ S)
def extG (r : Option (Value × St)) : Res2 := match r with
 | some (v, S) => some (.returned v, S)
 | none => none
noncomputable def enterG (K : Known) (ih : Fns) (f : FuncId) (args : List Value) (S : St) (w : EntW) : Res2 := match w with
 | .bad => none
 | .ext => extG (K.ext f args S)
 | .go n c rs => goG P ih (maxN n args.length) c rs args S
noncomputable def callG (K : Known) (ih : Fns) (target : Target) (args : List Value) (S : St) : Res2 := match target with
 | .fn (.func f) ⟨[]⟩ => match K.call f args S with
  | some v => some (.returned v, S)
  | none => bif K.defers f then enterD P ih f args S else enterG P K ih f args S (entW P f)
 | t => callF P K ih t args S
noncomputable def fnsG (K : Known) (n : Nat) : Fns :=
 Nat.rec (motive := fun _ => Fns) ⟨fun _ _ _ _ => none, fun _ _ _ => none⟩ (fun _ ih => ⟨execG P ih, callG P K ih⟩) n
end Go.Cm

namespace Go.Cm
open Go
theorem getW_eq {α : Type} : ∀ (d k : Nat) (t : PT α d), (getW d k : GW α d).f t = PT.at_ d t k
 | 0, _, _ => rfl
 | d + 1, k, t => by
  have e : (getW (d + 1) k : GW α (d + 1)) = Bool.rec (motive := fun _ => GW α _) (consR (getW d (Nat.div k 2))) (consL (getW d (Nat.div k 2))) (Nat.beq (Nat.mod k 2) 0) := rfl
  rw [e]
  have hL : ∀ w : GW α d, (consL w).f t = w.f t.1 := fun w => by cases w; rfl
  have hR : ∀ w : GW α d, (consR w).f t = w.f t.2 := fun w => by cases w; rfl
  cases hb : Nat.beq (Nat.mod k 2) 0 with
  | true =>
   rw [PT.at_tt (show Nat.beq (k % 2) 0 = true from hb)]
   show (consL (getW d (Nat.div k 2))).f t = _
   rw [hL]; exact getW_eq d _ _
  | false =>
   rw [PT.at_ff (show Nat.beq (k % 2) 0 = false from hb)]
   show (consR (getW d (Nat.div k 2))).f t = _
   rw [hR]; exact getW_eq d _ _
theorem getK_eq {α : Type} (d k : Nat) (t : PT α d) : (getK d k : GW α d).f t = t.get k := by
 unfold getK PT.get
 cases Nat.blt k (2 ^ d) with
 | true => exact getW_eq d k t
 | false => rfl
theorem setW_eq {α : Type} : ∀ (d k : Nat) (v : Option α) (t : PT α d), (setW d k : SW α d).f v t = PT.upd v d t k
 | 0, _, _, _ => rfl
 | d + 1, k, v, t => by
  have e : (setW (d + 1) k : SW α (d + 1)) = Bool.rec (motive := fun _ => SW α _) (sconsR (setW d (k / 2))) (sconsL (setW d (k / 2))) (Nat.beq (k % 2) 0) := rfl
  rw [e]
  have hL : ∀ w : SW α d, (sconsL w).f v t = ((w.f v t.1, t.2) : PT α d × PT α d) := fun w => by cases w; cases t; rfl
  have hR : ∀ w : SW α d, (sconsR w).f v t = ((t.1, w.f v t.2) : PT α d × PT α d) := fun w => by cases w; cases t; rfl
  cases hb : Nat.beq (k % 2) 0 with
  | true =>
   rw [PT.upd_tt hb]
   show (sconsL (setW d (k / 2))).f v t = _
   rw [hL, setW_eq d]
  | false =>
   rw [PT.upd_ff hb]
   show (sconsR (setW d (k / 2))).f v t = _
   rw [hR, setW_eq d]
theorem setK_eq {α : Type} (d k : Nat) (v : Option α) (t : PT α d) : (setK d k : SW α d).f v t = t.set k v := by
 unfold setK PT.set
 cases Nat.blt k (2 ^ d) with
 | true => exact setW_eq d k v t
 | false => rfl
theorem appS_eq {α : Type} {d : Nat} (w : SW α d) (v : Option α) (t : PT α d) : appS w v t = w.f v t := by cases w; rfl
theorem atG_eq {α : Type} : ∀ (d : Nat) (t : PT α d) (k : Nat), atG d t k = PT.at_ d t k
 | 0, _, _ => rfl
 | d + 1, t, k => by
  have e : atG (d + 1) t k = Bool.rec (motive := fun _ => Option α) (atG d t.2 (Nat.div k 2)) (atG d t.1 (Nat.div k 2)) (Nat.beq (Nat.mod k 2) 0) := rfl
  rw [e]
  cases hb : Nat.beq (Nat.mod k 2) 0 with
  | true => rw [PT.at_tt (show Nat.beq (k % 2) 0 = true from hb)]; exact atG_eq d _ _
  | false => rw [PT.at_ff (show Nat.beq (k % 2) 0 = false from hb)]; exact atG_eq d _ _
theorem updG_eq {α : Type} (v : Option α) : ∀ (d : Nat) (t : PT α d) (k : Nat), updG v d t k = PT.upd v d t k
 | 0, _, _ => rfl
 | d + 1, t, k => by
  obtain ⟨l, r⟩ := t
  have e : updG v (d + 1) ((l, r) : PT α d × PT α d) k = Bool.rec (motive := fun _ => PT α d × PT α d) (l, updG v d r (Nat.div k 2)) (updG v d l (Nat.div k 2), r) (Nat.beq (Nat.mod k 2) 0) := rfl
  rw [e]
  cases hb : Nat.beq (Nat.mod k 2) 0 with
  | true =>
   refine Eq.trans ?_ (PT.upd_tt (show Nat.beq (k % 2) 0 = true from hb)).symm
   show (updG v d l (Nat.div k 2), r) = _
   rw [updG_eq v d l]; rfl
  | false =>
   refine Eq.trans ?_ (PT.upd_ff (show Nat.beq (k % 2) 0 = false from hb)).symm
   show (l, updG v d r (Nat.div k 2)) = _
   rw [updG_eq v d r]; rfl
theorem hget_eq (S : St) (b : Nat) : hget S b = S.get b := by
 obtain ⟨⟨t, more⟩, z⟩ := S
 show Bool.rec (motive := fun _ => Option Blk) (more b) (atG 18 t b) (Nat.blt b 262144) = bif Nat.blt b 262144 then PT.at_ 18 t b else more b
 cases Nat.blt b 262144 with
 | true => exact atG_eq 18 _ _
 | false => rfl
theorem hset_eq (h : Hp) (b : Nat) (x : Option Blk) : hset h b x = Heap.set h b x := by
 obtain ⟨t, more⟩ := h
 show Bool.rec (motive := fun _ => Hp) ⟨t, fun j => bif Nat.beq j b then x else more j⟩ ⟨updG x 18 t b, more⟩ (Nat.blt b 262144) = bif Nat.blt b 262144 then (⟨PT.upd x 18 t b, more⟩ : Heap) else ⟨t, fun j => bif Nat.beq j b then x else more j⟩
 cases Nat.blt b 262144 with
 | true => exact congrArg (fun y => (⟨y, more⟩ : Heap)) (updG_eq x 18 _ _)
 | false => rfl
theorem withO_eq {α : Type} (o : Option α) (k : α → Res3) : withO o k = match o with | some v => k v | none => none := by cases o <;> rfl
theorem with2_eq {α β : Type} (o : Option (α × β)) (k : α → β → Res3) : with2 o k = match o with | some (a, b) => k a b | none => none := by cases o <;> rfl
theorem with3_eq {α β γ : Type} (o : Option (α × β × γ)) (k : α → β → γ → Res3) : with3 o k = match o with | some (a, b, c) => k a b c | none => none := by cases o <;> rfl
theorem asBoolF_eq (v : Value) : asBoolF v = match v with | .bool b => some b | _ => none := by cases v <;> rfl
theorem asIntF_eq (v : Value) : asIntF v = match v with | .int k n => some (k, n) | _ => none := by cases v <;> rfl
theorem asPtrF_eq (v : Value) : asPtrF v = match v with | .pointer a => addrOf a | _ => none := by cases v <;> rfl
theorem asSliceF_eq (v : Value) : asSliceF v = match v with | .slice a n c => sliceOf a n c | _ => none := by cases v <;> rfl
theorem asTupF_eq (v : Value) : asTupF v = match v with | .tuple l => some l.toList | _ => none := by cases v <;> rfl
theorem cellsF_eq (v : Value) : cellsF v = cellsL v := by cases v <;> rfl
theorem evW_eq (x : Operand) (t : Tm) : (evW x).get t = evT t x := by
 cases x with
 | tmp i =>
  show (tmpW (getK 8 i)).get t = _
  have h : ∀ w : GW Value 8, (tmpW w).get t = unO (w.f t) := fun w => by cases w; rfl
  rw [h, getK_eq]
  show unO (t.get i) = match t.get i with | some v => v | none => undef
  cases t.get i <;> rfl
 | const v => rfl
 | global g => rfl
 | func f => rfl
theorem evA_eq (t : Tm) : evA t = evT t := by
 funext x
 rw [← evW_eq]
 show evF (evW x) t = _
 cases evW x; rfl
theorem ca_ev (n : Nat) (t : Tm) (df : List Deferred) : Ca.ev ⟨n, t, df⟩ = evT t := by
 funext x; cases x <;> rfl
theorem evW_get {x : Operand} {g : Tm → Value} (h : evW x = ⟨g⟩) (t : Tm) : g t = evT t x := by
 rw [← evW_eq, h]
theorem kindNo_inj : ∀ j k : IntKind, kindNo j = kindNo k → j = k := by intro j k h; cases j <;> cases k <;> first | rfl | (simp [kindNo] at h)
theorem sameK_eq (j k : IntKind) : sameK j k = decide (j = k) := by
 unfold sameK
 by_cases h : j = k
 ·subst h; simp
 ·rw [nbeq_ff (fun e => h (kindNo_inj _ _ e))]; simp [h]
theorem eqI_eq : ∀ a b : Int, eqI a b = (a == b)
 | .ofNat a, .ofNat b => by
  show Nat.beq a b = _
  by_cases h : a = b
  ·subst h; simp
  ·have h2 : ¬ (Int.ofNat a = Int.ofNat b) := fun e => h (Int.ofNat.inj e)
   rw [nbeq_ff h, beq_eq_false_iff_ne.2 h2]
 | .negSucc a, .negSucc b => by
  show Nat.beq a b = _
  by_cases h : a = b
  ·subst h; simp
  ·rw [nbeq_ff h]; simp [h]
 | .ofNat a, .negSucc b => by simp [eqI]
 | .negSucc a, .ofNat b => by simp [eqI]
theorem ltI_eq : ∀ a b : Int, ltI a b = decide (a < b)
 | .ofNat a, .ofNat b => by
  show Nat.blt a b = _
  rw [PT.blt_iff]
  refine decide_eq_decide.2 ?_
  show a < b ↔ (a : Int) < (b : Int)
  omega
 | .negSucc a, .negSucc b => by
  show Nat.blt b a = _
  rw [PT.blt_iff]
  refine decide_eq_decide.2 ?_
  omega
 | .ofNat a, .negSucc b => by
  show false = _
  symm; rw [decide_eq_false_iff_not]
  show ¬ ((a : Int) < Int.negSucc b)
  omega
 | .negSucc a, .ofNat b => by
  show true = _
  symm; rw [decide_eq_true_eq]
  show Int.negSucc a < (b : Int)
  omega
theorem bif_eq {α : Type} {c : Bool} {x y : α} (h : c = true → x = y) : (bif c then x else y) = y := by
 cases c with
 | false => rfl
 | true => exact h rfl
theorem wrapF_eq (k : IntKind) (n : Int) : wrapF k n = k.wrap n := by
 unfold wrapF
 split
 ·rename_i m
  refine bif_eq fun h => ?_
  have h := nblt_tt h
  rw [IntKind.wrap_i64]
  show (m : Int) = _
  have e : (Int.ofNat m) = (m : Int) := rfl
  rw [e]
  omega
 ·rename_i m
  refine bif_eq fun h => ?_
  have h := nblt_tt h
  rw [IntKind.wrap_i64]
  omega
 ·rename_i m
  refine bif_eq fun h => ?_
  have h := nblt_tt h
  rw [IntKind.wrap_u64]
  have e : (Int.ofNat m) = (m : Int) := rfl
  rw [e]
  omega
 ·rfl
section
variable {P : Program} {ih : Fns} {t : Tm} {S : St} {ok : OkK} {pan : PanK}
theorem useR_read {f : Operand → Value} {op : Op} (hk : kindOf op = .read) : useR (stepOp P ih f op S) ok pan = match readOp P f op S with | some v => ok v S | none => none := by
 unfold stepOp
 rw [hk]
 simp only
 cases readOp P f op S <;> rfl
theorem useR_new {f : Operand → Value} {op : Op} (hk : kindOf op = .fresh) : useR (stepOp P ih f op S) ok pan = match newOp P f op S with | some (v, S') => ok v S' | none => none := by
 unfold stepOp
 rw [hk]
 simp only
 cases newOp P f op S <;> rfl
abbrev Eqv (P : Program) (op : Op) (w : OpW) : Prop := ∀ (ih : Fns) (t : Tm) (S : St) (ok : OkK) (pan : PanK), w.run ih t S ok pan = useR (stepOp P ih (evT t) op S) ok pan
theorem slow_eq (op : Op) : Eqv P op ⟨slowF P op⟩ := fun _ _ _ _ _ => rfl
theorem moveW_eq (x : Operand) (ih : Fns) (t : Tm) (S : St) (ok : OkK) (pan : PanK) : (moveW x).run ih t S ok pan = ok (evT t x) S := by
 have hE : ∀ w : EvW, (moveEW w).run ih t S ok pan = ok (w.get t) S := fun w => by cases w; rfl
 cases x with
 | tmp i =>
  show (movePW (getK 8 i)).run ih t S ok pan = _
  have hP : ∀ w : GW Value 8, (movePW w).run ih t S ok pan = Option.rec (motive := fun _ => Res3) (ok undef S) (fun v => ok v S) (w.f t) := fun w => by cases w; rfl
  rw [hP, getK_eq]
  show _ = ok (match t.get i with | some v => v | none => undef) S
  cases t.get i <;> rfl
 | const v => exact hE (evW (.const v))
 | global g => exact hE (evW (.global g))
 | func f => exact hE (evW (.func f))
theorem pickW_eq (c a b : Operand) : Eqv P (.pick c a b) (pickW (evW c) (evW a) (evW b)) := by
 intro ih t S ok pan
 rw [useR_read rfl]
 cases hc : evW c with | mk f =>
 cases ha : evW a with | mk g =>
 cases hb : evW b with | mk h =>
 show pickF f g h ih t S ok pan = _
 unfold pickF
 rw [withO_eq, asBoolF_eq, evW_get hc, evW_get ha, evW_get hb]
 simp only [readOp, pureOp]
 cases evT t c <;> first
  | rfl
  | (rename_i x; cases x <;> rfl)
theorem loadW_eq (ty : TypeId) (x : Operand) : Eqv P (.load ty x) (loadW P ty x) := by
 intro ih t S ok pan
 rw [useR_read rfl]
 unfold loadW
 cases hx : evW x with | mk g =>
 have hg := evW_get hx t
 simp only [readOp, loadV]
 cases ha : aggOf P ty with
 | none =>
  have e : loadW1 (none : Option Bool) (szOf P ty) ⟨g⟩ = ⟨noOp⟩ := rfl
  rw [e]
  show none = _
  split
  ·rename_i v hv
   split at hv
   ·split at hv
    ·simp [partL, ha] at hv
    ·cases hv
   ·cases hv
  ·rfl
 | some y =>
  cases y with
  | true =>
   cases hn : szOf P ty with
   | none =>
    have e : loadW1 (some true) none ⟨g⟩ = ⟨noOp⟩ := rfl
    rw [e]
    show none = _
    split
    ·rename_i v hv
     split at hv
     ·split at hv
      ·simp [partL, ha, hn] at hv
      ·cases hv
     ·cases hv
    ·rfl
   | some n =>
    show loadAgg n g ih t S ok pan = _
    unfold loadAgg
    rw [with2_eq, asPtrF_eq, hg]
    cases evT t x <;> try rfl
    rename_i a
    cases a with
    | none => rfl
    | some a =>
     obtain ⟨b, o, p⟩ := a
     cases p with
     | some p => rfl
     | none =>
      simp only [addrOf]
      unfold loadAggK
      rw [withO_eq, hget_eq]
      cases hb : S.get b with
      | none => rfl
      | some B =>
       cases B <;> try rfl
       simp only [cellsOfB, withO_eq, partL, ha, hn]
       cases takeN n (dropN o _) <;> rfl
  | false =>
   have e : loadW1 (some false) (szOf P ty) ⟨g⟩ = ⟨loadOne g⟩ := by cases szOf P ty <;> rfl
   rw [e]
   show loadOne g ih t S ok pan = _
   unfold loadOne
   rw [with2_eq, asPtrF_eq, hg]
   cases evT t x <;> try rfl
   rename_i a
   cases a with
   | none => rfl
   | some a =>
    obtain ⟨b, o, p⟩ := a
    cases p with
    | some p => rfl
    | none =>
     simp only [addrOf]
     unfold loadOneK
     rw [withO_eq, hget_eq]
     cases hb : S.get b with
     | none => rfl
     | some B =>
      cases B <;> try rfl
      simp only [cellsOfB, withO_eq, partL, ha]
      cases nth _ o <;> rfl
theorem ptr_none {x : Value} {k : Nat → Nat → Res3} (h : ∀ b o, x ≠ .pointer (some ⟨b, o, none⟩)) : with2 (asPtrF x) k = none := by
 rw [with2_eq, asPtrF_eq]
 cases x <;> try rfl
 rename_i a
 cases a with
 | none => rfl
 | some a =>
  obtain ⟨b, o, p⟩ := a
  cases p with
  | some p => rfl
  | none => exact absurd rfl (h b o)
theorem ptr_some (b o : Nat) (k : Nat → Nat → Res3) : with2 (asPtrF (.pointer (some ⟨b, o, none⟩))) k = k b o := rfl
theorem fieldAddrW_eq (s : TypeId) (x : Operand) (i : Nat) : Eqv P (.fieldAddr s x i) (fieldAddrW P s x i) := by
 intro ih t S ok pan
 rw [useR_read rfl]
 have hno : ∀ (h : fieldAddrV P s (evT t x) i = none), (noOp ih t S ok pan) = match readOp P (evT t) (.fieldAddr s x i) S with | some v => ok v S | none => none := by
  intro h; simp only [readOp, pureOp, h]; rfl
 unfold fieldAddrW
 split
 ·rename_i fields hu
  split
  ·rename_i f hf
   split
   ·rename_i m hsz
    cases hx : evW x with | mk g =>
    have hg := evW_get hx t
    show fieldAddrF f.offset g ih t S ok pan = _
    unfold fieldAddrF
    rw [hg]
    simp only [readOp, pureOp, fieldAddrV, hu]
    cases hv : evT t x
    case pointer a =>
     cases a with
     | none => rfl
     | some a =>
      obtain ⟨b, o, p⟩ := a
      cases p with
      | some p => rfl
      | none => simp only [hf, hsz]; rfl
    all_goals rfl
   ·rename_i hne
    refine hno ?_
    simp only [fieldAddrV, hu]
    split
    ·rename_i h1 h2; cases h1
     simp only [hf]
     first
      | done
      | (cases hm : szOf P f.type with
        | none => rfl
        | some m =>
         cases m with
         | zero => rfl
         | succ m => exact absurd hm (hne m))
    ·rfl
  ·rename_i hf
   refine hno ?_
   simp only [fieldAddrV, hu]
   split
   ·rename_i h1 h2; cases h1; simp [hf]
   ·rfl
 ·rename_i hne
  refine hno ?_
  unfold fieldAddrV
  split
  ·rename_i h1 _; exact absurd h1 (hne _)
  ·rfl
end
end Go.Cm

namespace Go.Cm
open Go
section
variable {P : Program}
theorem idxK_eq (n : Int) (len : Nat) (k : Nat → Res3) : idxK n len k = if 0 ≤ n ∧ n < len then k n.toNat else none := by
 cases n with
 | ofNat i =>
  show Bool.rec (motive := fun _ => Res3) none (k i) (Nat.blt i len) = _
  rw [PT.blt_iff]
  by_cases h : i < len
  ·rw [decide_eq_true h, if_pos ⟨by show (0 : Int) ≤ (i : Int); omega, by show (i : Int) < _; omega⟩]; rfl
  ·rw [decide_eq_false h, if_neg (fun e => h (by have : (i : Int) < _ := e.2; omega))]
 | negSucc i =>
  show none = _
  rw [if_neg (fun e => by have := e.1; omega)]
theorem indexAddrW_eq (ty : TypeId) (x i : Operand) : Eqv P (.indexAddr ty x i) (indexAddrW P ty x i) := by
 intro ih t S ok pan
 rw [useR_read rfl]
 have hno : ∀ (h : indexAddrV P ty (evT t x) (evT t i) = none), (noOp ih t S ok pan) = match readOp P (evT t) (.indexAddr ty x i) S with | some v => ok v S | none => none := by
  intro h; simp only [readOp, pureOp, h]; rfl
 unfold indexAddrW
 split
 ·rename_i len elem hu
  split
  ·rename_i n hn
   cases hx : evW x with | mk g =>
   cases hi : evW i with | mk h =>
   show indexArrF len n g h ih t S ok pan = _
   unfold indexArrF
   rw [evW_get hx, evW_get hi, with2_eq, asIntF_eq]
   simp only [readOp, pureOp, indexAddrV, hu]
   cases evT t i <;> try rfl
   rename_i k m
   simp only
   cases hv : evT t x
   case pointer a =>
    cases a with
    | none => rfl
    | some a =>
     obtain ⟨b, o, p⟩ := a
     cases p with
     | some p => rfl
     | none =>
      rw [ptr_some, idxK_eq]
      simp only [hn]
      by_cases hc : 0 ≤ m ∧ m < len
      ·rw [if_pos hc, if_pos hc]; rfl
      ·rw [if_neg hc, if_neg hc]
   all_goals rfl
  ·rename_i hn
   refine hno ?_
   simp only [indexAddrV, hu]
   split
   ·split
    ·rename_i h1 _; cases h1; simp [hn]
    ·rename_i h1 _; cases h1
    ·rfl
   ·rfl
 ·rename_i elem hu
  split
  ·rename_i n hn
   cases hx : evW x with | mk g =>
   cases hi : evW i with | mk h =>
   show indexSliceF n g h ih t S ok pan = _
   unfold indexSliceF
   rw [evW_get hx, evW_get hi, with2_eq, asIntF_eq]
   simp only [readOp, pureOp, indexAddrV, hu]
   cases evT t i <;> try rfl
   rename_i k m
   simp only [with3_eq, asSliceF_eq]
   cases hv : evT t x
   case slice a len cap =>
    cases a with
    | none => rfl
    | some a =>
     obtain ⟨b, o, p⟩ := a
     cases p with
     | some p => rfl
     | none =>
      simp only [sliceOf, idxK_eq, hn]
      by_cases hc : 0 ≤ m ∧ m < len
      ·rw [if_pos hc, if_pos hc]; rfl
      ·rw [if_neg hc, if_neg hc]
   all_goals rfl
  ·rename_i hn
   refine hno ?_
   simp only [indexAddrV, hu]
   split
   ·split
    ·rename_i h1 _; cases h1
    ·rename_i h1 _; cases h1; simp [hn]
    ·rfl
   ·rfl
 ·rename_i h1 h2
  refine hno ?_
  unfold indexAddrV
  split
  ·split
   ·rename_i h3 _; exact absurd h3 (h1 _ _)
   ·rename_i h3 _; exact absurd h3 (h2 _)
   ·rfl
  ·rfl
theorem notW_eq (ty : TypeId) (x : Operand) : Eqv P (.unOp .not ty x) (notW (evW x)) := by
 intro ih t S ok pan
 rw [useR_read rfl]
 cases hx : evW x with | mk g =>
 show notF g ih t S ok pan = _
 unfold notF
 rw [withO_eq, asBoolF_eq, evW_get hx]
 simp only [readOp, pureOp]
 cases evT t x <;> rfl
theorem extractW_eq (x : Operand) (i : Nat) : Eqv P (.extract x i) (extractW i (evW x)) := by
 intro ih t S ok pan
 rw [useR_read rfl]
 cases hx : evW x with | mk g =>
 show extractF i g ih t S ok pan = _
 unfold extractF
 rw [withO_eq, asTupF_eq, evW_get hx]
 simp only [readOp, pureOp]
 cases evT t x <;> try rfl
 simp only [withO_eq]
 cases nth _ i <;> rfl
theorem newF_eq (x : Blk) (S : St) (ok : OkK) : newF x S ok = ok (ptrTo S.size 0) ⟨S.heap.set S.size (some x), S.size + 1⟩ := by
 unfold newF
 have h : ∀ n, newAt S.heap x ok n = ok (ptrTo n 0) ⟨S.heap.set n (some x), n + 1⟩ := fun n => by
  unfold newAt; rw [hset_eq]
 cases hs : S.size with
 | zero => exact h 0
 | succ m => exact h (m + 1)
theorem allocW_eq (e : TypeId) : Eqv P (.alloc e) (allocW (zeroOf P e) e) := by
 intro ih t S ok pan
 rw [useR_new rfl]
 simp only [newOp]
 cases zeroOf P e with
 | none => rfl
 | some z =>
  show newF _ S ok = _
  rw [newF_eq]; rfl
theorem boxW_eq (e : TypeId) (x : Operand) : Eqv P (.box e x) (boxW e (evW x)) := by
 intro ih t S ok pan
 rw [useR_new rfl]
 cases hx : evW x with | mk g =>
 show boxF e g ih t S ok pan = _
 unfold boxF
 rw [newF_eq, cellsF_eq, evW_get hx]
 rfl
theorem withOmap {f : Option Value} {S : St} {ok : OkK} : (withO f fun v => ok v S) = match f with | some v => ok v S | none => none := by cases f <;> rfl
theorem mapE_eq (ρ : Operand → Value) (l : List (Nat × Operand)) : mapE ρ l = partsV ρ l := by
 induction l with
 | nil => rfl
 | cons x r ih => simp only [mapE, partsV, List.map_cons] at *; rw [ih]
theorem mapO_eq (ρ : Operand → Value) (l : List Operand) : mapO ρ l = l.map ρ := by
 induction l with
 | nil => rfl
 | cons x r ih => simp only [mapO, List.map_cons, ih]
theorem pureK_eq {op : Op} {f : (Operand → Value) → Option Value} (hk : kindOf op = .read) (h : ∀ ρ S, readOp P ρ op S = f ρ) : Eqv P op ⟨pureK f⟩ := by
 intro ih t S ok pan
 rw [useR_read hk, h]
 show (withO (f (evA t)) fun v => ok v S) = _
 rw [evA_eq]
 first | (rw [withOmap]; done) | (rw [withOmap]; cases f (evT t) <;> rfl)
theorem readK_eq {op : Op} {f : (Operand → Value) → St → Option Value} (hk : kindOf op = .read) (h : ∀ ρ S, readOp P ρ op S = f ρ S) : Eqv P op ⟨readK f⟩ := by
 intro ih t S ok pan
 rw [useR_read hk, h]
 show (withO (f (evA t) S) fun v => ok v S) = _
 rw [evA_eq]
 first | (rw [withOmap]; done) | (rw [withOmap]; cases f (evT t) S <;> rfl)
theorem newK_eq {op : Op} {f : (Operand → Value) → St → Option (Value × St)} (h : ∀ ih ρ S, stepOp P ih ρ op S = match f ρ S with | some (v, S') => some (.val v, S') | none => none) : Eqv P op ⟨newK f⟩ := by
 intro ih t S ok pan
 rw [h]
 show with2 (f (evA t) S) ok = _
 rw [evA_eq, with2_eq]
 cases f (evT t) S <;> rfl
theorem binW_eq (op : BinOp) (ty : TypeId) (x y : Operand) (yt : TypeId) : Eqv P (.binOp op ty x y yt) (binW P op ty x y yt) := by
 intro ih t S ok pan
 unfold binW
 cases hx : evW x with | mk g =>
 cases hy : evW y with | mk h =>
 have hg := evW_get hx t
 have hh := evW_get hy t
 cases hf : binFn op with
 | none => rfl
 | some f =>
  show binK1 f (slowF P (.binOp op ty x y yt) ih t S ok pan) S ok (asIntF (g t)) (asIntF (h t)) = _
  rw [hg, hh, asIntF_eq, asIntF_eq]
  have hslow : slowF P (.binOp op ty x y yt) ih t S ok pan = useR (stepOp P ih (evT t) (.binOp op ty x y yt) S) ok pan := rfl
  rw [← hslow]
  cases hvx : evT t x <;> try rfl
  rename_i k a
  cases hvy : evT t y <;> try rfl
  rename_i k' b
  show Bool.rec (motive := fun _ => Res3) none (ok (f k a b) S) (sameK k k') = _
  rw [hslow, useR_read rfl, sameK_eq]
  simp only [readOp, pureOp, hvx, hvy]
  by_cases hk : k = k'
  ·subst hk
   rw [decide_eq_true rfl]
   show ok (f k a b) S = _
   cases op <;> simp only [binFn, reduceCtorEq, Option.some.injEq] at hf <;> subst hf <;>
    simp only [binV, if_true, intBin, addI, subI, mulI, eqlI, neqI, lssI, leqI, gtrI, geqI, wrapF_eq, eqI_eq, ltI_eq] <;> first
     | rfl
     | (congr 2; simp only [bne]; done)
     | (congr 2; rw [← decide_not]; exact decide_eq_decide.2 (by omega))
  ·rw [decide_eq_false hk]
   show none = _
   cases op <;> simp only [binFn, reduceCtorEq] at hf <;> simp only [binV, if_neg hk]
theorem storeW_eq (ty : TypeId) (a x : Operand) : Eqv P (.store ty a x) (storeW (szOf P ty) (slowF P (.store ty a x)) (evW a) (evW x)) := by
 intro ih t S ok pan
 have hst : ∀ ρ, stepOp P ih ρ (.store ty a x) S = match storeV P ty (ρ a) (ρ x) S with | some S' => some (.val undef, S') | none => none := by
  intro ρ
  simp only [stepOp, kindOf, heavyOp]
  cases storeV P ty (ρ a) (ρ x) S <;> rfl
 cases hn : szOf P ty with
 | none =>
  rw [hst]
  have : storeV P ty (evT t a) (evT t x) S = none := by
   unfold storeV
   split
   ·simp [hn]
   ·rfl
  rw [this]
  rfl
 | some n =>
  cases ha : evW a with | mk g =>
  cases hx : evW x with | mk h =>
  show (with2 (asPtrF (g t)) fun b o => storeK n S b o (cellsF (h t)) (slowF P (.store ty a x) ih t S ok pan) ok) = _
  rw [evW_get ha, evW_get hx, cellsF_eq]
  by_cases hp : ∃ b o, evT t a = .pointer (some ⟨b, o, none⟩)
  ·obtain ⟨b, o, hp⟩ := hp
   rw [hp, ptr_some]
   unfold storeK
   have hslow : slowF P (.store ty a x) ih t S ok pan = useR (stepOp P ih (evT t) (.store ty a x) S) ok pan := rfl
   cases hc : (Nat.beq (cellsL (evT t x)).length n && (cellsL (evT t x)).all cellV && Nat.blt 0 (cellsL (evT t x)).length) with
   | false =>
    show none = _
    rw [hst, hp]
    simp only [storeV, hn]
    cases hb : Nat.beq (cellsL (evT t x)).length n with
    | false => rfl
    | true =>
     rw [hb, Bool.true_and] at hc
     simp only [cond_true, writeCells]
     split
     ·rename_i hx; split at hx
      ·simp only [hc, cond_false] at hx; cases hx
      ·cases hx
     ·rfl
   | true =>
    show writeB S b o _ _ ok (hget S b) = _
    rw [hget_eq]
    simp only [Bool.and_eq_true] at hc
    have hc2 : ((cellsL (evT t x)).all cellV && Nat.blt 0 (cellsL (evT t x)).length) = true := by rw [hc.1.2, hc.2]; rfl
    unfold writeB
    split
    ·rename_i c e row hb
     rw [hst, hp]
     simp only [storeV, hn, hc.1.1, cond_true, writeCells, hb, hc2, withO_eq]
     cases setN o (cellsL (evT t x)) c with
     | none => rfl
     | some c' =>
      simp only [hset_eq]
      rfl
    ·exact hslow
  ·have hne : ∀ b o, evT t a ≠ .pointer (some ⟨b, o, none⟩) := fun b o e => hp ⟨b, o, e⟩
   rw [ptr_none hne, hst]
   have : storeV P ty (evT t a) (evT t x) S = none := by
    unfold storeV
    split
    ·rename_i b o he; exact absurd he (hne b o)
    ·rfl
   rw [this]; rfl
theorem argsOf_eq (l : List Operand) (t : Tm) : argsOf (getsOf l) t = l.map (evT t) := by
 induction l with
 | nil => rfl
 | cons x r ih => simp only [getsOf, argsOf, List.map_cons, ih, evW_eq]
theorem endR_eq {r : Option (Ending × St)} {ok : OkK} {pan : PanK} : endR r ok pan = useR (match r with
  | some (.returned v, S') => some (OpR.val v, S')
  | some (.panicked ch, S') => some (.pan ch, S')
  | _ => none) ok pan := by
 cases r with
 | none => rfl
 | some x => obtain ⟨e, S⟩ := x; cases e <;> rfl
theorem callW_eq (c : Call) (hb : ∀ b, c.callee ≠ .builtin b) : Eqv P (.call c) (callW P c (.call c)) := by
 intro ih t S ok pan
 unfold callW
 split
 ·rename_i f hc
  show endR (ih.call (.fn (.func f) #[]) (argsOf (getsOf c.args.toList) t) S) ok pan = _
  rw [endR_eq, argsOf_eq]
  obtain ⟨callee, args, ts⟩ := c
  simp only at hc
  subst hc
  rfl
 ·rfl
theorem callW2_eq (c : Call) : Eqv P (.call c) (callW2 P c (.call c)) := by
 obtain ⟨callee, args, ts⟩ := c
 cases callee with
 | invoke r name => exact callW_eq _ (fun b => by simp)
 | value f => exact callW_eq _ (fun b => by simp)
 | builtin b =>
  show Eqv P _ (builtinW P b args.toList ts.toList (.call ⟨.builtin b, args, ts⟩))
  have hnew : kindOf (.call ⟨.builtin b, args, ts⟩) = .heavy → Eqv P (.call ⟨.builtin b, args, ts⟩) ⟨newK (builtinO P b ts.toList args.toList)⟩ := by
   intro hk
   refine newK_eq fun ih ρ S => ?_
   unfold stepOp
   rw [hk]
   simp only [builtinO, mapO_eq]
   cases builtinV P b ts.toList (List.map ρ args.toList) S <;> rfl
  cases b
  case len =>
   unfold builtinW
   split
   ·rename_i x t rest _ ha ht
    refine readK_eq rfl fun ρ S => ?_
    simp only [readOp, ha, ht]
    rfl
   ·exact slow_eq _
   ·rename_i h1 h2; exact absurd rfl h1
  all_goals exact hnew rfl
theorem opW_eq (op : Op) : Eqv P op (opW P op) := by
 cases op
 case move x => intro ih t S ok pan; rw [useR_read rfl]; exact moveW_eq x ih t S ok pan
 case assign x => intro ih t S ok pan; rw [useR_read rfl]; exact moveW_eq x ih t S ok pan
 case pick c a b => exact pickW_eq c a b
 case load t x => exact loadW_eq t x
 case fieldAddr s x i => exact fieldAddrW_eq s x i
 case indexAddr t x i => exact indexAddrW_eq t x i
 case binOp o t x y yt => exact binW_eq o t x y yt
 case unOp o t x => cases o <;> first | exact notW_eq t x | exact slow_eq _
 case extract x i => exact extractW_eq x i
 case alloc e => exact allocW_eq e
 case box e x => exact boxW_eq e x
 case store t a x => exact storeW_eq t a x
 case build t parts => exact pureK_eq rfl (fun ρ S => by simp only [readOp, pureOp, buildO, mapE_eq])
 case nilCheck x => exact pureK_eq rfl (fun ρ S => rfl)
 case field t x i => exact pureK_eq rfl (fun ρ S => rfl)
 case index t x i => exact pureK_eq rfl (fun ρ S => rfl)
 case slice t x lo hi mx => exact readK_eq rfl (fun ρ S => rfl)
 case buildSlice t len parts => exact newK_eq (fun ih ρ S => rfl)
 case call c => exact callW2_eq c
 all_goals exact slow_eq _
end
end Go.Cm

namespace Go.Cm
open Go
section
variable {P : Program}
def putS (n : Nat) (t : Tm) (dst : Option Tmp) (v : Value) (k : Tm → Res3) : Res3 := match Ca.put ⟨n, t, []⟩ dst v with
 | some a' => k a'.t
 | none => none
theorem putS_eq (n : Nat) (t : Tm) (df : List Deferred) (dst : Option Tmp) (v : Value) (k : Ca → Res3) : (match Ca.put ⟨n, t, df⟩ dst v with
 | some a' => k a'
 | none => none) = putS n t dst v fun t' => k ⟨n, t', df⟩ := by
 unfold putS Ca.put
 cases dst with
 | none => rfl
 | some d =>
  simp only
  cases Nat.blt d n <;> rfl
theorem plainW_eq (dst : Option Tmp) (f : OpK) (ih : Fns) (n : Nat) (t : Tm) (S : St) (k : Tm → St → Res3) (pan : PanK) :
  (plainW dst f).run ih n t S k pan = f ih t S (fun v S' => putS n t dst v fun t' => k t' S') pan := by
 cases dst with
 | none => rfl
 | some d =>
  unfold plainW
  simp only
  cases hs : (setK 8 d : SW Value 8) with | mk s =>
  show f ih t S (putK s d n t k) pan = _
  congr 1
  funext v S'
  have h := setK_eq 8 d (some v) t
  rw [hs] at h
  simp only at h
  unfold putK putS Ca.put
  rw [h]
  simp only
  cases Nat.blt d n <;> rfl
theorem plainOp_eq (dst : Option Tmp) (w : OpW) : plainOp dst w = plainW dst w.run := by cases w; rfl
theorem guardW_eq (g : GW Value 8) (w : Bool) (y z : StepW) (ih : Fns) (n : Nat) (t : Tm) (S : St) (k : Tm → St → Res3) (pan : PanK) :
  (guardW g w y z).run ih n t S k pan = bif isB (g.f t) w then y.run ih n t S k pan else z.run ih n t S k pan := by
 cases g; cases y; cases z
 rename_i g y z
 show Bool.rec (motive := fun _ => Res3) (z ih n t S k pan) (y ih n t S k pan) (isB (g t) w) = _
 cases isB (g t) w <;> rfl
theorem stepW_eq (full : List Oper) (o : Oper) (ih : Fns) (n : Nat) (t : Tm) (df : List Deferred) (S : St) (k : Tm → St → Res3) (pan : PanK) :
  (stepW P full o).run ih n t S k pan = bif wantedC full ⟨n, t, df⟩ o then useR (stepOp P ih (evT t) o.op S) (fun v S' => putS n t o.dst v fun t' => k t' S') pan else putS n t o.dst undef fun t' => k t' S := by
 have hpl : (plainOp o.dst (opW P o.op)).run ih n t S k pan = useR (stepOp P ih (evT t) o.op S) (fun v S' => putS n t o.dst v fun t' => k t' S') pan := by
  rw [plainOp_eq, plainW_eq, opW_eq]
 have hun : (plainW o.dst undefF).run ih n t S k pan = putS n t o.dst undef fun t' => k t' S := by
  rw [plainW_eq]; rfl
 unfold stepW wantedC
 cases hg : o.guard with
 | none => exact hpl
 | some q =>
  obtain ⟨j, w⟩ := q
  simp only
  cases hj : nth full j with
  | none => exact hun
  | some oj =>
   simp only
   cases hd : oj.dst with
   | none => exact hun
   | some d =>
    simp only
    rw [guardW_eq, getK_eq, hpl, hun]
    rfl
theorem runC_eq (full : List Oper) (ih : Fns) (n : Nat) (df : List Deferred) : ∀ (l : List Oper) (t : Tm) (S : St), runC ih n df (compL P full l) t S = runOps P ih full l ⟨n, t, df⟩ S
 | [], t, S => rfl
 | o :: l, t, S => by
  have e1 : compL P full (o :: l) = stepW P full o :: compL P full l := rfl
  have e2 : ∀ (w : StepW) (r : List StepW), runC ih n df (w :: r) t S = w.run ih n t S (runC ih n df r) (panA n t df) := fun w r => by cases w; rfl
  rw [e1, e2, stepW_eq (df := df)]
  unfold runOps
  have hk : runC ih n df (compL P full l) = fun t S => runOps P ih full l ⟨n, t, df⟩ S := by funext t S; exact runC_eq full ih n df l t S
  rw [hk, ca_ev]
  cases wantedC full ⟨n, t, df⟩ o with
  | false =>
   simp only [cond_false]
   exact (putS_eq n t df o.dst undef (fun a => runOps P ih full l a S)).symm
  | true =>
   simp only [cond_true]
   cases stepOp P ih (evT t) o.op S with
   | none => rfl
   | some x =>
    obtain ⟨r, S'⟩ := x
    cases r with
    | val v =>
     simp only [useR]
     exact (putS_eq n t df o.dst v (fun a => runOps P ih full l a S')).symm
    | pan ch => rfl
def entOf (P : Program) (c : Chk) (S : St) (k : Res3) : Res3 := bif c.ok P S then k else none
def entsOf (P : Program) (chk : List (Nat × Chk)) : List Ent := chk.map fun x => (x.1, entOf P x.2)
theorem lookE_eq (op : Op) (hk : kindOf op = .read) (ih : Fns) (n : Nat) (t : Tm) (df : List Deferred) (v : Value) : lookE (opW P op).run ih t v = entOf P (.read ⟨n, t, df⟩ op v) := by
 funext S k
 unfold lookE entOf
 rw [opW_eq, useR_read hk]
 simp only [Chk.ok, ca_ev]
 cases readOp P (evT t) op S with
 | none => rfl
 | some w =>
  simp only
  show Bool.rec (motive := fun _ => Res3) none k (sameV 100000 v w) = _
  cases sameV 100000 v w <;> rfl
theorem freshE_eq (c : Chk) : freshE P c = entOf P c := by
 funext S k
 unfold freshE entOf
 cases Chk.ok P S c <;> rfl
theorem keepE_eq (b : Nat) (chk : List (Nat × Chk)) : keepE b (entsOf P chk) = entsOf P (chk.filter fun x => !b.testBit x.1) := by
 induction chk with
 | nil => rfl
 | cons x r ih =>
  have e : entsOf P (x :: r) = (x.1, entOf P x.2) :: entsOf P r := rfl
  rw [e]
  unfold keepE
  simp only [List.filter_cons]
  cases hb : b.testBit x.1 with
  | true => simpa using ih
  | false => simp only [cond_false, Bool.not_false, if_true]; rw [ih]; rfl
theorem allE_eq (S : St) (k : Res3) (chk : List (Nat × Chk)) : allE S k (entsOf P chk) = bif chk.all (fun x => x.2.ok P S) then k else none := by
 induction chk with
 | nil => rfl
 | cons x r ih =>
  have e : allE S k (entsOf P (x :: r)) = entOf P x.2 S (allE S k (entsOf P r)) := rfl
  rw [e, ih]
  unfold entOf
  simp only [List.all_cons]
  cases x.2.ok P S <;> simp
theorem putOf_eq (dst : Option Tmp) (n : Nat) (t : Tm) (v : Value) (k : Tm → Res3) : putOf dst n t v k = putS n t dst v k := by
 cases dst with
 | none => rfl
 | some d =>
  unfold putOf
  simp only
  cases hs : (setK 8 d : SW Value 8) with | mk s =>
  have h := setK_eq 8 d (some v) t
  rw [hs] at h
  simp only at h
  show putD s d n t v k = _
  unfold putD putS Ca.put
  rw [h]
  simp only
  cases Nat.blt d n <;> rfl
theorem runPl_cons (w : PlW) (r : List PlW) (ih : Fns) (n : Nat) (df : List Deferred) (e : List Ent) (t : Tm) (S : St) : runPl ih n df (w :: r) e t S = w.run ih n df t S e (runPl ih n df r) := by cases w; rfl
theorem runPl_eq (full : List Oper) (bef : List Nat) (ih : Fns) (n : Nat) (df : List Deferred) : ∀ (l : List (Oper × Nat)) (chk : List (Nat × Chk)) (t : Tm) (S : St),
  runPl ih n df (compP P full bef l) (entsOf P chk) t S = runPlan P ih full bef l chk ⟨n, t, df⟩ S
 | [], chk, t, S => rfl
 | (o, i) :: l, chk, t, S => by
  have e1 : compP P full bef ((o, i) :: l) = plOpW P full ((nth bef i).getD 0) o i (opW P o.op) :: compP P full bef l := rfl
  rw [e1, runPl_cons]
  generalize hr : runPl ih n df (compP P full bef l) = rest
  have hrest : ∀ chk t S, rest (entsOf P chk) t S = runPlan P ih full bef l chk ⟨n, t, df⟩ S := fun chk t S => by rw [← hr]; exact runPl_eq full bef ih n df l chk t S
  have hun : plPlain (putOf o.dst) undefF ih n df t S (entsOf P chk) rest = putS n t o.dst undef fun t' => runPlan P ih full bef l chk ⟨n, t', df⟩ S := by
   show putOf o.dst n t undef (fun t' => rest (entsOf P chk) t' S) = _
   rw [putOf_eq]
   simp only [hrest]
  have hop : plOp P ((nth bef i).getD 0) o i (opW P o.op).run ih n df t S (entsOf P chk) rest = (match kindOf o.op with
   | .read => match readOp P (evT t) o.op S with
    | some v => match Ca.put ⟨n, t, df⟩ o.dst v with
     | some a' => runPlan P ih full bef l (bif looks o.op then (i, .read ⟨n, t, df⟩ o.op v) :: chk else chk) a' S
     | none => none
    | none => none
   | .fresh => match newOp P (evT t) o.op S with
    | some (v, S') => match Ca.put ⟨n, t, df⟩ o.dst v, chkOf S' S.size, S.get S.size with
     | some a', some c, none => runPlan P ih full bef l ((i, c) :: chk) a' S'
     | _, _, _ => none
    | none => none
   | .heavy => match stepOp P ih (evT t) o.op S with
    | some (.val v, S') => match Ca.put ⟨n, t, df⟩ o.dst v with
     | some a' =>
      let rest := chk.filter fun x => !((nth bef i).getD 0).testBit x.1
      bif rest.all fun x => x.2.ok P S' then runPlan P ih full bef l rest a' S' else none
     | none => none
    | _ => none) := by
   unfold plOp
   cases hk : kindOf o.op with
   | read =>
    simp only
    cases hl : looks o.op with
    | false =>
     show (opW P o.op).run ih t S (fun v S' => putOf o.dst n t v fun t' => rest (entsOf P chk) t' S') noPan = _
     rw [opW_eq, useR_read hk]
     cases readOp P (evT t) o.op S with
     | none => rfl
     | some v =>
      simp only [putOf_eq, hrest, cond_false]
      exact (putS_eq n t df o.dst v (fun a => runPlan P ih full bef l chk a S)).symm
    | true =>
     show (opW P o.op).run ih t S (fun v S' => putOf o.dst n t v fun t' => rest ((i, lookE (opW P o.op).run ih t v) :: entsOf P chk) t' S') noPan = _
     rw [opW_eq, useR_read hk]
     cases readOp P (evT t) o.op S with
     | none => rfl
     | some v =>
      simp only [putOf_eq, lookE_eq o.op hk ih n t df v, cond_true]
      have e2 : (i, entOf P (.read ⟨n, t, df⟩ o.op v)) :: entsOf P chk = entsOf P ((i, .read ⟨n, t, df⟩ o.op v) :: chk) := rfl
      simp only [e2, hrest]
      exact (putS_eq n t df o.dst v (fun a => runPlan P ih full bef l ((i, .read ⟨n, t, df⟩ o.op v) :: chk) a S)).symm
   | fresh =>
    simp only
    show (opW P o.op).run ih t S (fun v S' => putOf o.dst n t v fun t' => withO (chkOf S' S.size) fun c => Option.rec (motive := fun _ => Res3) (rest ((i, freshE P c) :: entsOf P chk) t' S') (fun _ => none) (hget S S.size)) noPan = _
    rw [opW_eq, useR_new hk]
    cases newOp P (evT t) o.op S with
    | none => rfl
    | some x =>
     obtain ⟨v, S'⟩ := x
     simp only [putOf_eq, freshE_eq, hget_eq]
     have e2 : ∀ c, (i, entOf P c) :: entsOf P chk = entsOf P ((i, c) :: chk) := fun _ => rfl
     simp only [e2, hrest]
     cases hck : chkOf S' S.size with
     | none =>
      refine (putS_eq n t df o.dst v (fun a => none)).symm.trans ?_
      cases Ca.put ⟨n, t, df⟩ o.dst v <;> rfl
     | some c =>
      cases hg : S.get S.size with
      | none =>
       refine (putS_eq n t df o.dst v (fun a => runPlan P ih full bef l ((i, c) :: chk) a S')).symm.trans ?_
       cases Ca.put ⟨n, t, df⟩ o.dst v <;> rfl
      | some B =>
       refine (putS_eq n t df o.dst v (fun a => none)).symm.trans ?_
       cases Ca.put ⟨n, t, df⟩ o.dst v <;> rfl
   | heavy =>
    simp only
    show (opW P o.op).run ih t S (fun v S' => putOf o.dst n t v fun t' => allE S' (rest (keepE ((nth bef i).getD 0) (entsOf P chk)) t' S') (keepE ((nth bef i).getD 0) (entsOf P chk))) noPan = _
    rw [opW_eq]
    cases stepOp P ih (evT t) o.op S with
    | none => rfl
    | some x =>
     obtain ⟨r, S'⟩ := x
     cases r with
     | pan ch => rfl
     | val v =>
      simp only [useR, putOf_eq, keepE_eq, allE_eq, hrest]
      exact (putS_eq n t df o.dst v (fun a => bif (chk.filter fun x => !((nth bef i).getD 0).testBit x.1).all (fun x => x.2.ok P S') then runPlan P ih full bef l (chk.filter fun x => !((nth bef i).getD 0).testBit x.1) a S' else none)).symm
  have hrun : ∀ w : OpW, (plOpW P full ((nth bef i).getD 0) o i w).run ih n df t S (entsOf P chk) rest =
    bif wantedC full ⟨n, t, df⟩ o then plOp P ((nth bef i).getD 0) o i w.run ih n df t S (entsOf P chk) rest else plPlain (putOf o.dst) undefF ih n df t S (entsOf P chk) rest := by
   intro w
   cases w with | mk f =>
   unfold plOpW wantedC
   simp only
   cases hg : o.guard with
   | none => rfl
   | some q =>
    obtain ⟨j, w⟩ := q
    simp only
    cases hj : nth full j with
    | none => rfl
    | some oj =>
     simp only
     cases hd : oj.dst with
     | none => rfl
     | some d =>
      simp only
      have hG : ∀ g : GW Value 8, (plGuardW g w (plOp P ((nth bef i).getD 0) o i f) (plPlain (putOf o.dst) undefF)).run ih n df t S (entsOf P chk) rest =
        bif isB (g.f t) w then plOp P ((nth bef i).getD 0) o i f ih n df t S (entsOf P chk) rest else plPlain (putOf o.dst) undefF ih n df t S (entsOf P chk) rest := by
       intro g
       cases g with | mk g =>
       show Bool.rec (motive := fun _ => Res3) _ _ (isB (g t) w) = _
       cases hb : isB (g t) w <;> rfl
      rw [hG, getK_eq]
      rfl
  rw [hrun, hop, hun]
  conv => rhs; unfold runPlan
  simp only [ca_ev]
  cases wantedC full ⟨n, t, df⟩ o with
  | false =>
   simp only [cond_false]
   exact (putS_eq n t df o.dst undef (fun a => runPlan P ih full bef l chk a S)).symm
  | true => rfl
theorem codeW_eq (ih : Fns) (ro : Option Nat) (code : Code) (a : Ca) (S : St) : (codeW P code).run ih ro a S = execF P ih ro code a S := by
 cases code with
 | skip => rfl
 | label l => rfl
 | exit id => rfl
 | ret => rfl
 | seq x y => rfl
 | loop c => rfl
 | block id c => rfl
 | scope c => rfl
 | rangeFunc f ps x y => rfl
 | goto l => rfl
 | refuse r => rfl
 | cond c x y =>
  show (condW (evW c) x y).run ih ro a S = _
  cases hc : evW c with | mk g =>
  show condK (ih.exec ro x a S) (ih.exec ro y a S) (asBoolF (g a.t)) = _
  unfold condK
  obtain ⟨n, t, df⟩ := a
  rw [withO_eq, asBoolF_eq, evW_get hc]
  simp only [execF, ca_ev]
  cases evT t c <;> try rfl
  rename_i b
  cases b <;> rfl
 | region id ops draw =>
  show (regionW P ops.toList draw).run ih ro a S = _
  unfold regionW
  simp only [execF]
  cases constsOk P ops.toList with
  | false => rfl
  | true =>
   simp only [cond_true]
   obtain ⟨n, t, df⟩ := a
   cases draw with
   | false => exact runC_eq _ _ _ _ _ _ _
   | true =>
    show (drawW P ops.toList (planW ops.toList)).run ih ro ⟨n, t, df⟩ S = runDraw P ih ops.toList ⟨n, t, df⟩ S
    unfold runDraw
    cases planW ops.toList with
    | none => rfl
    | some x =>
     obtain ⟨bf, pl⟩ := x
     exact runPl_eq ops.toList bf ih n df pl [] t S
theorem execG_eq (ih : Fns) : execG P ih = execF P ih := by
 funext ro code a S
 rw [← codeW_eq]
 show execW (codeW P code) ih ro a S = _
 cases codeW P code; rfl
theorem setArgs_eq : ∀ (l : List Value) (i : Nat) (t : Tm), setArgs i l t = PT.ofList i t l
 | [], i, t => rfl
 | v :: l, i, t => by
  have e : setArgs i (v :: l) t = setArgs (i + 1) l (appS (setK 8 i) (some v) t) := rfl
  rw [e, appS_eq, setK_eq, setArgs_eq l]
  rfl
theorem resG_eq (n : Nat) (t : Tm) (df : List Deferred) (S : St) : ∀ l, resG P t S l = resultsL P ⟨n, t, df⟩ S l
 | [] => rfl
 | .tmp x :: l => by
  unfold resG resultsL
  rw [resG_eq n t df S l, evA_eq]
  rfl
 | .cell x e :: l => by
  unfold resG resultsL
  rw [resG_eq n t df S l, evA_eq]
  rfl
theorem leaveG_eq (rs : List ResultVar) (r : Res3) : leaveG P rs r = (match r with
   | some (e, a', S') => match e with
    | .normal | .ret => match takeMarks a'.defers S' with
     | some S'' => match resultsL P a' S'' rs with
      | some [v] => some (.returned v, S'')
      | some vs => some (.returned (.tuple vs.toArray), S'')
      | none => none
     | none => none
    | .panic ch => match takeMarks a'.defers S' with
     | some S'' => some (.panicked ch, S'')
     | none => none
    | _ => none
   | none => none) := by
 cases r with
 | none => rfl
 | some x =>
  obtain ⟨e, ⟨n, t, df⟩, S⟩ := x
  have hret : retG P rs t (takeMarks df S) = (match takeMarks df S with
     | some S'' => match resultsL P ⟨n, t, df⟩ S'' rs with
      | some [v] => some (Ending.returned v, S'')
      | some vs => some (.returned (.tuple vs.toArray), S'')
      | none => none
     | none => none) := by
   cases takeMarks df S with
   | none => rfl
   | some S2 =>
    show retV S2 (resG P t S2 rs) = _
    rw [resG_eq n t df]
    simp only
    cases resultsL P ⟨n, t, df⟩ S2 rs with
    | none => rfl
    | some l => match l with
     | [] => rfl
     | [v] => rfl
     | _ :: _ :: _ => rfl
  cases e with
  | normal => exact hret
  | ret => exact hret
  | panic ch =>
   show panG ch (takeMarks df S) = _
   simp only
   cases takeMarks df S <;> rfl
  | exit id => rfl
  | goto l => rfl
  | outgrown => rfl
theorem enterG_eq (K : Known) (ih : Fns) (f : FuncId) (args : List Value) (S : St) : enterG P K ih f args S (entW P f) = enterB P K ih f args S := by
 unfold entW enterB
 cases hf : P.funcs[f]? with
 | none => rfl
 | some fn =>
  simp only
  cases hb : fn.body with
  | none => show extG (K.ext f args S) = _; cases K.ext f args S <;> rfl
  | some c =>
   simp only
   cases hn : (fn.name == "runtime.NumGoroutine") with
   | true => rfl
   | false =>
    simp only [cond_false, Bool.false_or]
    show goG P ih (maxN fn.ntmps args.length) c fn.results.toList args S = _
    unfold goG
    cases Nat.blt 256 (maxN fn.ntmps args.length) with
    | true => rfl
    | false =>
     simp only [cond_false]
     rw [leaveG_eq, setArgs_eq]
     first
      | rfl
      | (split <;> rfl)
theorem callG_eq (K : Known) (ih : Fns) : callG P K ih = callF P K ih := by
 funext target args S
 unfold callG
 split
 ·rename_i f
  simp only [callF, List.append_nil, enterF, enterG_eq]
  cases K.call f args S <;> rfl
 ·rfl
theorem fnsG_eq (K : Known) : ∀ n, fnsG P K n = fns P K n
 | 0 => rfl
 | n + 1 => by
  have e : fnsG P K (n + 1) = ⟨execG P (fnsG P K n), callG P K (fnsG P K n)⟩ := rfl
  rw [e, execG_eq, callG_eq, fnsG_eq K n]
  rfl
end
end Go.Cm

namespace Go.Cm
open Go
variable {P : Program} {w0 : Base} {K : Known}
def dcL (f : DataW Unit → Option (List Value)) : List (DataW Unit) → Option (List Value)
 | [] => some []
 | d :: r => match f d, dcL f r with
  | some a, some b => some (a ++ b)
  | _, _ => none
def dcS (f : TypeId → DataW Unit → Option (List Value)) : List Field → List (DataW Unit) → Option (List Value)
 | [], [] => some []
 | x :: fs, d :: r => match f x.type d, dcS f fs r with
  | some a, some b => some (a ++ b)
  | _, _ => none
 | _, _ => none
def contigF (P : Program) (n : Nat) : List Field → Nat → Bool
 | [], o => Nat.beq o n
 | f :: r, o => Nat.beq f.offset o && contigF P n r (o + P.cellsOf f.type)
def dc (P : Program) : Nat → TypeId → DataW Unit → Option (List Value)
 | 0, _, _ => none
 | n + 1, t, d => match P.underlying t, d with
  | some .bool, .lit (.bool b) => some [.bool b]
  | some (.int _), .lit (.int k m) => some [.int k m]
  | some .string, .lit (.string s) => some [.string ⟨s.toArray⟩]
  | some (.array m e), .agg l => bif Nat.beq (P.cellsOf t) (m * P.cellsOf e) then dcL (dc P n e) l else none
  | some (.struct fs), .agg l => bif contigF P (P.cellsOf t) fs.toList 0 then dcS (dc P n) fs.toList l else none
  | _, _ => none
theorem chunks (z : Nat) (cs : List Value) : ∀ (j k : Nat), cs.length = (k + j) * z → cs.drop (k * z) = (List.range' k j).flatMap fun i => (cs.drop (i * z)).take z
 | 0, k, h => by
  rw [List.drop_eq_nil_of_le (by rw [h]; exact Nat.le_refl _)]; rfl
 | j + 1, k, h => by
  rw [List.range'_succ, List.flatMap_cons, ← chunks z cs j (k + 1) (by rw [h]; congr 1; omega)]
  rw [show (k + 1) * z = k * z + z from Nat.succ_mul k z, ← List.drop_drop, List.take_append_drop]
theorem dcL_sound {f : DataW Unit → Option (List Value)} {g : Nat → Option (DataW Unit × List MemPlace)} {c : Nat → List Value} (hf : ∀ i d p l, g i = some (d, p) → f d = some l → c i = l) :
  ∀ (is : List Nat) (xs : List (DataW Unit × List MemPlace)) (l : List Value), is.mapM g = some xs → dcL f (xs.map (·.1)) = some l → is.flatMap c = l
 | [], xs, l, hm, hl => by
  simp only [List.mapM_nil, Option.pure_def, Option.some.injEq] at hm
  subst hm
  simp only [List.map_nil, dcL, Option.some.injEq] at hl
  subst hl
  rfl
 | i :: is, xs, l, hm, hl => by
  rw [List.mapM_cons] at hm
  obtain ⟨y, hy, hm⟩ := Option.mem_bind_iff.1 hm
  obtain ⟨ys, hys, hm⟩ := Option.mem_bind_iff.1 hm
  cases hm
  simp only [List.map_cons, dcL] at hl
  split at hl
  ·rename_i a b ha hb
   cases hl
   rw [List.flatMap_cons, dcL_sound hf is ys b hys hb, hf i y.1 y.2 a hy ha]
  ·cases hl
theorem dcS_sound {f : TypeId → DataW Unit → Option (List Value)} {g : Field → Option (DataW Unit × List MemPlace)} {cs : List Value} (hf : ∀ x d p l, g x = some (d, p) → f x.type d = some l → (cs.drop x.offset).take (P.cellsOf x.type) = l) :
  ∀ (fs : List Field) (o : Nat) (xs : List (DataW Unit × List MemPlace)) (l : List Value), contigF P cs.length fs o = true → fs.mapM g = some xs → dcS f fs (xs.map (·.1)) = some l → cs.drop o = l
 | [], o, xs, l, hc, hm, hl => by
  simp only [List.mapM_nil, Option.pure_def, Option.some.injEq] at hm
  subst hm
  simp only [List.map_nil, dcS, Option.some.injEq] at hl
  subst hl
  rw [of_nbeq hc, List.drop_length]
 | x :: fs, o, xs, l, hc, hm, hl => by
  rw [List.mapM_cons] at hm
  obtain ⟨y, hy, hm⟩ := Option.mem_bind_iff.1 hm
  obtain ⟨ys, hys, hm⟩ := Option.mem_bind_iff.1 hm
  cases hm
  simp only [contigF, Bool.and_eq_true] at hc
  simp only [List.map_cons, dcS] at hl
  split at hl
  ·rename_i a b ha hb
   cases hl
   rw [← dcS_sound hf fs _ ys b hc.2 hys hb, ← hf x y.1 y.2 a hy ha, of_nbeq hc.1, ← List.drop_drop, List.take_append_drop]
  ·cases hl
theorem dc_sound {w : World} {base : Nat} {sp : Nat → Bool} {held : Bool} : ∀ (n : Nat) (t : TypeId) (d : DataW Unit) (l cs : List Value) (fuel : Nat) (p : List MemPlace),
  DataW.trod (fun _ => ()) P w base sp held fuel t cs = some (d, p) → dc P n t d = some l → cs = l
 | 0, t, d, l, cs, fuel, p, h, hl => by cases hl
 | n + 1, t, d, l, cs, 0, p, h, hl => by simp [DataW.trod] at h
 | n + 1, t, d, l, cs, fuel + 1, p, h, hl => by
  unfold dc at hl
  split at hl
  ·rename_i b hu
   cases hl
   simp only [DataW.trod, hu] at h
   split at h <;> simp_all
  ·rename_i k m hu
   cases hl
   simp only [DataW.trod, hu] at h
   split at h <;> simp_all
  ·rename_i s hu
   cases hl
   simp only [DataW.trod, hu] at h
   split at h <;> simp_all
   obtain ⟨_, rfl, _⟩ := h
   rfl
  ·rename_i m e ds hu
   cases hb : Nat.beq (P.cellsOf t) (m * P.cellsOf e) with
   | false => rw [hb] at hl; cases hl
   | true =>
    rw [hb] at hl
    simp only [cond_true] at hl
    have hsz := of_nbeq hb
    simp only [DataW.trod, hu] at h
    split at h
    ·rename_i hlen
     obtain ⟨xs, hm, hx⟩ := Option.map_eq_some_iff.1 h
     have hds : xs.map (·.1) = ds := by
      have := congrArg Prod.fst hx
      simpa using this
     rw [← hds] at hl
     have := dcL_sound (c := fun i => (cs.drop (i * P.cellsOf e)).take (P.cellsOf e)) (fun i d p l h1 h2 => dc_sound n e d l _ fuel p h1 h2) _ _ _ hm hl
     rw [← this, List.range_eq_range']
     have h2 := chunks (P.cellsOf e) cs m 0 (by rw [hlen, hsz, Nat.zero_add])
     rw [Nat.zero_mul, List.drop_zero] at h2
     exact h2
    ·cases h
  ·rename_i fs ds hu
   cases hb : contigF P (P.cellsOf t) fs.toList 0 with
   | false => rw [hb] at hl; cases hl
   | true =>
    rw [hb] at hl
    simp only [cond_true] at hl
    simp only [DataW.trod, hu] at h
    split at h
    ·rename_i hlen
     obtain ⟨xs, hm, hx⟩ := Option.map_eq_some_iff.1 h
     have hds : xs.map (·.1) = ds := by
      have := congrArg Prod.fst hx
      simpa using this
     rw [← hds] at hl
     have := dcS_sound (cs := cs) (fun x d p l h1 h2 => dc_sound n x.type d l _ fuel p h1 h2) _ 0 xs l (by rw [hlen]; exact hb) hm hl
     rw [List.drop_zero] at this
     exact this
    ·cases h
  ·cases hl
theorem laid_cells {W : World} : ∀ (laid : List (String × DataW Unit)) (ps : List MemPlace), DataW.LaidVars P W laid ps → ∀ n d, (n, d) ∈ laid → ∀ g t k l, P.globalNamed n = some g → (P.globals[g]?).map (·.type) = some t → dc P k t d = some l →
  ∃ (arr : Array Value) (e : TypeId) (fz : Nat × Nat), W.heap[g]? = some (.cells arr e fz) ∧ arr.toList = l
 | [], ps, h, n, d, hm, g, t, k, l, hg, ht, hl => by cases hm
 | (m, d') :: laid, ps, h, n, d, hm, g, t, k, l, hg, ht, hl => by
  obtain ⟨g', t', cs, fuel, p, q, h1, h2, h3, h4, h5, _⟩ := h
  rcases List.mem_cons.1 hm with he | he
  ·obtain ⟨rfl, rfl⟩ := Prod.mk.inj he
   obtain rfl := Option.some.inj (hg.symm.trans h1)
   obtain rfl := Option.some.inj (ht.symm.trans h2)
   have := dc_sound k t _ l cs.toList fuel p h4 hl
   unfold World.var? at h3
   rw [hg] at h3
   simp only [Option.bind_some] at h3
   split at h3
   ·rename_i arr e fz hh
    cases h3
    exact ⟨_, _, _, hh, this⟩
   ·cases h3
  ·exact laid_cells laid q h5 n d he g t k l hg ht hl
def startH : List (Nat × List Value) → Heap
 | [] => Heap.nil
 | (g, l) :: r => (startH r).set g (some (.cells l 0 false false []))
def startS (G : List (Nat × List Value)) (n : Nat) : St := ⟨startH G, n⟩
theorem start_get (n : Nat) : ∀ (G : List (Nat × List Value)) (b : Nat) (B : Blk), (startS G n).get b = some B → ∃ l, (b, l) ∈ G ∧ B = .cells l 0 false false []
 | [], b, B, h => by
  simp only [startS, startH, St.get, Heap.get_nil] at h
  cases h
 | (g, l) :: G, b, B, h => by
  simp only [startS, startH, St.get, Heap.get_set_any] at h
  split at h
  ·rename_i he
   cases h
   exact ⟨l, by rw [he]; simp, rfl⟩
  ·obtain ⟨l', h1, h2⟩ := start_get n G b B h
   exact ⟨l', by simp [h1], h2⟩
def startR (n : Nat) (W : World) : Rmap := fun g => if g < n then some ⟨g, 0, match W.heap[g]? with | some (.cells arr _ _) => arr.size | _ => 0, 0⟩ else none
theorem start_sim {W : World} {G : List (Nat × List Value)} (hn : P.globals.size ≤ W.heap.size) (hG : ∀ g l, (g, l) ∈ G → ∃ (arr : Array Value) (e : TypeId) (fz : Nat × Nat), W.heap[g]? = some (.cells arr e fz) ∧ arr.toList = l)
  (hf : ∀ g l, (g, l) ∈ G → ∀ v ∈ l, flatV flatN v = true) : Sim P ⟨W, fun _ => false⟩ (startR P.globals.size W) (startS G P.globals.size) W := by
 refine ⟨Nat.le_refl _, fun _ _ => rfl, rfl, rfl, fun b L hb => ?_, fun b L B hb hB => ?_, fun b L B hb hB hm => ?_, fun g hg => ?_, fun b hb => by cases hb⟩
 ·unfold startR at hb
  split at hb
  ·rename_i hlt
   cases hb
   exact ⟨hlt, Nat.lt_of_lt_of_le hlt hn⟩
  ·cases hb
 ·obtain ⟨l, hl, rfl⟩ := start_get _ G b B hB
  obtain ⟨arr, e, fz, h1, h2⟩ := hG b l hl
  unfold startR at hb
  split at hb
  ·cases hb
   simp only [h1]
   refine ⟨arr, e, fz, rfl, rfl, fun i v hv => ⟨v, ?_, (flatV_spec _ _ (hf b l hl v (List.mem_of_getElem? hv))).refl _⟩, (fun h => nomatch h), (fun h => nomatch h), fun _ => ⟨rfl, rfl, by rw [← h2]; simp⟩, fun _ h => absurd rfl h⟩
   rw [Nat.zero_add, ← Array.getElem?_toList, h2]
   exact hv
  ·cases hb
 ·obtain ⟨l, hl, rfl⟩ := start_get _ G b B hB
  cases hm
 ·unfold startR
  rw [if_pos hg]
  exact ⟨_, rfl, rfl, rfl⟩
end Go.Cm

