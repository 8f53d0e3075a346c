/-
  CM, part 20: regions that draw their order: every order; all fuels.
-/
import Derived.Test.YtfoonohjjeofhaaGreatDoorCmDraw2
namespace Go.Cm
open Go
variable {P : Program} {w0 : Base} {K : Known}

section
variable {ih : Fns} {e : Exit} {a1 : Ca} {S1 : St} {ρ0 : Rmap} {Ls : Nat → Prop} {ar : Act} {w : World}
  {pend : List Pn} {rest : List (Oper × Nat)} {chk : List (Nat × Chk)} {a : Ca} {S : St} {A : Ca} {no : Nat → Bool} {ρ : Rmap} {done : Nat}

theorem agree_ready {full : List Oper} (h : Inv P ih full e a1 S1 w0 ρ0 Ls ar w pend rest chk a S A no ρ done) {q : Pn} (hq : q ∈ pend) (hready : ∀ b, (bef full q.i).testBit b = true → Ls b) :
    ∀ t ∈ opTmps full q.o, A.get t = q.a.get t := fun t ht => h.pagree q hq t ht fun j hj hb => absurd (hready _ hb) (h.pnl j hj)

theorem step_read {f : Operand → Value} {op : Op} {S : St} {v : Value} (hk : kindOf op = .read) (h : readOp P f op S = some v) : stepOp P ih f op S = some (.val v, S) := by
  unfold stepOp
  rw [hk]
  simp [h]

theorem hno_none {q : Pn} (hb : q.b = none) : ∀ x, no x = true ↔ no x = true ∧ q.b ≠ some x := fun x => by simp [hb]

theorem pend_step {ops : Array Oper} (hih : ∀ no, FnsSound P ⟨w0.toWorld, no⟩ ih) (hP : pairsOk ops.toList (befores ops.toList []) ops.toList.zipIdx = true) (hC : constsOk P ops.toList = true)
    (h : Inv P ih ops.toList e a1 S1 w0 ρ0 Ls ar w pend rest chk a S A no ρ done) {q : Pn} (hq : q ∈ pend) (hready : ∀ b, (bef ops.toList q.i).testBit b = true → Ls b) {ro : Option Nat}
    {Kn : Act → World → Prop} {Q : Exit → Act → World → Prop}
    (hK : ∀ ar' w' A' no' ρ', Inv P ih ops.toList e a1 S1 w0 ρ0 (fun x => Ls x ∨ x = q.i) ar' w' (pend.filter fun x => !(x.i == q.i)) rest chk a S A' no' ρ' done → Kn ar' w') :
    if Region.wanted q.o (yielded ops ar.tmps) then q.o.wpIn (FW ro) 0 P ar w Kn Q else (∀ f, q.o.about P w ar.eval = some f → (FW ro).fn f) ∧ Kn (ar.put q.o.dst undef) w := by
  have hag := agree_ready h hq hready
  rw [← wanted_sound h.act (o := q.o), wantedC_congr hag]
  have hqi := h.pmem q hq
  have hoc : OpC P q.o := constsOk_spec hC q.o (List.mem_of_getElem? hqi)
  have hev : ∀ x, x ∈ q.o.op.operands → VR ρ (q.a.ev x) (ar.eval x) := fun x hx => by
    rw [← ev_congr hag x hx]; exact h.act.evs h.sim hoc x hx
  obtain ⟨a', hput⟩ := h.pput q hq
  obtain ⟨A', hputA⟩ := put_some hput (b := A) (by rw [h.An.1, h.pn q hq]) q.v
  cases h.pok q hq with
  | skip hw hv hb =>
    rw [hw]
    simp only [Bool.false_eq_true, if_false]
    refine ⟨about_wide, hK _ _ A' no ρ (h.drop hP hq hready hputA (hno_none hb) (Ext.refl _) h.sim (h.act.put hputA ?_))⟩
    rw [hv]; exact VR.undef _
  | read hw hk hr hc hb =>
    rw [hw]
    simp only [if_true]
    refine ⟨about_wide, step_sound (hih _) h.sim hev (step_read (ih := ih) hk hr) ⟨?_, ?_⟩⟩
    · intro v hv ρ' v' w' h1 h2 h3
      cases hv
      exact hK _ _ A' no ρ' (h.drop hP hq hready hputA (hno_none hb) h1 h3 ((h.act.mono h1).put hputA h2))
    · intro c hc; cases hc
  | fresh hw hk hb hv hB hc hcb hno hrun =>
    rename_i B mk b c
    rw [hw]
    simp only [if_true]
    refine ⟨about_wide, ?_⟩
    have hd : ∀ c, q.o.op ≠ .defer c := fun c hc => by rw [hc] at hk; simp [kindOf] at hk
    rw [Oper.semAt_eq _ _ _ hd]
    obtain ⟨ob, L, v', h1, h2, h3, h4⟩ := hrun ρ ar.eval w hev
    rw [h1]
    show Kn (ar.put q.o.dst v') (w.alloc ob)
    have hno' : ∀ x, (no x && !(x == b)) = true ↔ no x = true ∧ q.b ≠ some x := by
      intro x
      rw [hb]
      simp only [Bool.and_eq_true, Bool.not_eq_true', beq_eq_false_iff_ne, ne_eq, Option.some.injEq]
      constructor <;> (rintro ⟨h1, h2⟩; exact ⟨h1, fun h => h2 h.symm⟩)
    obtain ⟨k1, k2⟩ := h.sim.born (no' := fun x => no x && !(x == b)) hno hB (fun x hx => ⟨((hno' x).1 hx).1, fun he => ((hno' x).1 hx).2 (by rw [hb, he])⟩) h2 h3
    refine hK _ _ A' _ _ (h.drop hP hq hready hputA hno' k1 k2 ((h.act.mono k1).put hputA ?_))
    rw [hv]
    exact h4 _ _ (upd_same _ _ _)

theorem head_step {ops : Array Oper} (hih : ∀ no, FnsSound P ⟨w0.toWorld, no⟩ ih) (hP : pairsOk ops.toList (befores ops.toList []) ops.toList.zipIdx = true) (hC : constsOk P ops.toList = true)
    {o : Oper} {i : Nat} {r : List (Oper × Nat)} (h : Inv P ih ops.toList e a1 S1 w0 ρ0 Ls ar w pend ((o, i) :: r) chk a S A no ρ done) (hready : ∀ b, (bef ops.toList i).testBit b = true → Ls b) {ro : Option Nat}
    (hw : wantedC ops.toList a o = true) (hk : kindOf o.op = .heavy) {Kn : Act → World → Prop} {Q : Exit → Act → World → Prop}
    (hK : ∀ ar' w' chk' a' S' A' ρ' done', Inv P ih ops.toList e a1 S1 w0 ρ0 (fun x => Ls x ∨ x = i) ar' w' pend r chk' a' S' A' no ρ' done' → Kn ar' w') :
    if Region.wanted o (yielded ops ar.tmps) then o.wpIn (FW ro) 0 P ar w Kn Q else (∀ f, o.about P w ar.eval = some f → (FW ro).fn f) ∧ Kn (ar.put o.dst undef) w := by
  obtain ⟨hd, hbf, _, hpl⟩ := planOk_cons h.plan
  have hi : ops.toList[i]? = some o := h.mem (o, i) (by simp)
  have hnd : ¬ (done.testBit i = true) := by rw [hd]; simp
  have hag : ∀ t ∈ opTmps ops.toList o, A.get t = a.get t := by
    refine fun t ht => h.agree t fun q hq he => ?_
    have hpi : q.i ≠ i := fun e => hnd ((h.don i).2 (.inr ⟨q, hq, e⟩))
    rcases (pair_sep hP (h.pmem q hq) hi hpi).1 t he ht with h1 | h1
    · exact h.pnl q hq (hready _ h1)
    · exact hnd (h.pbef q hq i h1)
  have hoc : OpC P o := constsOk_spec hC o (List.mem_of_getElem? hi)
  have hev : ∀ x, x ∈ o.op.operands → VR ρ (a.ev x) (ar.eval x) := fun x hx => by
    rw [← ev_congr hag x hx]; exact h.act.evs h.sim hoc x hx
  rw [← wanted_sound h.act (o := o), wantedC_congr hag, hw]
  simp only [if_true]
  have hr := h.run
  unfold runPlan at hr
  rw [hw, hk] at hr
  simp only [cond_true] at hr
  split at hr
  · rename_i v S' hst
    split at hr
    · rename_i a' hput
      obtain ⟨A', hputA⟩ := put_some hput (b := A) h.An.1 v
      cases hall : (chk.filter fun x => !((nth (befores ops.toList []) i).getD 0).testBit x.1).all (fun x => x.2.ok P S') with
      | false => rw [hall] at hr; cases hr
      | true =>
        rw [hall] at hr
        simp only [cond_true] at hr
        rw [List.all_eq_true] at hall
        refine ⟨about_wide, step_sound (hih _) h.sim hev hst ⟨?_, ?_⟩⟩
        · intro v2 hv ρ' v' w' h1 h2 h3
          cases hv
          exact hK _ _ _ a' S' A' ρ' _ (h.head hP hready hput hputA hr hall h1 h3 ((h.act.mono h1).put hputA h2))
        · intro c hc; cases hc
    · cases hr
  · cases hr

end

theorem ready_iff {ops : Array Oper} {listed : Array Bool} {i : Nat} : i ∈ Region.ready .any ops listed ↔ i < ops.size ∧ listed.getD i true = false ∧ ∃ o, ops.toList[i]? = some o ∧ ∀ e ∈ o.after.toList, Region.binds .any e = true → listed.getD e.on false = true := by
  unfold Region.ready
  simp only [List.mem_filter, List.mem_range, Bool.and_eq_true, Bool.not_eq_true']
  refine and_congr_right fun hi => and_congr_right fun _ => ?_
  have hg : ops[i]? = some ops[i] := Array.getElem?_eq_getElem hi
  rw [Array.getElem?_toList, hg]
  simp only [Option.map_some, Option.getD_some, Option.some.injEq, exists_eq_left']
  rw [← Array.all_toList, List.all_eq_true]
  refine forall_congr' fun e => forall_congr' fun _ => ?_
  cases Region.binds .any e <;> simp

theorem getD_lt {l : Array Bool} {i : Nat} (h : i < l.size) (b c : Bool) : l.getD i b = l.getD i c := by
  rw [Array.getD_eq_getD_getElem?, Array.getD_eq_getD_getElem?, Array.getElem?_eq_getElem h]; rfl

theorem done_sound {ih : Fns} {ops : Array Oper} (hP : pairsOk ops.toList (befores ops.toList []) ops.toList.zipIdx = true)
    {e : Exit} {a1 : Ca} {S1 : St} {ρ0 : Rmap} {Q : Exit → Act → World → Prop} (hQ : ∀ e' ar' w', ExitGood P w0 ρ0 e a1 S1 e' ar' w' → Q e' ar' w') {Ls : Nat → Prop}
    {ar : Act} {w : World} {pend : List Pn} {rest : List (Oper × Nat)} {chk : List (Nat × Chk)} {a : Ca} {S : St} {A : Ca} {no : Nat → Bool} {ρ : Rmap} {done : Nat}
    (h : Inv P ih ops.toList e a1 S1 w0 ρ0 Ls ar w pend rest chk a S A no ρ done) (hall : ∀ i, i < ops.size → Ls i) : Q .normal ar w := by
  obtain ⟨pend, rest, chk, a, S, no, done, h, hlen, hhead⟩ := h.absorb hP
  have hp : pend = [] := by
    refine List.eq_nil_iff_forall_not_mem.2 fun q hq => h.pnl q hq (hall q.i ?_)
    have := (List.getElem?_eq_some_iff.1 (h.pmem q hq)).1
    simpa using this
  have hr : rest = [] := by
    cases rest with
    | nil => rfl
    | cons x r =>
      obtain ⟨o, i⟩ := x
      have hi := (List.getElem?_eq_some_iff.1 (h.mem (o, i) (by simp))).1
      have := (planOk_cons h.plan).1
      rw [(h.don i).2 (.inl (hall i (by simpa using hi)))] at this
      cases this
  subst hp hr
  have hrun := h.run
  simp only [runPlan, Option.some.injEq, Prod.mk.injEq] at hrun
  obtain ⟨rfl, rfl, rfl⟩ := hrun
  refine hQ _ _ _ ⟨ρ, h.ext, .normal, ⟨by rw [← h.An.1]; exact h.act.le, ⟨by rw [← h.An.1]; exact h.act.tm.1, fun t => ?_⟩, by rw [← h.An.2]; exact h.act.df⟩, ?_⟩
  · have := h.act.tm.2 t
    rw [← get_eq, h.agree t (fun q hq => by cases hq)] at this
    exact this
  · have e1 : no = w0.no := by
      funext x
      have := h.bno x
      simp only [List.not_mem_nil, false_and, exists_false, or_false] at this
      cases h1 : no x <;> cases h2 : w0.no x <;> simp_all
    have := h.sim
    rw [e1] at this
    exact this

/-- how many are not listed yet -/
def unl (n : Nat) (listed : Array Bool) : Nat := ((List.range n).filter fun x => !(listed.getD x false)).length
theorem unl_lt {n : Nat} {listed : Array Bool} {i : Nat} (hi : i < n) (hs : listed.size = n) (hl : listed.getD i false = false) : unl n (listed.setIfInBounds i true) < unl n listed := by
  unfold unl
  have hset : ∀ x, (listed.setIfInBounds i true).getD x false = (listed.getD x false || x == i) := by
    intro x
    rw [Array.getD_eq_getD_getElem?, Array.getElem?_setIfInBounds]
    by_cases e : i = x
    · subst e; simp [hs, hi]
    · rw [if_neg e, ← Array.getD_eq_getD_getElem?]
      have : (x == i) = false := by simpa using fun h : x = i => e h.symm
      rw [this, Bool.or_false]
  have e1 : ((List.range n).filter fun x => !((listed.setIfInBounds i true).getD x false)) = (((List.range n).filter fun x => !(listed.getD x false)).filter fun x => !(x == i)) := by
    rw [List.filter_filter]
    refine List.filter_congr fun x _ => ?_
    rw [hset, Bool.not_or, Bool.and_comm]
  rw [e1]
  exact List.length_filter_lt_length_iff_exists.2 ⟨i, List.mem_filter.2 ⟨List.mem_range.2 hi, by rw [hl]; rfl⟩, by simp⟩

theorem any_sound {ih : Fns} {ops : Array Oper} (hih : ∀ no, FnsSound P ⟨w0.toWorld, no⟩ ih) (hE : edgesOk ops.toList.zipIdx = true) (hP : pairsOk ops.toList (befores ops.toList []) ops.toList.zipIdx = true) (hC : constsOk P ops.toList = true)
    {e : Exit} {a1 : Ca} {S1 : St} {ρ0 : Rmap} {ro : Option Nat} {Q : Exit → Act → World → Prop} (hQ : ∀ e' ar' w', ExitGood P w0 ρ0 e a1 S1 e' ar' w' → Q e' ar' w') :
    ∀ (fuel : Nat) (listed : Array Bool) (ar : Act) (w : World) (pend : List Pn) (rest : List (Oper × Nat)) (chk : List (Nat × Chk)) (a : Ca) (S : St) (A : Ca) (no : Nat → Bool) (ρ : Rmap) (done : Nat),
      Inv P ih ops.toList e a1 S1 w0 ρ0 (fun x => listed.getD x false = true) ar w pend rest chk a S A no ρ done → listed.size = ops.size → unl ops.size listed ≤ fuel →
      wpAnyIn (FW ro) 0 P .any ops Q fuel listed ar w := by
  intro fuel
  induction fuel with
  | zero =>
    intro listed ar w pend rest chk a S A no ρ done h hsz hle
    have hall : ∀ i, i < ops.size → listed.getD i false = true := by
      intro i hi
      cases hl : listed.getD i false with
      | true => rfl
      | false =>
        have := unl_lt hi hsz hl
        omega
    refine ⟨List.eq_nil_iff_forall_not_mem.2 fun i hi => ?_, done_sound hP hQ h hall⟩
    obtain ⟨h1, h2, _⟩ := ready_iff.1 hi
    rw [getD_lt (by omega) true false, hall i h1] at h2
    cases h2
  | succ fuel ihf =>
    intro listed ar w pend rest chk a S A no ρ done h hsz hle
    obtain ⟨pend, rest, chk, a, S, no, done, h, hlen, hhead⟩ := h.absorb hP
    refine ⟨fun hnil => ?_, fun i hi => ?_⟩
    · have hall : ∀ i, i < ops.size → listed.getD i false = true := by
        intro i
        induction i using Nat.strongRecOn with
        | ind i ihi =>
          intro hi
          cases hl : listed.getD i false with
          | true => rfl
          | false =>
            have : i ∈ Region.ready .any ops listed := by
              refine ready_iff.2 ⟨hi, by rw [getD_lt (by omega) true false]; exact hl, ops[i], by rw [Array.getElem?_toList]; exact Array.getElem?_eq_getElem hi, fun e he hb => ?_⟩
              have hlt := edges_lt hE (by rw [Array.getElem?_toList]; exact Array.getElem?_eq_getElem hi) e he hb
              exact ihi e.on hlt (by omega)
            rw [hnil] at this
            cases this
      exact done_sound hP hQ h hall
    · obtain ⟨hi1, hi2, o, ho, hed⟩ := ready_iff.1 hi
      have hready : ∀ b, (bef ops.toList i).testBit b = true → listed.getD b false = true := by
        intro b hb
        obtain ⟨e, he, hbn, hx⟩ := (bits_spec hE ho b).1 hb
        have h1 := hed e he hbn
        rcases hx with rfl | hx
        · exact h1
        · exact h.cls _ h1 b hx
      have hset : ∀ x, (listed.setIfInBounds i true).getD x false = true ↔ listed.getD x false = true ∨ x = i := by
        intro x
        rw [Array.getD_eq_getD_getElem?, Array.getElem?_setIfInBounds]
        by_cases e : i = x
        · subst e; simp [hsz, hi1]
        · rw [if_neg e, ← Array.getD_eq_getD_getElem?]
          constructor
          · exact .inl
          · rintro (h | h)
            · exact h
            · exact absurd h.symm e
      have hLs : (fun x => (listed.setIfInBounds i true).getD x false = true) = fun x => listed.getD x false = true ∨ x = i := funext fun x => propext (hset x)
      have ho' : ops[i]? = some o := by rw [← Array.getElem?_toList]; exact ho
      unfold wpOpIn
      rw [ho']
      simp only
      have hnl : ¬ (listed.getD i false = true) := by rw [← getD_lt (by omega) true false, hi2]; simp
      rcases planOk_all _ _ h.plan i (by simpa using hi1) with h3 | ⟨o', h3⟩
      · rcases (h.don i).1 h3 with h4 | ⟨q, hq, rfl⟩
        · exact absurd h4 hnl
        · have e1 : o = q.o := by
            have := h.pmem q hq
            rw [ho] at this
            exact Option.some.inj this
          subst e1
          refine pend_step hih hP hC h hq hready fun ar' w' A' no' ρ' h' => ?_
          rw [← hLs] at h'
          refine ihf _ _ _ _ _ _ _ _ _ _ _ _ h' (by simp [hsz]) ?_
          have := unl_lt hi1 hsz (by rw [← getD_lt (by omega) true false]; exact hi2)
          omega
      · cases rest with
        | nil => cases h3
        | cons x r =>
          obtain ⟨p, k⟩ := x
          obtain ⟨hw, hk⟩ := hhead p k r rfl
          obtain ⟨hd, hbf, hhv, hpl⟩ := planOk_cons h.plan
          rcases List.mem_cons.1 h3 with h4 | h4
          · cases h4
            have e1 : o = o' := by
              have := h.mem (o', i) (by simp)
              simp only at this
              rw [ho] at this
              exact Option.some.inj this
            subst e1
            refine head_step hih hP hC h hready hw hk fun ar' w' chk' a' S' A' ρ' done' h' => ?_
            rw [← hLs] at h'
            refine ihf _ _ _ _ _ _ _ _ _ _ _ _ h' (by simp [hsz]) ?_
            have := unl_lt hi1 hsz (by rw [← getD_lt (by omega) true false]; exact hi2)
            omega
          · have h5 := hready k (hhv hk _ h4)
            have : done.testBit k = true := (h.don k).2 (.inl h5)
            rw [hd] at this
            cases this

theorem draw_sound {ih : Fns} (hm : P.follows .mixedOrders = true) (hih : ∀ no, FnsSound P ⟨w0.toWorld, no⟩ ih) : DrawSound P w0 ih := by
  intro id ops a S e a1 S1 h hC ro ρ w ar hs ha
  unfold runDraw at h
  split at h
  · rename_i bf pl hpl
    unfold planW at hpl
    cases hg : (regionOk ops.toList && planOk ops.toList (befores ops.toList []) (planOf ops.toList) 0) with
    | false => simp only [hg, cond_false] at hpl; cases hpl
    | true =>
      simp only [hg, cond_true, Option.some.injEq, Prod.mk.injEq] at hpl
      obtain ⟨rfl, rfl⟩ := hpl
      simp only [Bool.and_eq_true] at hg
      obtain ⟨hreg, hplan⟩ := hg
      simp only [regionOk, Bool.and_eq_true] at hreg
      obtain ⟨⟨hE, hP⟩, _⟩ := hreg
      refine wpIn_region_any hm ?_
      have hlist : ∀ x, ¬ ((Array.replicate ops.size false).getD x false = true) := by
        intro x
        rw [Array.getD_eq_getD_getElem?, Array.getElem?_replicate]
        split <;> simp
      refine any_sound hih hE hP hC (fun _ _ _ h => h) ops.size _ ar _ [] (planOf ops.toList) [] a S a w0.no ρ 0 ?_ (by simp) (by unfold unl; refine Nat.le_trans (List.length_filter_le ..) (by simp))
      refine ⟨h, hplan, planOf_mem, fun x => by simp [hlist], fun j hj => absurd hj (hlist j), fun q hq => (by cases hq), fun q hq => (by cases hq), fun q hq => (by cases hq), fun q hq => (by cases hq), fun q hq => (by cases hq),
        fun q hq => (by cases hq), fun q hq => (by cases hq), ⟨rfl, rfl⟩, fun _ _ => rfl, fun q hq => (by cases hq), fun q hq => (by cases hq), fun q hq => (by cases hq), fun x => by simp, fun q hq => (by cases hq), fun q hq => (by cases hq),
        Ext.refl _, hs.same rfl rfl rfl, ha⟩
  · cases h

theorem fns_sound {W : World} (hm : P.follows .mixedOrders = true) (hK : KnownSound P K W) : ∀ (n m : Nat), m ≤ n → ∀ no, FnsSound P ⟨W, no⟩ (fns P K m) := by
  intro n
  induction n with
  | zero =>
    intro m hle no
    have : m = 0 := by omega
    subst this
    exact ⟨(fun t args S e S' h => by cases h), (fun ro c a S e a' S' h => by cases h)⟩
  | succ n ihn =>
    intro m hle no
    rcases Nat.lt_or_ge m (n + 1) with h1 | h1
    · exact ihn m (by omega) no
    · have : m = n + 1 := by omega
      subst this
      exact ⟨callF_sound (ihn n (Nat.le_refl _) no) hK, exec_sound (fun m hm => ihn m hm no) (draw_sound hm (ihn n (Nat.le_refl _))) (range_sound (ihn n (Nat.le_refl _) no))⟩

end Go.Cm
