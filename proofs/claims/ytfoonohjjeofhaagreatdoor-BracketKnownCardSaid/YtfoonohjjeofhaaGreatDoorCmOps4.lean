/-
  CM, part 7: one operation that touches no memory, one that reads, one that makes.
-/
import Derived.Test.YtfoonohjjeofhaaGreatDoorCmOps3
namespace Go.Cm
open Go
variable {P : Program} {w0 : Base}

theorem nilCheck_sound {ρ : Rmap} {x x' v : Value} (h : nilCheckV x = some v) (hx : VR ρ x x') : v = x ∧ (∀ t, x' ≠ .pointer none ∧ x' ≠ .nilIface ∧ x' ≠ .nilFunc ∧ ∀ a b, x' ≠ .func (.method t) a b) := by
  unfold nilCheckV at h
  split at h <;> first
    | (cases h; done)
    | (cases h; refine ⟨rfl, fun t => ?_⟩; cases hx <;> simp)

theorem VRs.mapOps {ρ : Rmap} {f g : Operand → Value} : ∀ (l : List Operand), (∀ x, x ∈ l → VR ρ (f x) (g x)) → VRs ρ (l.map f) (l.map g)
  | [], _ => VRs.nil
  | x :: l, h => VRs.cons (h x (by simp)) (VRs.mapOps l fun y hy => h y (by simp [hy]))

theorem map_mk (l : Array Operand) (g : Operand → Value) : l.map g = ⟨l.toList.map g⟩ := by
  apply Array.ext'
  simp

theorem pure_sound {ρ : Rmap} {o : Oper} {f g : Operand → Value} (hev : ∀ x, x ∈ o.op.operands → VR ρ (f x) (g x)) {v : Value} (h : pureOp P f o.op = some v) (w : World) :
    ∃ v', (execOp g o).run P w = .ok (.value v') w ∧ VR ρ v v' := by
  cases ho : o.op <;> rw [ho] at h hev <;> simp only [pureOp] at h
  case move x => cases h; exact ⟨_, by simp [execOp, ho], hev x (by simp [Op.operands])⟩
  case assign x => cases h; exact ⟨_, by simp [execOp, ho], hev x (by simp [Op.operands])⟩
  case pick c a b =>
    have hc := hev c (by simp [Op.operands])
    have ha := hev a (by simp [Op.operands])
    have hb := hev b (by simp [Op.operands])
    split at h
    · rename_i t ht
      cases h
      rw [ht] at hc
      have hg : g c = .bool t := by
        generalize g c = y at hc ⊢
        cases hc; rfl
      refine ⟨if t then g a else g b, by simp [execOp, ho, hg, asBool], ?_⟩
      cases t
      · exact hb
      · exact ha
    · cases h
  case build t parts =>
    have hp : PartsR ρ (partsV f parts.toList) (parts.map fun (i, x) => (i, g x)).toList := by
      refine ⟨by simp [partsV], ?_⟩
      simp only [partsV, List.map_map, Array.toList_map]
      have := VRs.mapOps (ρ := ρ) (f := f) (g := g) (parts.toList.map (·.2)) (fun x hx => hev x (by simpa [Op.operands] using hx))
      simpa [List.map_map, Function.comp_def] using this
    obtain ⟨v', a, b⟩ := build_sound h hp w
    exact ⟨v', by simp [execOp, ho, a], b⟩
  case nilCheck x =>
    have hx := hev x (by simp [Op.operands])
    obtain ⟨rfl, hn⟩ := nilCheck_sound h hx
    refine ⟨g x, ?_, hx⟩
    simp only [execOp, ho]
    have h1 := (hn "").1
    have h2 := (hn "").2.1
    have h3 := (hn "").2.2.1
    split
    · rename_i e; exact absurd e h1
    · rename_i e; exact absurd e h2
    · rename_i e; exact absurd e h3
    · rename_i nm a b e; exact absurd e ((hn nm).2.2.2 _ _)
    · rfl
  case binOp op t x y yt =>
    obtain ⟨a, b⟩ := binV_sound h (hev x (by simp [Op.operands])) (hev y (by simp [Op.operands])) w
    refine ⟨v, ?_, b.refl ρ⟩
    simp only [execOp, ho]
    rw [Sem.run_bind, a]
    rfl
  case unOp op t x =>
    obtain ⟨a, b⟩ := unV_sound (P := P) h (hev x (by simp [Op.operands])) w
    exact ⟨v, by simp [execOp, ho, a], b.refl ρ⟩
  case makeInterface t x =>
    have hx := hev x (by simp [Op.operands])
    split at h
    · cases h
    · rename_i d hni hu
      cases h
      refine ⟨.iface t (g x), ?_, .iface t hx⟩
      cases d <;> first
        | exact absurd rfl (hni _)
        | simp [execOp, ho, Instr.makeInterface, run_und w hu]
    · cases h
  case makeFunc fn first cap =>
    have h1 := VRs.mapOps (ρ := ρ) (f := f) (g := g) first.toList (fun x hx => hev x (by simp [Op.operands]; left; simpa using hx))
    have h2 := VRs.mapOps (ρ := ρ) (f := f) (g := g) cap.toList (fun x hx => hev x (by simp [Op.operands]; right; simpa using hx))
    split at h
    · cases h
      exact ⟨_, by simp only [execOp, ho, Instr.makeFunc, map_mk]; rfl, .func _ h1.1 h1.2 h2.1 h2.2⟩
    · cases h
      exact ⟨_, by simp only [execOp, ho, Instr.makeFunc, map_mk]; rfl, .method _ h1.1 h1.2 h2.1 h2.2⟩
    · cases h
      exact ⟨_, by simp only [execOp, ho, Instr.makeFunc, map_mk]; rfl, .via _ _ _ _ h1.1 h1.2 h2.1 h2.2⟩
    · cases h
  case fieldAddr s x i =>
    obtain ⟨v', a, b⟩ := fieldAddr_sound h (hev x (by simp [Op.operands])) w
    exact ⟨v', by simp [execOp, ho, a], b⟩
  case field t x i =>
    obtain ⟨v', a, b⟩ := field_sound h (hev x (by simp [Op.operands])) w
    exact ⟨v', by simp [execOp, ho, a], b⟩
  case indexAddr t x i =>
    obtain ⟨v', a, b⟩ := indexAddr_sound h (hev x (by simp [Op.operands])) (hev i (by simp [Op.operands])) w
    exact ⟨v', by simp [execOp, ho, a], b⟩
  case index t x i =>
    obtain ⟨v', a, b⟩ := index_sound h (hev x (by simp [Op.operands])) (hev i (by simp [Op.operands])) w
    exact ⟨v', by simp [execOp, ho, a], b⟩
  case typeAssert x xt t ok =>
    obtain ⟨v', a, b⟩ := typeAssert_sound (xT := xt) h (hev x (by simp [Op.operands])) w
    exact ⟨v', by simp [execOp, ho, a], b⟩
  case extract x i =>
    have hx := hev x (by simp [Op.operands])
    split at h
    · rename_i vs hvs
      rw [hvs] at hx
      obtain ⟨va, hg, hr⟩ := hx.tuple_inv
      rw [nth_eq] at h
      obtain ⟨v', a, b⟩ := hr.get h
      have : va[i]? = some v' := by rw [← Array.getElem?_toList]; exact a
      exact ⟨v', by simp [execOp, ho, hg, Instr.extract, this], b⟩
    · cases h
  all_goals cases h

/-! ### Maps: reading -/
theorem keyOk_fields {ρ : Rmap} {empty : Bool} {N : Nat} {p : TypeId → Value → Bool} (hp : ∀ t v v' (w : World), p t v = true → VR ρ v v' → (Instr.checkKey empty N t v').run P w = .ok () w) {cs : List Value} {cs' : Array Value}
    (hc : VRs ρ cs cs'.toList) (w : World) : ∀ (fs : List Field), (fs.all fun f => f.name = "_" || match partL P f.type cs f.offset with
      | some x => p f.type x
      | none => false) = true →
    (forIn fs PUnit.unit (fun f _ => do
        if f.name ≠ "_" then Instr.checkKey empty N f.type (← part f.type cs' f.offset)
        pure (ForInStep.yield PUnit.unit)) : Sem PUnit).run P w = .ok PUnit.unit w
  | [], _ => by simp
  | f :: fs, h => by
    simp only [List.all_cons, Bool.and_eq_true] at h
    have ih := keyOk_fields hp hc w fs h.2
    by_cases hn : f.name = "_"
    · simp [hn] at ih ⊢
      exact ih
    · have h1 := h.1
      simp only [hn, decide_false, Bool.false_or] at h1
      split at h1
      · rename_i x hx
        obtain ⟨x', a, b⟩ := part_sound hx hc w
        have := hp _ _ _ w h1 b
        simp [hn, a, this] at ih ⊢
        exact ih
      · cases h1


theorem forIn_ok {α : Type} {f : α → PUnit → Sem (ForInStep PUnit)} {w : World} : ∀ (l : List α), (∀ x, x ∈ l → (f x PUnit.unit).run P w = .ok (ForInStep.yield PUnit.unit) w) →
    (forIn l PUnit.unit f : Sem PUnit).run P w = .ok PUnit.unit w
  | [], _ => by simp
  | x :: l, h => by
    simp only [List.forIn_cons, Sem.run_bind, h x (by simp), Result.andThen_ok]
    exact forIn_ok l fun y hy => h y (by simp [hy])

theorem keyOk_sound {ρ : Rmap} (empty : Bool) : ∀ (n N : Nat) (t : TypeId) (v v' : Value) (w : World), n ≤ N → keyOk P n t v = true → VR ρ v v' → (Instr.checkKey empty N t v').run P w = .ok () w
  | 0, _, _, _, _, _, _, h, _ => by simp [keyOk] at h
  | n + 1, N, t, v, v', w, hN, h, hv => by
    obtain ⟨N, rfl⟩ : ∃ k, N = k + 1 := ⟨N - 1, by omega⟩
    unfold keyOk at h
    split at h
    · cases h
    · rename_i len elem hu
      split at h
      · rename_i cs z hz
        obtain ⟨ca, rfl, hc⟩ := hv.agg_inv
        unfold Instr.checkKey
        simp only [Sem.run_bind, run_und w hu, Result.andThen_ok]
        rw [show (forIn [0:len] PUnit.unit _ : Sem PUnit) = _ from Std.Legacy.Range.forIn_eq_forIn_range' ..]
        rw [forIn_ok]
        · rfl
        · intro i hi
          have hi' : i < len := by simp [Std.Legacy.Range.size] at hi; omega
          have hx := List.all_eq_true.1 h i (by simp [hi'])
          split at hx
          · rename_i x hx0
            obtain ⟨x', a, b⟩ := part_sound hx0 hc w
            simp [run_size w hz, a, keyOk_sound empty n N elem x x' w (by omega) hx b]
          · cases hx
      · cases h
    · rename_i fields hu
      split at h
      · rename_i cs
        obtain ⟨ca, rfl, hc⟩ := hv.agg_inv
        unfold Instr.checkKey
        simp only [Sem.run_bind, run_und w hu, Result.andThen_ok]
        rw [← Array.forIn_toList]
        rw [forIn_ok]
        · rfl
        · intro f hf
          have hx := List.all_eq_true.1 h f hf
          by_cases hn : f.name = "_"
          · simp [hn]
          · simp only [hn, decide_false, Bool.false_or] at hx
            split at hx
            · rename_i x hx0
              obtain ⟨x', a, b⟩ := part_sound hx0 hc w
              simp [hn, a, keyOk_sound empty n N f.type x x' w (by omega) hx b]
            · cases hx
      · cases h
    · rename_i d h1 h2 h3 hu
      unfold Instr.checkKey
      simp only [Sem.run_bind, run_und w hu, Result.andThen_ok]
      cases d <;> first
        | exact absurd rfl (h1 _)
        | exact absurd rfl (h2 _ _)
        | exact absurd rfl (h3 _)
        | rfl
    · cases h

def FindR (ρ : Rmap) : Option (Nat × Value) → Option (Nat × Value) → Prop
  | none, none => True
  | some (i, v), some (j, v') => i = j ∧ VR ρ v v'
  | _, _ => False

theorem sameNow_eq {ρ : Rmap} {t : TypeId} {d : TypeDesc} (hu : P.underlying t = some d) {k k' e e' : Value} (hk : VR ρ k k') (he : VR ρ e e') {b r : Bool} (h : Instr.sameNow d k' e' = some b) (h2 : eqV P eqDepth t k e = some r) : b = r := by
  unfold Instr.sameNow at h
  unfold eqDepth eqV at h2
  rw [hu] at h2
  split at h
  · rename_i kk k1 a k2 b'
    have h1 := hk.int_inv
    have h3 := he.int_inv
    subst h1; subst h3
    simp only at h2
    split at h
    · rename_i hkk
      subst hkk
      simp at h h2
      rw [← h, ← h2]
    · cases h
  · rename_i a b'
    have h1 := hk.string_inv
    have h3 := he.string_inv
    subst h1; subst h3
    simp only [Option.some.injEq] at h h2
    rw [← h, ← h2, sameBytes_eq, beq_toListBytes, ByteArray.toList_eq, ByteArray.toList_eq]
  · rename_i a b'
    have h1 : k = .bool a := by cases hk; rfl
    have h3 : e = .bool b' := by cases he; rfl
    subst h1; subst h3
    simp only [Option.some.injEq] at h h2
    rw [← h, ← h2]
  · cases h

theorem findNow_sound {ρ : Rmap} {t : TypeId} {d : TypeDesc} (hu : P.underlying t = some d) {k k' : Value} (hk : VR ρ k k') : ∀ (es es' : List MapEntry) (i : Nat) (r : Option (Nat × Value)) (q : Option (Nat × Value)), EntsR ρ es es' →
    findV P t k es i = some r → Instr.findNow d k' es' i = some q → FindR ρ r q
  | [], [], i, r, q, _, h, h' => by simp [findV, Instr.findNow] at h h'; subst h; subst h'; trivial
  | [], _ :: _, _, _, _, he, _, _ => by simp [EntsR] at he
  | _ :: _, [], _, _, _, he, _, _ => by simp [EntsR] at he
  | e :: es, e' :: es', i, r, q, he, h, h' => by
    have h0 := he.2 0 e e' rfl rfl
    have hr : EntsR ρ es es' := ⟨by simpa using he.1, fun j a b x y => he.2 (j + 1) a b (by simpa using x) (by simpa using y)⟩
    unfold findV at h
    unfold Instr.findNow at h'
    cases hq : eqV P eqDepth t k e.key with
    | none => rw [hq] at h; cases h
    | some b =>
      rw [hq] at h
      cases hs : Instr.sameNow d k' e'.key with
      | none => rw [hs] at h'; cases h'
      | some c =>
        rw [hs] at h'
        have := sameNow_eq hu hk h0.1 hs hq
        subst this
        cases c with
        | true => simp only [Option.some.injEq] at h h'; subst h; subst h'; exact ⟨rfl, h0.2.1⟩
        | false => exact findNow_sound hu hk es es' (i + 1) r q hr h h'

theorem findAsking_sound {ρ : Rmap} {t : TypeId} {k k' : Value} (hk : VR ρ k k') (w : World) : ∀ (es es' : List MapEntry) (i : Nat) (r : Option (Nat × Value)), EntsR ρ es es' → findV P t k es i = some r →
    ∃ q, (Instr.findAsking t k' es' i).run P w = .ok q w ∧ FindR ρ r q
  | [], [], i, r, _, h => by simp [findV] at h; subst h; exact ⟨none, by simp [Instr.findAsking], trivial⟩
  | [], _ :: _, _, _, he, _ => by simp [EntsR] at he
  | _ :: _, [], _, _, he, _ => by simp [EntsR] at he
  | e :: es, e' :: es', i, r, he, h => by
    have h0 := he.2 0 e e' rfl rfl
    have hr : EntsR ρ es es' := ⟨by simpa using he.1, fun j a b x y => he.2 (j + 1) a b (by simpa using x) (by simpa using y)⟩
    unfold findV at h
    cases hq : eqV P eqDepth t k e.key with
    | none => rw [hq] at h; cases h
    | some b =>
      rw [hq] at h
      have := eqV_sound eqDepth 10000 t k e.key b k' e'.key w (by decide) hq hk h0.1
      cases b with
      | true =>
        simp only [Option.some.injEq] at h; subst h
        exact ⟨some (i, e'.val), by simp [Instr.findAsking, Op.equal, Op.maxDepth, this], rfl, h0.2.1⟩
      | false =>
        obtain ⟨q, a, b⟩ := findAsking_sound hk w es es' (i + 1) r hr h
        exact ⟨q, by simp [Instr.findAsking, Op.equal, Op.maxDepth, this, a], b⟩

theorem find_sound {ρ : Rmap} {t : TypeId} {k k' : Value} (hk : VR ρ k k') (w : World) {es es' : List MapEntry} {r : Option (Nat × Value)} (he : EntsR ρ es es') (h : findV P t k es 0 = some r) {d : TypeDesc} (hu : P.underlying t = some d) :
    ∃ q, (Instr.findKey t k' es').run P w = .ok q w ∧ FindR ρ r q := by
  unfold Instr.findKey
  simp only [Sem.run_bind, run_und w hu, Result.andThen_ok]
  cases hn : Instr.findNow d k' es' 0 with
  | some q => exact ⟨q, rfl, findNow_sound hu hk es es' 0 r q he h hn⟩
  | none => exact findAsking_sound hk w es es' 0 r he h

theorem keyOk_und {n : Nat} {t : TypeId} {v : Value} (h : keyOk P n t v = true) : ∃ d, P.underlying t = some d := by
  cases n with
  | zero => simp [keyOk] at h
  | succ n =>
    unfold keyOk at h
    cases hu : P.underlying t with
    | none => rw [hu] at h; cases h
    | some d => exact ⟨d, rfl⟩

theorem lookup_sound {ρ : Rmap} {S : St} {w : World} (hs : Sim P w0 ρ S w) {t : TypeId} {x x' ix ix' v : Value} {ok : Bool} (h : lookupV P t x ix ok S = some v) (hx : VR ρ x x') (hi : VR ρ ix ix') :
    ∃ v', (Instr.lookup t x' ix' ok).run P w = .ok v' w ∧ VR ρ v v' := by
  unfold lookupV at h
  split at h
  · rename_i key elem hu
    split at h
    · rename_i es hes
      split at h
      · rename_i hk
        obtain ⟨d, hd⟩ := keyOk_und hk
        have hmap : ∃ es' : List MapEntry, EntsR ρ es es' ∧ ∀ (q : Option (Nat × Value)), (Instr.checkKey es'.toArray.isEmpty 10000 key ix').run P w = .ok () w → (Instr.findKey key ix' es').run P w = .ok q w →
            (Instr.lookup t x' ix' ok).run P w = ((match q with
              | some (_, v) => (pure (v, true) : Sem (Value × Bool))
              | none => do pure (← zeroValue elem, false)).run P w).andThen fun r w' => .ok (if ok then .tuple #[r.1, .bool r.2] else r.1) w' := by
          unfold mapOf at hes
          split at hes
          · cases hes; cases hx
            refine ⟨[], ⟨rfl, fun i e e' a => by simp at a⟩, fun q h1 h2 => ?_⟩
            have h1' : (Instr.checkKey true 10000 key ix').run P w = .ok () w := h1
            cases q with
            | none => cases hz : (zeroValue elem).run P w <;> simp [Instr.lookup, run_und w hu, h1', h2, hz]
            | some y => simp [Instr.lookup, run_und w hu, h1', h2]
          · rename_i r
            split at hes
            · rename_i es0 clock hB
              cases hes
              cases hx with
              | map hb =>
                rename_i L
                obtain ⟨es', h1, h2⟩ := hs.blk _ _ _ hb hB
                have hg : (getObj L.r).run P w = .ok (.map es'.toArray clock) w := by simp [getObj, Sem.run, h1]
                refine ⟨es', h2, fun q h3 h4 => ?_⟩
                have h3' : (Instr.checkKey es'.isEmpty 10000 key ix').run P w = .ok () w := by simpa using h3
                cases q with
                | none => cases hz : (zeroValue elem).run P w <;> simp [Instr.lookup, run_und w hu, hg, h3', h4, hz]
                | some y => simp [Instr.lookup, run_und w hu, hg, h3', h4]
            · cases hes
          · cases hes
        obtain ⟨es', he, hbase⟩ := hmap
        have hck := keyOk_sound (P := P) (ρ := ρ) (es'.toArray.isEmpty) 20 10000 key ix ix' w (by decide) hk hi
        have base := fun q => hbase q hck
        split at h
        · rename_i i v0 hf
          cases h
          obtain ⟨q, a, b⟩ := find_sound hi w he hf hd
          cases q with
          | none => exact b.elim
          | some y =>
            obtain ⟨j, v'⟩ := y
            refine ⟨if ok then .tuple #[v', .bool true] else v', by rw [base _ a]; simp, ?_⟩
            cases ok
            · exact b.2
            · exact VR.tuple' (VRs.cons b.2 (VRs.cons (.bool true) .nil))
        · rename_i hf
          split at h
          · rename_i z hz
            cases h
            obtain ⟨q, a, b⟩ := find_sound hi w he hf hd
            cases q with
            | some y => exact b.elim
            | none =>
              obtain ⟨_, _, _, hfl⟩ := zeroV_spec hz
              refine ⟨if ok then .tuple #[z, .bool false] else z, by rw [base _ a]; simp [run_zero w hz], ?_⟩
              cases ok
              · exact hfl.refl ρ
              · exact VR.tuple' (VRs.cons (hfl.refl ρ) (VRs.cons (.bool false) .nil))
          · cases h
        · cases h
      · cases h
    · cases h
  · cases h

theorem len_sound {ρ : Rmap} {S : St} {w : World} (hs : Sim P w0 ρ S w) {t ty : TypeId} {ts : Array TypeId} {x x' v : Value} (h : lenV P t x S = some v) (hx : VR ρ x x') (ht : ts[0]? = some t) :
    (Builtin.len_ ts ty #[x']).run P w = .ok v w ∧ Flat v := by
  unfold lenV at h
  split at h
  · rename_i s hu; cases h; cases hx; exact ⟨by simp [Builtin.len_, ht, run_und w hu, goInt], .int _ _⟩
  · rename_i n e hu
    cases h
    exact ⟨by cases x' <;> simp [Builtin.len_, ht, run_und w hu, goInt], .int _ _⟩
  · rename_i arr hu
    split at h
    · rename_i n e hu2
      cases h
      exact ⟨by cases x' <;> simp [Builtin.len_, ht, run_und w hu, run_und w hu2, goInt], .int _ _⟩
    · cases h
  · rename_i e a n c hu
    cases h
    cases hx <;> exact ⟨by simp [Builtin.len_, ht, run_und w hu, goInt], .int _ _⟩
  · rename_i k e hu; cases h; cases hx; exact ⟨by simp [Builtin.len_, ht, run_und w hu, goInt], .int _ _⟩
  · rename_i k e r hu
    split at h
    · rename_i es clock hB
      cases h
      cases hx with
      | map hb =>
        obtain ⟨es', h1, h2⟩ := hs.blk _ _ _ hb hB
        exact ⟨by simp [Builtin.len_, ht, run_und w hu, goInt, getObj, Sem.run, h1, h2.1], .int _ _⟩
    · cases h
  · cases h

end Go.Cm
