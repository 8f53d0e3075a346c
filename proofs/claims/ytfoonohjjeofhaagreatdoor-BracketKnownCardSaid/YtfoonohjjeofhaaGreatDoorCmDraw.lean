/-
  CM, part 18: regions that draw their order: plans, what may be read later, blocks that are made later.
-/
import Derived.Test.YtfoonohjjeofhaaGreatDoorCmFunc2
namespace Go.Cm
open Go
variable {P : Program} {w0 : Base} {K : Known}

/-! ### what is read stays so where memory only grows -/
def Le (S S' : St) : Prop := ∀ b B, S.get b = some B → S'.get b = some B
theorem loadV_mono {S S' : St} (hl : Le S S') {t : TypeId} {x v : Value} (h : loadV P t x S = some v) : loadV P t x S' = some v := by
  unfold loadV at h ⊢
  split at h
  · rename_i b o
    split at h
    · rename_i c e r ow k hg
      rw [hl _ _ hg]; exact h
    · cases h
  · cases h
theorem rowSize_mono {S S' : St} (hl : Le S S') {b z : Nat} (h : rowSize P S b z = true) : rowSize P S' b z = true := by
  unfold rowSize at h ⊢
  cases hg : S.get b with
  | none => rw [hg] at h; cases h
  | some B => rw [hl _ _ hg]; rw [hg] at h; exact h
theorem plainRow_mono {S S' : St} (hl : Le S S') {b : Nat} (h : plainRow S b = true) : plainRow S' b = true := by
  unfold plainRow at h ⊢
  cases hg : S.get b with
  | none => rw [hg] at h; cases h
  | some B => rw [hl _ _ hg]; rw [hg] at h; exact h
theorem mapOf_mono {S S' : St} (hl : Le S S') {x : Value} {es : List MapEntry} (h : mapOf S x = some es) : mapOf S' x = some es := by
  unfold mapOf at h ⊢
  split at h
  · exact h
  · rename_i r
    split at h
    · rename_i es' c hg
      rw [hl _ _ hg]; exact h
    · cases h
  · cases h
theorem lookupV_mono {S S' : St} (hl : Le S S') {t : TypeId} {x i v : Value} {ok : Bool} (h : lookupV P t x i ok S = some v) : lookupV P t x i ok S' = some v := by
  unfold lookupV at h ⊢
  split at h
  · rename_i key elem hu
    split at h
    · rename_i es hm
      rw [mapOf_mono hl hm]
      exact h
    · cases h
  · cases h
theorem lenV_mono {S S' : St} (hl : Le S S') {t : TypeId} {x v : Value} (h : lenV P t x S = some v) : lenV P t x S' = some v := by
  unfold lenV at h ⊢
  split at h
  all_goals (try simp only [*])
  all_goals (try exact h)
  · rename_i r hu
    split at h
    · rename_i es c hg
      rw [hl _ _ hg]; exact h
    · cases h
theorem sliceV_mono {S S' : St} (hl : Le S S') {t : TypeId} {x v : Value} {lo hi mx : Option Value} (h : sliceV P t x lo hi mx S = some v) : sliceV P t x lo hi mx S' = some v := by
  unfold sliceV at h ⊢
  split at h
  · exact h
  · rename_i elem hu
    split at h
    · rename_i a len cap
      split at h
      · rename_i z l hh m h1 h2
        split at h
        · exact h
        · rename_i b o
          cases hr : rowSize P S b z with
          | false => rw [hr] at h; cases h
          | true => rw [hr] at h; rw [rowSize_mono hl hr]; exact h
        · cases h
      · cases h
    · cases h
  · rename_i n elem hu
    split at h
    · rename_i b o
      split at h
      · rename_i z l hh m h1 h2
        cases hr : plainRow S b with
        | false => rw [hr] at h; cases h
        | true => rw [hr] at h; rw [plainRow_mono hl hr]; exact h
      · cases h
    · cases h
  · cases h
theorem readOp_mono {S S' : St} (hl : Le S S') {f : Operand → Value} {op : Op} {v : Value} (h : readOp P f op S = some v) : readOp P f op S' = some v := by
  unfold readOp at h ⊢
  split at h
  · exact loadV_mono hl h
  · exact sliceV_mono hl h
  · exact lookupV_mono hl h
  · split at h
    · rename_i x t rest ha ht
      exact lenV_mono hl h
    · cases h
  · exact h
theorem readOp_calm {f : Operand → Value} {op : Op} {v : Value} {S S' : St} (hn : looks op = false) (h : readOp P f op S = some v) : readOp P f op S' = some v := by
  unfold readOp at h ⊢
  split at h <;> first
    | (simp [looks] at hn; done)
    | exact h

/-! ### blocks that are made later -/
theorem Sim.unborn {w0 : World} {no no' : Nat → Bool} {ρ : Rmap} {S : St} {w : World} (h : Sim P ⟨w0, no⟩ ρ S w) (B : Blk) (hn : ∀ x, no' x = true → no x = true ∨ x = S.size) :
    Sim P ⟨w0, no'⟩ ρ ⟨S.heap.set S.size (some B), S.size + 1⟩ w := by
  have key : ∀ c L, ρ c = some L → (⟨S.heap.set S.size (some B), S.size + 1⟩ : St).get c = S.get c := by
    intro c L hc
    have := (h.dom c L hc).1
    simp only [St.get, PT.get_set_any]
    rw [if_neg (by omega)]
  refine ⟨h.size, h.old, h.os, h.out, fun b L hb => ⟨by have := (h.dom b L hb).1; show b < S.size + 1; omega, (h.dom b L hb).2⟩, fun b L C hb hC => ?_, fun b L C hb hC hm => ?_, h.glob, fun b hb => ?_⟩
  · rw [key b L hb] at hC
    exact h.blk b L C hb hC
  · rw [key b L hb] at hC
    refine ⟨(h.own b L C hb hC hm).1, fun b' L' B' hb' hr hB' hne => ?_⟩
    rw [key b' L' hb'] at hB'
    exact (h.own b L C hb hC hm).2 b' L' B' hb' hr hB' hne
  · rcases hn b hb with h1 | h1
    · have := h.no b h1
      exact ⟨this.1, by show b < S.size + 1; omega⟩
    · subst h1
      refine ⟨?_, by show S.size < S.size + 1; omega⟩
      cases hx : ρ S.size with
      | none => rfl
      | some M => exact absurd (h.dom _ _ hx).1 (Nat.lt_irrefl _)

theorem Sim.born {w0 : World} {no no' : Nat → Bool} {ρ : Rmap} {S : St} {w : World} (h : Sim P ⟨w0, no⟩ ρ S w) {b : Nat} {B : Blk} (hb : no b = true) (hB : S.get b = some B)
    (hn : ∀ x, no' x = true → no x = true ∧ x ≠ b) {o : Obj} {L : Loc} (hr : L.r = w.heap.size) (hk : BlkOk P ρ B (some o) L) :
    Ext ρ (upd ρ b L) ∧ Sim P ⟨w0, no'⟩ (upd ρ b L) S (w.alloc o) := by
  have hnone := (h.no b hb).1
  have hext := ext_upd L hnone
  refine ⟨hext, ⟨by rw [World.size_alloc]; have : w0.heap.size ≤ w.heap.size := h.size; show w0.heap.size ≤ w.heap.size + 1; omega, fun i hi => ?_, h.os, h.out, fun c M hc => ?_, fun c M C hc hC => ?_, fun c M C hc hC hm => ?_, fun g hg => let ⟨M, a, b⟩ := h.glob g hg; ⟨M, hext _ _ a, b⟩, fun x hx => ?_⟩⟩
  · rw [heap_alloc_old (by have : w0.heap.size ≤ w.heap.size := h.size; have : i < w0.heap.size := hi; omega)]; exact h.old i hi
  · rw [World.size_alloc]
    unfold upd at hc
    split at hc
    · rename_i e; cases hc; subst e; exact ⟨(h.no c hb).2, by omega⟩
    · have := h.dom c M hc; omega
  · unfold upd at hc
    by_cases e : c = b
    · rw [if_pos e] at hc
      cases hc
      subst e
      rw [hB] at hC
      cases hC
      rw [hr, heap_alloc_new]
      exact hk.mono hext
    · rw [if_neg e] at hc
      rw [heap_alloc_old (h.dom c M hc).2]
      exact (h.blk c M C hc hC).mono hext
  · unfold upd at hc
    by_cases e : c = b
    · rw [if_pos e] at hc
      cases hc
      refine ⟨by have : w0.heap.size ≤ w.heap.size := h.size; show w0.heap.size ≤ L.r; omega, fun b' L' B' hb' hr' hB' hne => ?_⟩
      unfold upd at hb'
      rw [if_neg (by rw [e] at hne; exact hne)] at hb'
      have := (h.dom b' L' hb').2
      omega
    · rw [if_neg e] at hc
      refine ⟨(h.own c M C hc hC hm).1, fun b' L' B' hb' hr' hB' hne => ?_⟩
      unfold upd at hb'
      by_cases e' : b' = b
      · rw [if_pos e'] at hb'
        cases hb'
        have := (h.dom c M hc).2
        omega
      · rw [if_neg e'] at hb'
        exact (h.own c M C hc hC hm).2 b' L' B' hb' hr' hB' hne
  · have h1 := hn x hx
    have := h.no x h1.1
    refine ⟨?_, this.2⟩
    unfold upd
    rw [if_neg h1.2]
    exact this.1

/-- an operation that makes a block: it makes it anywhere -/
def NewRun (P : Program) (o : Oper) (f : Operand → Value) (B : Blk) (mk : Nat → Value) : Prop :=
  ∀ (ρ : Rmap) (g : Operand → Value) (w : World), (∀ x, x ∈ o.op.operands → VR ρ (f x) (g x)) →
    ∃ (ob : Obj) (L : Loc) (v' : Value), (execOp g o).run P w = .ok (.value v') (w.alloc ob) ∧ L.r = w.heap.size ∧ BlkOk P ρ B (some ob) L ∧ (∀ (ρ' : Rmap) (b : Nat), ρ' b = some L → VR ρ' (mk b) v')

theorem cells_ok {ρ : Rmap} {v v' : Value} (hv : VR ρ v v') (e : TypeId) (r : Nat) : BlkOk P ρ (.cells (cellsL v) e false true []) (some (.cells v'.cells e)) ⟨r, 0, v'.cells.size, 0⟩ := by
  have hc := hv.cells
  rw [cellsL_eq v'] at hc
  refine ⟨v'.cells, e, (0, 0), rfl, rfl, fun i x hx => ?_, fun _ j _ hj => by simp at hj, (fun h => nomatch h), fun _ => ⟨rfl, rfl, by rw [hc.1]; simp⟩, fun _ => rfl⟩
  obtain ⟨x', a, b⟩ := hc.get hx
  exact ⟨x', by rw [← Array.getElem?_toList]; simpa using a, b⟩

theorem new_spec {S S' : St} {o : Oper} {f : Operand → Value} {v : Value} (h : newOp P f o.op S = some (v, S')) :
    ∃ (B : Blk) (mk : Nat → Value), v = mk S.size ∧ S' = ⟨S.heap.set S.size (some B), S.size + 1⟩ ∧ NewRun P o f B mk := by
  cases ho : o.op <;> rw [ho] at h
  case alloc e =>
    simp only [newOp] at h
    split at h
    · rename_i z hz0
      cases h
      obtain ⟨zv, hz, rfl, hf⟩ := zeroOf_spec hz0
      refine ⟨_, fun b => ptrTo b 0, rfl, rfl, fun ρ g w hev => ⟨.cells zv.cells e, ⟨w.heap.size, 0, zv.cells.size, 0⟩, .pointer (some ⟨w.heap.size, 0, none⟩), ?_, rfl, cells_ok (hf.refl ρ) e _, fun ρ' b hb => VR.ptr hb⟩⟩
      simp only [execOp, ho, Instr.alloc, Sem.run_bind, run_zero w hz, Result.andThen_ok]
      rfl
    · cases h
  case box e x =>
    simp only [newOp] at h
    cases h
    refine ⟨_, fun b => ptrTo b 0, rfl, rfl, fun ρ g w hev => ⟨.cells (g x).cells e, ⟨w.heap.size, 0, (g x).cells.size, 0⟩, .pointer (some ⟨w.heap.size, 0, none⟩), ?_, rfl, cells_ok (hev x (by rw [ho]; simp [Op.operands])) e _, fun ρ' b hb => VR.ptr hb⟩⟩
    simp only [execOp, ho, Instr.box, Sem.run_bind, Result.andThen_ok]
    rfl
  case makeMap t r =>
    cases r with
    | some x => simp [newOp] at h
    | none =>
      simp only [newOp] at h
      cases h
      refine ⟨_, fun b => .map (some b), rfl, rfl, fun ρ g w hev => ⟨.map #[] 0, ⟨w.heap.size, 0, 0, 0⟩, .map (some w.heap.size), ?_, rfl, ⟨[], rfl, rfl, fun i e e' h => by simp at h⟩, fun ρ' b hb => VR.map hb⟩⟩
      simp [execOp, ho, Instr.makeMap]
  case buildSlice t len parts =>
    simp only [newOp] at h
    split at h
    · rename_i elem hu
      split at h
      · rename_i ei hei
        split at h
        · rename_i z hz
          split at h
          · rename_i hle
            split at h
            · rename_i c hc
              cases h
              refine ⟨_, fun b => .slice (some ⟨b, 0, none⟩) len len, rfl, rfl, fun ρ g w hev => ?_⟩
              have hp := parts_vr (ρ := ρ) (f := f) (g := g) (parts := parts) (by rw [ho] at hev; simpa [Op.operands] using hev)
              have hsz : szOf P elem = some ei.size := by simp [szOf, hei]
              have hz1 : z.cells.size = ei.size := by have := hle.2; rw [cellsL_eq] at this; simpa using this
              have hzv := zeros_vr (ρ := ρ) hz len (len * ei.size) (by rw [hz1])
              obtain ⟨c', f1, f2⟩ := fill_sound (place' := fun i => some (i * ei.size, ei.size)) (fun _ => rfl) _ _ _ _ _ hc hzv hp
              have hclen : c.length = len * ei.size := by
                have := fillL_length _ _ _ hc
                rw [this, replL_length, hle.2]
              have hcs : c'.size = len * ei.size := by rw [← hclen, f2.1]; simp
              refine ⟨.cells c' elem, ⟨w.heap.size, 0, c'.size, ei.size⟩, .slice (some ⟨w.heap.size, 0, none⟩) len len, ?_, rfl, ⟨c', elem, (0, 0), rfl, rfl, fun i x hx => ?_, fun _ j _ hj => by simp at hj, fun _ => hsz, (fun h => nomatch h), fun _ => rfl⟩, fun ρ' b hb => VR.slice hb (Nat.le_refl _) (Nat.le_refl _) (fun _ => by simp only; omega) (.inl rfl)⟩
              · simp only [execOp, ho]
                unfold Instr.buildSlice
                simp only [Sem.run_bind, run_und w hu, Result.andThen_ok, run_size w hsz]
                rw [if_neg (by omega)]
                by_cases h0 : len * ei.size = 0
                · rw [if_pos h0]
                  have e1 : Array.map (fun x => (#[] : Array Value)[x % (#[] : Array Value).size]!) (Array.range (len * ei.size)) = Array.map (fun i => z.cells[i % z.cells.size]!) (Array.range (len * ei.size)) := by rw [h0]; simp
                  simp only [Sem.run_bind, Sem.run_pure, Result.andThen_ok]
                  rw [e1, f1]
                  simp [newRow]
                · rw [if_neg h0]
                  simp only [Sem.run_bind, run_zero w hz, Sem.run_pure, Result.andThen_ok]
                  rw [f1]
                  simp [newRow]
              · obtain ⟨x', p1, p2⟩ := f2.get hx
                exact ⟨x', by rw [← Array.getElem?_toList]; simpa using p1, p2⟩
            · cases h
          · cases h
        · cases h
      · cases h
    · cases h
  all_goals simp [newOp] at h

theorem chk_get {S S' : St} {b : Nat} {B : Blk} {c : Chk} (h : chkOf S b = some c) (hB : S.get b = some B) (hk : c.ok P S' = true) : S'.get b = some B := by
  unfold chkOf at h
  rw [hB] at h
  split at h
  · rename_i cs e row he
    cases he
    cases h
    simp only [Chk.ok] at hk
    split at hk
    · rename_i c' e' row' hg
      simp only [Bool.and_eq_true] at hk
      rw [hg, of_nbeq hk.1.1, eq_of_beq hk.1.2, sameL_eq _ _ _ hk.2]
    · cases hk
  · rename_i he
    cases he
    cases h
    simp only [Chk.ok] at hk
    split at hk
    · rename_i hg; exact hg
    · cases hk
  · cases h

/-! ### plans -/
def befOf (acc : List Nat) (o : Oper) : Nat := o.after.toList.foldl (fun s e => if Region.binds .any e then s ||| 2 ^ e.on ||| ((nth acc e.on).getD 0) else s) 0
theorem befores_prefix : ∀ (l : List Oper) (acc : List Nat), ∃ t, befores l acc = acc ++ t
  | [], acc => ⟨[], by simp [befores]⟩
  | o :: l, acc => by
    obtain ⟨t, h⟩ := befores_prefix l (acc ++ [befOf acc o])
    exact ⟨[befOf acc o] ++ t, by rw [← List.append_assoc, ← h]; rfl⟩
theorem befores_at : ∀ (l : List Oper) (acc : List Nat) (k : Nat) (o : Oper), l[k]? = some o →
    ∃ acc' t, acc'.length = acc.length + k ∧ befores l acc = acc' ++ befOf acc' o :: t
  | [], acc, k, o, h => by simp at h
  | p :: l, acc, 0, o, h => by
    simp only [List.getElem?_cons_zero, Option.some.injEq] at h
    subst h
    obtain ⟨t, h⟩ := befores_prefix l (acc ++ [befOf acc p])
    exact ⟨acc, t, rfl, by have : befores (p :: l) acc = befores l (acc ++ [befOf acc p]) := rfl; rw [this, h]; simp⟩
  | p :: l, acc, k + 1, o, h => by
    simp only [List.getElem?_cons_succ] at h
    obtain ⟨acc', t, h1, h2⟩ := befores_at l (acc ++ [befOf acc p]) k o h
    exact ⟨acc', t, by rw [h1]; simp; omega, by have : befores (p :: l) acc = befores l (acc ++ [befOf acc p]) := rfl; rw [this, h2]⟩

theorem foldBits (acc : List Nat) (b : Nat) : ∀ (l : List Edge) (s : Nat), (l.foldl (fun s e => if Region.binds .any e then s ||| 2 ^ e.on ||| ((nth acc e.on).getD 0) else s) s).testBit b = true ↔
    s.testBit b = true ∨ ∃ e ∈ l, Region.binds .any e = true ∧ (b = e.on ∨ ((nth acc e.on).getD 0).testBit b = true)
  | [], s => by simp
  | e :: l, s => by
    simp only [List.foldl_cons]
    rw [foldBits acc b l]
    by_cases hb : Region.binds .any e = true
    · simp only [hb, if_true, Nat.testBit_or, Nat.testBit_two_pow, Bool.or_eq_true, decide_eq_true_eq, List.mem_cons, exists_eq_or_imp, true_and]
      constructor
      · rintro ((( h | h) | h) | h)
        · exact .inl h
        · exact .inr (.inl (.inl h.symm))
        · exact .inr (.inl (.inr h))
        · exact .inr (.inr h)
      · rintro (h | (h | h) | h)
        · exact .inl (.inl (.inl h))
        · exact .inl (.inl (.inr h.symm))
        · exact .inl (.inr h)
        · exact .inr h
    · simp [hb]

/-- the operations that come before the i-th, as bits -/
def bits (bef : List Nat) (i : Nat) : Nat := (nth bef i).getD 0

theorem zipIdx_get {full : List Oper} {i : Nat} {o : Oper} : (o, i) ∈ full.zipIdx ↔ full[i]? = some o := by
  rw [List.mem_zipIdx_iff_getElem?]

theorem edges_lt {full : List Oper} (hE : edgesOk full.zipIdx = true) {i : Nat} {o : Oper} (hi : full[i]? = some o) : ∀ e ∈ o.after.toList, Region.binds .any e = true → e.on < i := by
  intro e he hb
  unfold edgesOk at hE
  rw [List.all_eq_true] at hE
  have := hE (o, i) (zipIdx_get.2 hi)
  simp only [Bool.and_eq_true, List.all_eq_true] at this
  have := this.1 e he
  simpa [hb] using this

theorem bits_spec {full : List Oper} (hE : edgesOk full.zipIdx = true) {i : Nat} {o : Oper} (hi : full[i]? = some o) (b : Nat) :
    (bits (befores full []) i).testBit b = true ↔ ∃ e ∈ o.after.toList, Region.binds .any e = true ∧ (b = e.on ∨ (bits (befores full []) e.on).testBit b = true) := by
  obtain ⟨acc', t, h1, h2⟩ := befores_at full [] i o hi
  simp only [List.length_nil, Nat.zero_add] at h1
  have e1 : bits (befores full []) i = befOf acc' o := by
    unfold bits
    rw [nth_eq, h2, List.getElem?_append_right (by omega)]
    simp [h1]
  rw [e1]
  unfold befOf
  rw [foldBits]
  simp only [Nat.zero_testBit, Bool.false_eq_true, false_or]
  constructor
  · rintro ⟨e, he, hb, hx⟩
    refine ⟨e, he, hb, ?_⟩
    have hlt := edges_lt hE hi e he hb
    unfold bits
    rw [nth_eq, h2, List.getElem?_append_left (by omega), ← nth_eq]
    exact hx
  · rintro ⟨e, he, hb, hx⟩
    refine ⟨e, he, hb, ?_⟩
    have hlt := edges_lt hE hi e he hb
    unfold bits at hx
    rw [nth_eq, h2, List.getElem?_append_left (by omega), ← nth_eq] at hx
    exact hx

theorem bitsIn_spec {x y : Nat} (h : bitsIn x y = true) (b : Nat) (hb : x.testBit b = true) : y.testBit b = true := by
  unfold bitsIn at h
  have e : x &&& y = x := of_nbeq h
  rw [← e, Nat.testBit_and, Bool.and_eq_true] at hb
  exact hb.2

theorem planOk_cons {full : List Oper} {bef : List Nat} {o : Oper} {i : Nat} {r : List (Oper × Nat)} {done : Nat} (h : planOk full bef ((o, i) :: r) done = true) :
    done.testBit i = false ∧ (∀ b, (bits bef i).testBit b = true → done.testBit b = true) ∧ (kindOf o.op = .heavy → ∀ x ∈ r, (bits bef x.2).testBit i = true) ∧ planOk full bef r (done ||| 2 ^ i) = true := by
  simp only [planOk, Bool.and_eq_true, Bool.not_eq_true', Bool.or_eq_true, List.all_eq_true] at h
  refine ⟨h.1.1.1.2, bitsIn_spec h.1.1.2, fun hk x hx => ?_, h.2⟩
  rcases h.1.2 with h1 | h1
  · simp [hk] at h1
  · exact h1 x hx

theorem planOk_all {full : List Oper} {bef : List Nat} : ∀ (l : List (Oper × Nat)) (done : Nat), planOk full bef l done = true → ∀ i, i < full.length → done.testBit i = true ∨ ∃ o, (o, i) ∈ l
  | [], done, h, i, hi => by
    simp only [planOk] at h
    rw [of_nbeq h, Nat.testBit_two_pow_sub_one]
    simp [hi]
  | (o, j) :: r, done, h, i, hi => by
    obtain ⟨_, _, _, h4⟩ := planOk_cons h
    rcases planOk_all r _ h4 i hi with h5 | ⟨p, h5⟩
    · rw [Nat.testBit_or, Nat.testBit_two_pow, Bool.or_eq_true, decide_eq_true_eq] at h5
      rcases h5 with h5 | h5
      · exact .inl h5
      · subst h5; exact .inr ⟨o, by simp⟩
    · exact .inr ⟨p, by simp [h5]⟩

theorem pairsOk_spec {full : List Oper} {bef : List Nat} : ∀ (l : List (Oper × Nat)), pairsOk full bef l = true → ∀ (k k' : Nat) (x y : Oper × Nat), k < k' → l[k]? = some x → l[k']? = some y → pairOk full bef x.2 x.1 y.2 y.1 = true
  | [], _, k, k', x, y, _, h, _ => by simp at h
  | (o, i) :: l, h, k, k', x, y, hk, hx, hy => by
    simp only [pairsOk, Bool.and_eq_true, List.all_eq_true] at h
    cases k' with
    | zero => omega
    | succ k' =>
      simp only [List.getElem?_cons_succ] at hy
      cases k with
      | zero =>
        simp only [List.getElem?_cons_zero, Option.some.injEq] at hx
        subst hx
        exact h.1 y (List.mem_of_getElem? hy)
      | succ k =>
        simp only [List.getElem?_cons_succ] at hx
        exact pairsOk_spec l h.2 k k' x y (by omega) hx hy

theorem pair_sep {full : List Oper} {bef : List Nat} (hP : pairsOk full bef full.zipIdx = true) {i j : Nat} {o p : Oper} (hi : full[i]? = some o) (hj : full[j]? = some p) (hne : i ≠ j) :
    (∀ d, o.dst = some d → d ∈ opTmps full p → (bits bef j).testBit i = true ∨ (bits bef i).testBit j = true) ∧ (∀ d, o.dst = some d → p.dst ≠ some d) := by
  have hzi : full.zipIdx[i]? = some (o, i) := by simp [hi]
  have hzj : full.zipIdx[j]? = some (p, j) := by simp [hj]
  rcases Nat.lt_or_gt_of_ne hne with hlt | hlt
  · have h := pairsOk_spec _ hP i j _ _ hlt hzi hzj
    simp only [pairOk, Bool.and_eq_true, Bool.or_eq_true] at h
    refine ⟨fun d hd hm => ?_, fun d hd he => ?_⟩
    · rcases h.1 with h1 | h1
      · exact .inl h1
      · have := h1.1.2
        rw [hd] at this
        simp [List.contains_iff_mem, hm] at this
    · have := h.2
      rw [hd, he] at this
      simp [nbeq_tt] at this
  · have h := pairsOk_spec _ hP j i _ _ hlt hzj hzi
    simp only [pairOk, Bool.and_eq_true, Bool.or_eq_true] at h
    refine ⟨fun d hd hm => ?_, fun d hd he => ?_⟩
    · rcases h.1 with h1 | h1
      · exact .inr h1
      · have := h1.2
        rw [hd] at this
        simp [List.contains_iff_mem, hm] at this
    · have := h.2
      rw [hd, he] at this
      simp [nbeq_tt] at this

theorem planFloat_mem {bef : List Nat} : ∀ (l : List (Oper × Nat)) (done : Nat), ∀ x ∈ (planFloat bef l done).1, x ∈ l
  | [], done, x, h => by simp [planFloat] at h
  | (o, i) :: l, done, x, h => by
    simp only [planFloat] at h
    split at h
    · exact List.mem_cons_of_mem _ (planFloat_mem l done x h)
    · rcases List.mem_cons.1 h with h1 | h1
      · subst h1; simp
      · exact List.mem_cons_of_mem _ (planFloat_mem l _ x h1)
theorem planAll_mem {bef : List Nat} {l : List (Oper × Nat)} : ∀ (r : List (Oper × Nat)) (done : Nat), (∀ x ∈ r, x ∈ l) → ∀ x ∈ planAll bef l r done, x ∈ l
  | [], done, _, x, h => planFloat_mem l done x h
  | (o, i) :: r, done, hr, x, h => by
    simp only [planAll] at h
    rcases List.mem_append.1 h with h1 | h1
    · exact planFloat_mem l done x h1
    · rcases List.mem_cons.1 h1 with h2 | h2
      · subst h2; exact hr _ (by simp)
      · exact planAll_mem r _ (fun y hy => hr y (by simp [hy])) x h2
theorem planOf_mem {full : List Oper} : ∀ x ∈ planOf full, full[x.2]? = some x.1 := by
  intro x hx
  have : x ∈ full.zipIdx := planAll_mem _ _ (fun y hy => (List.mem_filter.1 hy).1) x hx
  exact zipIdx_get.1 this

end Go.Cm
