/-
  CM, part 8: operations that make memory or turn it.
-/
import Derived.Test.YtfoonohjjeofhaaGreatDoorCmApp
namespace Go.Cm
open Go
variable {P : Program} {w0 : Base}

theorem newCells_snd (S : St) (c : List Value) (e : TypeId) (row : Bool) : (newCells S c e row).2 = ⟨S.heap.set S.size (some (.cells c e row true [])), S.size + 1⟩ := rfl
theorem newSlice_snd (S : St) (c : List Value) (e : TypeId) (n k : Nat) : (newSlice S c e n k).2 = ⟨S.heap.set S.size (some (.cells c e true true [])), S.size + 1⟩ := rfl

/-- a new row: what is read of it stands for what the model lays -/
theorem new_row {ρ : Rmap} {S : St} {w : World} (hs : Sim P w0 ρ S w) {c : List Value} {arr : Array Value} (hc : ∀ (i : Nat) v, c[i]? = some v → ∃ v', arr[i]? = some v' ∧ VR ρ v v') {e e' : TypeId} (he : e ≠ 0 → e' = e) {z : Nat} (hz : szOf P e = some z)
    {n k k' : Nat} (hn : n ≤ k) (hk : k ≤ k') (hr : z ≠ 0 → k' * z ≤ arr.size) :
    ∃ ρ', Ext ρ ρ' ∧ Sim P w0 ρ' (newSlice S c e n k).2 (w.alloc (.cells arr e')) ∧ VR ρ' (newSlice S c e n k).1 (.slice (some ⟨w.heap.size, 0, none⟩) n k') := by
  obtain ⟨h1, h2⟩ := new_cells (P := P) (e := e) (e' := e') (row := true) (kin := []) (z := z) (arr := arr) hs hc (fun _ => hz) (by simp) he
  refine ⟨_, h1, h2, ?_⟩
  exact VR.slice (L := ⟨w.heap.size, 0, arr.size, z⟩) (upd_same _ _ _) hn hk (fun hne => by simpa using hr hne) (.inl rfl)

theorem replL_get {z : List Value} : ∀ (n : Nat) (i : Nat), i < n * z.length → (replL n z)[i]? = z[i % z.length]?
  | 0, i, h => by simp at h
  | n + 1, i, h => by
    have h2 : i < n * z.length + z.length := by rw [Nat.succ_mul] at h; exact h
    unfold replL
    by_cases hi : i < z.length
    · rw [List.getElem?_append_left hi, Nat.mod_eq_of_lt hi]
    · rw [List.getElem?_append_right (by omega), replL_get n _ (by omega)]
      congr 1
      exact (Nat.mod_eq_sub_mod (by omega)).symm
theorem replL_length {z : List Value} : ∀ (n : Nat), (replL n z).length = n * z.length
  | 0 => by simp [replL]
  | n + 1 => by simp [replL, replL_length n, Nat.add_mul]; omega

theorem zeros_get {z : Array Value} {n i : Nat} (h : i < n) (hz : 0 < z.size) : ((Array.range n).map (fun i => z[i % z.size]!))[i]? = z[i % z.size]? := by
  have hm : i % z.size < z.size := Nat.mod_lt _ hz
  simp [h, getElem!_pos z (i % z.size) hm, Array.getElem?_eq_getElem hm]

/-- repeated zero values -/
theorem zeros_vr {ρ : Rmap} {t : TypeId} {z : Value} (hz : zeroV P t = some z) (n m : Nat) (hm : m = n * z.cells.size) : VRs ρ (replL n (cellsL z)) (((Array.range m).map (fun i => z.cells[i % z.cells.size]!)).toList) := by
  obtain ⟨_, _, _, hf⟩ := zeroV_spec hz
  have hv := (hf.refl ρ).cells
  have hlen : (cellsL z).length = z.cells.size := by rw [cellsL_eq]; simp
  refine ⟨by rw [replL_length, hlen]; simp [hm], fun i v v' h h' => ?_⟩
  have hi : i < n * (cellsL z).length := by
    have := (List.getElem?_eq_some_iff.1 h).1
    rwa [replL_length] at this
  have hpos : 0 < z.cells.size := by
    rcases Nat.eq_zero_or_pos z.cells.size with e | e
    · rw [hlen, e] at hi; simp at hi
    · exact e
  rw [replL_get n i hi] at h
  rw [Array.getElem?_toList, zeros_get (by rw [hm, ← hlen]; exact hi) hpos, ← Array.getElem?_toList, ← cellsL_eq, ← hlen] at h'
  exact hv.2 _ _ _ h h'

/-- what an operation that gives a value and turns memory must achieve -/
def OpGood (P : Program) (w0 : Base) (ρ : Rmap) (v : Value) (S' : St) (r : Result Value) : Prop :=
  ∃ ρ' v' w', r = .ok v' w' ∧ Ext ρ ρ' ∧ VR ρ' v v' ∧ Sim P w0 ρ' S' w'

theorem alloc_sound {ρ : Rmap} {S : St} {w : World} (hs : Sim P w0 ρ S w) {e : TypeId} {z : List Value} (h : zeroOf P e = some z) : OpGood P w0 ρ (newCells S z e false).1 (newCells S z e false).2 ((Instr.alloc e true (.tuple #[])).run P w) := by
  obtain ⟨zv, hz, rfl, hf⟩ := zeroOf_spec h
  obtain ⟨ρ', w', a, b, c, d⟩ := new_var hs (hf.refl ρ) e
  exact ⟨ρ', _, w', by simp [Instr.alloc, run_zero w hz, a], b, d, c⟩
theorem box_sound {ρ : Rmap} {S : St} {w : World} (hs : Sim P w0 ρ S w) {e : TypeId} {v v' : Value} (hv : VR ρ v v') : OpGood P w0 ρ (newCells S (cellsL v) e false).1 (newCells S (cellsL v) e false).2 ((Instr.box e v').run P w) := by
  obtain ⟨ρ', w', a, b, c, d⟩ := new_var hs hv e
  exact ⟨ρ', _, w', by simp [Instr.box, a], b, d, c⟩

theorem newMap_sound {ρ : Rmap} {S : St} {w : World} (hs : Sim P w0 ρ S w) :
    ∃ ρ', Ext ρ ρ' ∧ VR ρ' (.map (some S.size)) (.map (some w.heap.size)) ∧ Sim P w0 ρ' ⟨S.heap.set S.size (some (.map [] 0)), S.size + 1⟩ (w.alloc (.map #[] 0)) := by
  obtain ⟨a, b⟩ := hs.add (B := .map [] 0) (o := .map #[] 0) (L := ⟨w.heap.size, 0, 0, 0⟩) rfl ⟨[], rfl, rfl, fun i e e' h => by simp at h⟩
  exact ⟨_, a, VR.map (L := ⟨w.heap.size, 0, 0, 0⟩) (upd_same _ _ _), b⟩

theorem fillL_length {place : Nat → Option (Nat × Nat)} : ∀ (parts : List (Nat × Value)) (c c1 : List Value), fillL place c parts = some c1 → c1.length = c.length
  | [], c, c1, h => by simp [fillL] at h; rw [h]
  | (i, v) :: r, c, c1, h => by
    unfold fillL at h
    split at h
    · cases h
    · rename_i off size hpl
      cases hg : (Nat.beq (cellsL v).length size && Nat.ble (off + size) c.length) with
      | false => rw [hg] at h; cases h
      | true =>
        rw [hg] at h
        simp only [cond_true] at h
        split at h
        · rename_i c2 hc2
          rw [fillL_length r c2 c1 h, (setN_spec _ _ _ _ hc2).1]
        · cases h

theorem buildSlice_sound {ρ : Rmap} {S S' : St} {w : World} (hs : Sim P w0 ρ S w) {t : TypeId} {len : Nat} {parts : Array (Nat × Operand)} {f g : Operand → Value} {v : Value} (h : newOp P f (.buildSlice t len parts) S = some (v, S'))
    (hp : PartsR ρ (partsV f parts.toList) (parts.map fun (i, x) => (i, g x)).toList) : OpGood P w0 ρ v S' ((Instr.buildSlice t len (parts.map fun (i, x) => (i, g x))).run P w) := by
  simp only [newOp] at h
  split at h
  · rename_i elem hu
    split at h
    · rename_i ei hei
      split at h
      · rename_i z hz
        split at h
        · rename_i hle
          split at h
          · rename_i c hc
            cases h
            have hsz : szOf P elem = some ei.size := by simp [szOf, hei]
            have hz1 : z.cells.size = ei.size := by have := hle.2; rw [cellsL_eq] at this; simpa using this
            have hzv := zeros_vr (ρ := ρ) hz len (len * ei.size) (by rw [hz1])
            obtain ⟨c', f1, f2⟩ := fill_sound (place' := fun i => some (i * ei.size, ei.size)) (fun _ => rfl) _ _ _ _ _ hc hzv hp
            have hclen : c.length = len * ei.size := by
              have := fillL_length _ _ _ hc
              rw [this, replL_length, hle.2]
            have hcs : c'.size = len * ei.size := by rw [← hclen, f2.1]; simp
            obtain ⟨ρ', a1, a2, a3⟩ := new_row hs (c := c) (arr := c') (fun i x hx => by obtain ⟨x', p1, p2⟩ := f2.get hx; exact ⟨x', by rw [← Array.getElem?_toList]; exact p1, p2⟩) (e := elem) (e' := elem) (fun _ => rfl) hsz
              (n := len) (k := len) (k' := len) (Nat.le_refl _) (Nat.le_refl _) (fun _ => by rw [hcs]; exact Nat.le_refl _)
            refine ⟨ρ', _, _, ?_, a1, a3, a2⟩
            unfold Instr.buildSlice
            simp only [Sem.run_bind, run_und w hu, Result.andThen_ok, run_size w hsz]
            rw [if_neg (by omega)]
            by_cases h0 : len * ei.size = 0
            · rw [if_pos h0]
              have e1 : Array.map (fun x => (#[] : Array Value)[x % (#[] : Array Value).size]!) (Array.range (len * ei.size)) = Array.map (fun i => z.cells[i % z.cells.size]!) (Array.range (len * ei.size)) := by rw [h0]; simp
              simp only [Sem.run_bind, Sem.run_pure, Result.andThen_ok]
              rw [e1, f1]
              simp [newRow]
            · rw [if_neg h0]
              simp only [Sem.run_bind, run_zero w hz, Sem.run_pure, Result.andThen_ok]
              rw [f1]
              simp [newRow]
          · cases h
        · cases h
      · cases h
    · cases h
  · cases h

/-! ### append, copy -/
theorem source_sound {ρ : Rmap} {S : St} {w : World} (hs : Sim P w0 ρ S w) {size n : Nat} {x x' : Value} {l : List Value} (h : sourceCells S size n x = some l) (hx : VR ρ x x') (hn : ∀ k, lenOfV x = some k → n ≤ k) :
    ∃ l' : List Value, (Builtin.firstCells size n x').run P w = .ok l'.toArray w ∧ VRs ρ l l' := by
  unfold sourceCells at h
  split at h
  · cases hb : Nat.beq n 0 with
    | false => rw [hb] at h; cases h
    | true =>
      rw [hb] at h; cases h; cases hx
      exact ⟨[], by simp [Builtin.firstCells], VRs.nil⟩
  · rename_i b o len cap
    unfold readCells at h
    split at h
    · rename_i c e row own kin hB
      cases hx with
      | slice hb hnc hc hr ho =>
        rename_i o' c' L
        obtain ⟨arr, e', fz, h1, h2, h3, h4, h5, h6⟩ := hs.blk _ _ _ hb hB
        have hn' := hn len rfl
        rcases ho with ho | ho
        · subst ho
          obtain ⟨l', a1, a2⟩ := loadCells_sound (P := P) h1 h3 h
          exact ⟨l', by simp [Builtin.firstCells, a1], a2⟩
        · have : n = 0 := by omega
          subst this
          simp [takeN] at h
          subst h
          exact ⟨[], by simp [Builtin.firstCells, loadCells, loadCellsFrom], VRs.nil⟩
    · cases h
  · rename_i s
    cases hx
    cases hz : Nat.beq size 1 with
    | false => rw [hz] at h; cases h
    | true =>
    rw [hz] at h
    simp only [cond_true] at h
    obtain ⟨h1, h2, h3⟩ := takeN_spec _ _ _ h
    have hn' := hn _ rfl
    refine ⟨l, ?_, ?_⟩
    · simp only [Builtin.firstCells, Sem.run_pure]
      congr 1
      rw [h3]
      apply Array.ext'
      simp [ByteArray.data_extract, List.extract]
    · rw [h3, ← List.map_take]
      exact VRs.map _ _ (fun x => .int _ _) _
  · cases h


theorem lenOf_sound {ρ : Rmap} {x x' : Value} {n : Nat} (h : lenOfV x = some n) (hx : VR ρ x x') (w : World) : (Builtin.lenOf x').run P w = .ok n w := by
  unfold lenOfV at h
  split at h
  · cases h; cases hx <;> simp [Builtin.lenOf]
  · cases h; cases hx; simp [Builtin.lenOf]
  · cases h

/-- the slice's first cells, read for the growth -/
theorem old_cells {ρ : Rmap} {S : St} {w : World} (hs : Sim P w0 ρ S w) {b o len size : Nat} {L : Loc} (hb : ρ b = some L) {c : List Value} {e : TypeId} {row own : Bool} {kin : List Nat} (hB : S.get b = some (.cells c e row own kin))
    {old : List Value} (h : takeN (len * size) (dropN o c) = some old) (o' n cap : Nat) (ho : o' = o + L.d ∨ len = 0) :
    ∃ l' : List Value, (Builtin.firstCells size len (.slice (some ⟨L.r, o', none⟩) n cap)).run P w = .ok l'.toArray w ∧ VRs ρ old l' := by
  obtain ⟨arr, e', fz, h1, h2, h3, h4, h5, h6⟩ := hs.blk _ _ _ hb hB
  rcases ho with ho | ho
  · subst ho
    obtain ⟨l', a1, a2⟩ := loadCells_sound (P := P) h1 h3 h
    exact ⟨l', by simp [Builtin.firstCells, a1], a2⟩
  · subst ho
    simp [takeN] at h
    subst h
    exact ⟨[], by simp [Builtin.firstCells, loadCells, loadCellsFrom], VRs.nil⟩



/-- a row made from others, the older ones read only from now on -/
theorem grown_sound {ρ : Rmap} {S : St} {w : World} (hs : Sim P w0 ρ S w) {b : Nat} {L : Loc} (hb : ρ b = some L) {c : List Value} {e : TypeId} {kin : List Nat} (hB : S.get b = some (.cells c e true true kin)) :
    Sim P w0 ρ (S.set b (.cells c e true false kin)) w := by
  have hlt := get_lt hB
  have hget : ∀ j, (S.set b (.cells c e true false kin)).get j = if j = b then some (.cells c e true false kin) else S.get j := fun j => by rw [get_set']; simp [hlt]
  refine ⟨hs.size, hs.old, hs.os, hs.out, hs.dom, fun x M C hx hC => ?_, fun x M C hx hC hm => ?_, hs.glob, hs.no⟩
  · rw [hget] at hC
    by_cases hxb : x = b
    · subst hxb
      rw [if_pos rfl] at hC
      cases hC
      obtain ⟨arr, e', fz, h1, h2, h3, h4, h5, h6⟩ := hs.blk _ _ _ hx hB
      exact ⟨arr, e', fz, h1, h2, h3, (by simp), h5, h6⟩
    · rw [if_neg hxb] at hC
      exact hs.blk x M C hx hC
  · rw [hget] at hC
    by_cases hxb : x = b
    · subst hxb
      rw [if_pos rfl] at hC
      cases hC
      simp [Blk.mine] at hm
    · rw [if_neg hxb] at hC
      refine ⟨(hs.own x M C hx hC hm).1, fun y L' B' hy hr hB' hne => ?_⟩
      rw [hget] at hB'
      by_cases hyb : y = b
      · subst hyb
        rw [if_pos rfl] at hB'
        cases hB'
        have h := (hs.own x M C hx hC hm).2 y L' _ hy hr hB hne
        exact absurd h.2.1 (by simp [Blk.mine])
      · rw [if_neg hyb] at hB'
        exact (hs.own x M C hx hC hm).2 y L' B' hy hr hB' hne

/-- the model may have grown in place: the new row lies in the old one's memory -/
theorem inplace_sound {ρ : Rmap} {S : St} {w w' : World} (hs : Sim P w0 ρ S w) {b o : Nat} {L : Loc} (hb : ρ b = some L) {c old new : List Value} {e : TypeId} {kin : List Nat} (hB : S.get b = some (.cells c e true true kin)) (hoe : o + old.length = c.length)
    (hold : ∀ (i : Nat) v, old[i]? = some v → c[o + i]? = some v) {arr' : Array Value} {e' : TypeId} {fz : Nat × Nat} (hput : WPut L.r (.cells arr' e' fz) w w') {arr : Array Value} (h1 : w.heap[L.r]? = some (.cells arr e' fz)) (hsz : arr'.size = arr.size)
    {new' : List Value} (hnew : VRs ρ new new') (hget : ∀ j, arr'[j]? = if c.length + L.d ≤ j ∧ j < c.length + L.d + new'.length then new'[j - (c.length + L.d)]? else arr[j]?) :
    Ext ρ (upd ρ S.size ⟨L.r, L.d + o, L.tot, L.z⟩) ∧
      Sim P w0 (upd ρ S.size ⟨L.r, L.d + o, L.tot, L.z⟩) ⟨(S.set b (.cells c e true false kin)).heap.set S.size (some (.cells (old ++ new) e true true (b :: kin))), S.size + 1⟩ w' := by
  have hnone : ρ S.size = none := by
    cases hx : ρ S.size with
    | none => rfl
    | some M => exact absurd (hs.dom _ _ hx).1 (Nat.lt_irrefl _)
  have hext := ext_upd (⟨L.r, L.d + o, L.tot, L.z⟩ : Loc) hnone
  have hlt := get_lt hB
  have hbS := (hs.dom b L hb).1
  have hown := hs.own b L _ hb hB rfl
  obtain ⟨arr0, e0, fz0, g1, g2, g3, g4, g5, g6⟩ := hs.blk _ _ _ hb hB
  rw [h1] at g1
  cases g1
  have hget2 : ∀ x C, (⟨(S.set b (.cells c e true false kin)).heap.set S.size (some (.cells (old ++ new) e true true (b :: kin))), S.size + 1⟩ : St).get x = some C →
      (x = S.size ∧ C = .cells (old ++ new) e true true (b :: kin)) ∨ (x ≠ S.size ∧ x = b ∧ C = .cells c e true false kin) ∨ (x ≠ S.size ∧ x ≠ b ∧ S.get x = some C) := by
    intro x C hC
    simp only [St.get, St.set, PT.get_set_any] at hC
    by_cases hx : x = S.size
    · left
      refine ⟨hx, ?_⟩
      by_cases hl : S.size < 2 ^ 16
      · rw [if_pos ⟨hx, hl⟩] at hC; exact (Option.some.inj hC).symm
      · rw [if_neg (fun y => hl y.2), if_neg (fun y => by omega), PT.get_big _ (by rw [hx]; exact hl)] at hC; cases hC
    · right
      rw [if_neg (fun y => hx y.1)] at hC
      by_cases hxb : x = b
      · left
        rw [if_pos ⟨hxb, hlt⟩] at hC
        exact ⟨hx, hxb, (Option.some.inj hC).symm⟩
      · right
        rw [if_neg (fun y => hxb y.1)] at hC
        exact ⟨hx, hxb, hC⟩
  have hnl : new.length = new'.length := hnew.1
  -- what a block that lies in this memory reads as
  have keep : ∀ (i : Nat), i < c.length + L.d → arr'[i]? = arr[i]? := fun i hi => by rw [hget, if_neg (by omega)]
  have keepBlk : ∀ x M C, ρ x = some M → (C.ext + M.d ≤ c.length + L.d ∨ M.r ≠ L.r) → BlkOk P ρ C w.heap[M.r]? M → (∀ c' e' r' o' k', C = .cells c' e' r' o' k' → M.r = L.r → o' = false) → (M.r = L.r → ∃ c' e' r' o' k', C = .cells c' e' r' o' k') → BlkOk P ρ C w'.heap[M.r]? M := by
    intro x M C hx hor hC hro hcells
    by_cases hr : M.r = L.r
    · obtain ⟨c', e1, r', o', k', rfl⟩ := hcells hr
      have ho' := hro _ _ _ _ _ rfl hr
      subst ho'
      obtain ⟨a1, a2, a3, b1, b2, b3, b4, b5, b6⟩ := hC
      rw [hr, h1] at b1
      cases b1
      have hle : c'.length + M.d ≤ c.length + L.d := by
        rcases hor with h | h
        · exact h
        · exact absurd hr h
      refine ⟨arr', e', fz, by rw [hr]; exact hput.now, by rw [hsz]; exact b2, fun i v hv => ?_, (by simp), b5, b6⟩
      obtain ⟨v', p1, p2⟩ := b3 i v hv
      have hi := (List.getElem?_eq_some_iff.1 hv).1
      exact ⟨v', by rw [keep _ (by omega)]; exact p1, p2⟩
    · rw [hput.same _ hr]; exact hC
  refine ⟨hext, ⟨by rw [hput.size]; exact hs.size, fun i hi => ?_, hput.os.trans hs.os, hput.out.trans hs.out, fun x M hx => ?_, fun x M C hx hC => ?_, fun x M C hx hC hm => ?_, fun g hg => let ⟨M, a, b⟩ := hs.glob g hg; ⟨M, hext _ _ a, b⟩, fun x hx => ?_⟩⟩
  · rw [hput.same i (by have := hown.1; omega)]; exact hs.old i hi
  · rw [hput.size]
    show x < S.size + 1 ∧ _
    unfold upd at hx
    split at hx
    · cases hx; exact ⟨by omega, (hs.dom b L hb).2⟩
    · have := hs.dom x M hx; omega
  · rcases hget2 x C hC with ⟨rfl, rfl⟩ | ⟨hne, rfl, rfl⟩ | ⟨hne, hnb, hC'⟩
    · have hM : M = ⟨L.r, L.d + o, L.tot, L.z⟩ := by rw [upd_same] at hx; exact (Option.some.inj hx).symm
      subst hM
      refine ⟨arr', e', fz, hput.now, by rw [hsz]; exact g2, fun i v hv => ?_, g4, g5, (fun h => nomatch h), g6.2⟩
      by_cases hi : i < old.length
      · rw [List.getElem?_append_left hi] at hv
        obtain ⟨v', p1, p2⟩ := g3 _ _ (hold i v hv)
        refine ⟨v', ?_, p2.mono hext⟩
        show arr'[L.d + o + i]? = some v'
        rw [keep _ (by omega), show L.d + o + i = L.d + (o + i) by omega]
        exact p1
      · rw [List.getElem?_append_right (by omega)] at hv
        obtain ⟨v', p1, p2⟩ := hnew.get hv
        have hi2 := (List.getElem?_eq_some_iff.1 hv).1
        refine ⟨v', ?_, p2.mono hext⟩
        show arr'[L.d + o + i]? = some v'
        rw [hget, if_pos (by omega), show L.d + o + i - (c.length + L.d) = i - old.length by omega]
        exact p1
    · have hM : ρ x = some M := by unfold upd at hx; rw [if_neg hne] at hx; exact hx
      rw [hb] at hM; cases hM
      refine (keepBlk x L (.cells c e true false kin) hb (.inl (by simp [Blk.ext])) ⟨arr, e', fz, h1, g2, g3, (by simp), g5, g6⟩ (fun c' e1 r' o' k' h _ => by cases h; rfl) (fun _ => ⟨c, e, true, false, kin, rfl⟩)).mono hext
    · have hM : ρ x = some M := by unfold upd at hx; rw [if_neg hne] at hx; exact hx
      have hCw := hs.blk x M C hM hC'
      by_cases hr : M.r = L.r
      · have hk := hown.2 x M C hM hr hC' hnb
        have hcells : ∃ c' e1 r' o' k', C = .cells c' e1 r' o' k' := by
          cases C with
          | cells c' e1 r' o' k' => exact ⟨_, _, _, _, _, rfl⟩
          | map _ _ => obtain ⟨_, q, _⟩ := hCw; rw [hr, h1] at q; cases q
          | iter _ _ => have q : w.heap[M.r]? = _ := hCw; rw [hr, h1] at q; cases q
          | loop _ _ _ _ _ _ _ _ => obtain ⟨_, _, _, q, _⟩ := hCw; rw [hr, h1] at q; cases q
          | defs _ => have q : w.heap[M.r]? = _ := hCw; rw [hr, h1] at q; cases q
          | mapIt _ => obtain ⟨_, _, _, _, _, q⟩ := hCw; rw [hr, h1] at q; cases q
        refine (keepBlk x M C hM (.inl hk.2.2) hCw (fun c' e1 r' o' k' h _ => ?_) (fun _ => hcells)).mono hext
        subst h
        exact hk.2.1
      · exact (keepBlk x M C hM (.inr hr) hCw (fun _ _ _ _ _ _ h => absurd h hr) (fun h => absurd h hr)).mono hext
  · rcases hget2 x C hC with ⟨rfl, rfl⟩ | ⟨hne, rfl, rfl⟩ | ⟨hne, hnb, hC'⟩
    · have hM : M = ⟨L.r, L.d + o, L.tot, L.z⟩ := by rw [upd_same] at hx; exact (Option.some.inj hx).symm
      subst hM
      refine ⟨hown.1, fun y L' B' hy hr hB' hyn => ?_⟩
      have hy' : ρ y = some L' := by unfold upd at hy; rw [if_neg hyn] at hy; exact hy
      rcases hget2 y B' hB' with ⟨e1, _⟩ | ⟨_, rfl, rfl⟩ | ⟨_, hyb, hB0⟩
      · exact absurd e1 hyn
      · rw [hb] at hy'; cases hy'
        refine ⟨by simp [Blk.kin], rfl, ?_⟩
        simp only [Blk.ext, List.length_append]
        omega
      · have hk := hown.2 y L' B' hy' hr hB0 hyb
        refine ⟨by simp only [Blk.kin, List.mem_cons]; exact .inr hk.1, hk.2.1, ?_⟩
        have := hk.2.2
        simp only [Blk.ext, List.length_append] at this ⊢
        omega
    · simp [Blk.mine] at hm
    · have hM : ρ x = some M := by unfold upd at hx; rw [if_neg hne] at hx; exact hx
      have hold' := hs.own x M C hM hC' hm
      have hrne : M.r ≠ L.r := by
        intro hr
        have := (hown.2 x M C hM hr hC' hnb).2.1
        rw [hm] at this
        cases this
      refine ⟨hold'.1, fun y L' B' hy hr hB' hyn => ?_⟩
      rcases hget2 y B' hB' with ⟨rfl, _⟩ | ⟨hyS, rfl, _⟩ | ⟨hyS, hyb, hB0⟩
      · rw [upd_same] at hy; cases hy
        exact absurd hr.symm hrne
      · have hy' : ρ y = some L' := by unfold upd at hy; rw [if_neg hyS] at hy; exact hy
        rw [hb] at hy'; cases hy'
        exact absurd hr.symm hrne
      · have hy' : ρ y = some L' := by unfold upd at hy; rw [if_neg hyS] at hy; exact hy
        exact hold'.2 y L' B' hy' hr hB0 hyn
  · have := hs.no x hx
    refine ⟨?_, by show x < S.size + 1; omega⟩
    unfold upd
    rw [if_neg (by omega)]
    exact this.1

end Go.Cm
