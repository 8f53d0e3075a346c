/-
  CM, part 3: reading, writing and making memory: what the canonical machine does, the model does.
-/
import Derived.Test.YtfoonohjjeofhaaGreatDoorCmBase
import Derived.Laws.Entries
import Derived.Laws.Cells
import Derived.Laws.Append
import Derived.Laws.Slices
import Derived.Laws.StructEq
import Derived.ChangeKeysEq
namespace Go.Cm
open Go
variable {P : Program}

theorem run_und {t : TypeId} {d : TypeDesc} (w : World) (h : P.underlying t = some d) : (underlying t).run P w = .ok d w := by
  simp [underlying, h]
theorem run_info {t : TypeId} {i : TypeInfo} (w : World) (h : P.info? t = some i) : (typeInfo t).run P w = .ok i w := by
  simp [typeInfo, h]
theorem szOf_info {t : TypeId} {n : Nat} (h : szOf P t = some n) : ∃ i, P.info? t = some i ∧ i.size = n := by
  unfold szOf at h
  split at h
  · rename_i i hi; cases h; exact ⟨i, hi, rfl⟩
  · cases h
theorem run_size {t : TypeId} {n : Nat} (w : World) (h : szOf P t = some n) : (sizeOf t).run P w = .ok n w := by
  obtain ⟨i, hi, rfl⟩ := szOf_info h
  simp [sizeOf, run_info w hi]
theorem aggOf_und {t : TypeId} {b : Bool} (h : aggOf P t = some b) : ∃ d, P.underlying t = some d ∧ b = (match d with | .struct _ | .array _ _ => true | _ => false) := by
  unfold aggOf at h
  split at h
  · rename_i f hd; cases h; exact ⟨_, hd, rfl⟩
  · rename_i n e hd; cases h; exact ⟨_, hd, rfl⟩
  · rename_i d h1 h2 hd
    cases h
    refine ⟨d, hd, ?_⟩
    cases d <;> first | rfl | (exact absurd rfl (h1 _)) | (exact absurd rfl (h2 _ _))
  · cases h
theorem run_agg {t : TypeId} {b : Bool} (w : World) (h : aggOf P t = some b) : (isAgg t).run P w = .ok b w := by
  obtain ⟨d, hd, rfl⟩ := aggOf_und h
  simp only [isAgg, Sem.run_bind, run_und w hd, Result.andThen_ok]
  cases d <;> rfl

/-! ### Flat values -/
mutual
theorem flatV_spec : ∀ (n : Nat) (v : Value), flatV n v = true → Flat v
  | 0, v, h => by simp [flatV] at h
  | n + 1, .bool b, _ => .bool b
  | n + 1, .int k m, _ => .int k m
  | n + 1, .float k m, _ => .float k m
  | n + 1, .complex k a b, _ => .complex k a b
  | n + 1, .string s, _ => .string s
  | n + 1, .pointer none, _ => .pnil
  | n + 1, .pointer (some _), h => by simp [flatV] at h
  | n + 1, .slice none 0 0, _ => .snil
  | n + 1, .slice none (a + 1) b, h => by simp [flatV] at h
  | n + 1, .slice none 0 (b + 1), h => by simp [flatV] at h
  | n + 1, .slice (some _) _ _, h => by simp [flatV] at h
  | n + 1, .map none, _ => .mnil
  | n + 1, .map (some _), h => by simp [flatV] at h
  | n + 1, .chan _, h => by simp [flatV] at h
  | n + 1, .nilFunc, _ => .nilFunc
  | n + 1, .func f ⟨a⟩ ⟨c⟩, h => by
    cases f <;> cases a <;> cases c <;> first | exact .func _ | simp [flatV] at h
  | n + 1, .nilIface, _ => .nilIface
  | n + 1, .iface t v, h => .iface t (flatV_spec n v (by simpa [flatV] using h))
  | n + 1, .agg ⟨a⟩, h => .agg (flatL_spec n a (by simpa [flatV] using h))
  | n + 1, .tuple ⟨a⟩, h => .tuple (flatL_spec n a (by simpa [flatV] using h))
theorem flatL_spec : ∀ (n : Nat) (l : List Value), flatL n l = true → ∀ (i : Nat) v, l[i]? = some v → Flat v
  | 0, l, h, _, _, _ => by simp [flatL] at h
  | n + 1, [], _, i, v, hv => by simp at hv
  | n + 1, x :: l, h, i, v, hv => by
    simp only [flatL, Bool.and_eq_true] at h
    cases i with
    | zero => simp at hv; subst hv; exact flatV_spec n x h.1
    | succ i => exact flatL_spec n l h.2 i v (by simpa using hv)
end

theorem zeroV_spec {t : TypeId} {z : Value} (h : zeroV P t = some z) : ∃ i, P.info? t = some i ∧ i.zero = some z ∧ Flat z := by
  unfold zeroV at h
  split at h
  · rename_i i hi
    split at h
    · rename_i v hv
      cases hf : flatV flatN v with
      | false => rw [hf] at h; cases h
      | true => rw [hf] at h; cases h; exact ⟨i, hi, hv, flatV_spec _ _ hf⟩
    · cases h
  · cases h
theorem run_zero {t : TypeId} {z : Value} (w : World) (h : zeroV P t = some z) : (zeroValue t).run P w = .ok z w := by
  obtain ⟨i, hi, hz, _⟩ := zeroV_spec h
  simp [zeroValue, run_info w hi, hz]
theorem zeroOf_spec {t : TypeId} {c : List Value} (h : zeroOf P t = some c) : ∃ z, zeroV P t = some z ∧ c = cellsL z ∧ Flat z := by
  unfold zeroOf at h
  split at h
  · rename_i z hz
    cases h
    obtain ⟨_, _, _, hf⟩ := zeroV_spec hz
    exact ⟨z, hz, rfl, hf⟩
  · cases h

/-! ### Parts of aggregates -/
theorem part_sound {ρ : Rmap} {t : TypeId} {cs : List Value} {off : Nat} {v : Value} (h : partL P t cs off = some v) {cs' : Array Value} (hc : VRs ρ cs cs'.toList) (w : World) :
    ∃ v', (part t cs' off).run P w = .ok v' w ∧ VR ρ v v' := by
  unfold partL at h
  split at h
  · rename_i ha
    split at h
    · rename_i n hn
      split at h
      · rename_i l hl
        cases h
        obtain ⟨h1, h2, h3⟩ := takeN_spec _ _ _ hl
        refine ⟨.agg (cs'.extract off (off + n)), by simp [part, run_agg w ha, run_size w hn], ?_⟩
        have : (cs'.extract off (off + n)).toList = (cs'.toList.drop off).take n := by
          rw [Array.toList_extract]; simp [List.extract]
        refine VR.agg' (l := l) (l' := (cs'.extract off (off + n)).toList) ?_
        rw [this, h3, dropN_eq]
        exact (hc.drop off).take n
      · cases h
    · cases h
  · rename_i ha
    rw [nth_eq] at h
    obtain ⟨v', hv', hr⟩ := hc.get h
    refine ⟨v', ?_, hr⟩
    have : cs'[off]? = some v' := by rw [← Array.getElem?_toList]; exact hv'
    simp [part, run_agg w ha, this]
  · cases h

/-! ### Reading -/
theorem cell_of {w : World} {r : Nat} {arr : Array Value} {e : TypeId} {fz : Nat × Nat} (h : w.heap[r]? = some (.cells arr e fz)) (i : Nat) : w.cell? ⟨r, i, none⟩ = arr[i]? := by
  simp [World.cell?, h]

theorem loadCells_sound {ρ : Rmap} {w : World} {r d : Nat} {arr : Array Value} {e : TypeId} {fz : Nat × Nat} (h : w.heap[r]? = some (.cells arr e fz)) {c : List Value}
    (hc : ∀ (i : Nat) v, c[i]? = some v → ∃ v', arr[d + i]? = some v' ∧ VR ρ v v') {o n : Nat} {l : List Value} (hl : takeN n (dropN o c) = some l) :
    ∃ l' : List Value, (loadCells ⟨r, o + d, none⟩ n).run P w = .ok l'.toArray w ∧ VRs ρ l l' := by
  obtain ⟨h1, h2, h3⟩ := takeN_spec _ _ _ hl
  rw [dropN_eq] at h2 h3
  have key : ∀ j, j < n → ∃ v v', l[j]? = some v ∧ arr[o + d + j]? = some v' ∧ VR ρ v v' := by
    intro j hj
    have hj' : j < l.length := by omega
    refine ⟨l[j], ?_⟩
    have hv : l[j]? = some l[j] := List.getElem?_eq_getElem hj'
    have e0 : l[j]? = c[o + j]? := by
      conv => lhs; rw [h3]
      rw [List.getElem?_take, if_pos hj, List.getElem?_drop]
    have hcv : c[o + j]? = some l[j] := e0 ▸ hv
    obtain ⟨v', ha, hr⟩ := hc _ _ hcv
    exact ⟨v', hv, by rw [show o + d + j = d + (o + j) by omega]; exact ha, hr⟩
  refine ⟨(List.range n).map fun j => arr.getD (o + d + j) undef, ?_, ?_⟩
  · rw [run_loadCells w ⟨r, o + d, none⟩ n (fun j => arr.getD (o + d + j) undef)]
    intro j hj
    obtain ⟨v, v', _, ha, _⟩ := key j hj
    rw [Addr.add_lit, cell_of h, ha]
    simp [Array.getD_eq_getD_getElem?, ha]
  · refine ⟨by simp [h1], fun i v v' hv hv' => ?_⟩
    have hi : i < n := by have := (List.getElem?_eq_some_iff.1 hv).1; omega
    obtain ⟨x, x', hx, hx', hr⟩ := key i hi
    rw [hv] at hx; cases hx
    simp [List.getElem?_range hi, Array.getD_eq_getD_getElem?, hx'] at hv'
    subst hv'
    exact hr

theorem loadVar_sound {ρ : Rmap} {w : World} {r d : Nat} {arr : Array Value} {e : TypeId} {fz : Nat × Nat} (h : w.heap[r]? = some (.cells arr e fz)) {c : List Value}
    (hc : ∀ (i : Nat) v, c[i]? = some v → ∃ v', arr[d + i]? = some v' ∧ VR ρ v v') {t : TypeId} {o : Nat} {v : Value} (hl : partL P t c o = some v) :
    ∃ v', (loadVar t ⟨r, o + d, none⟩).run P w = .ok v' w ∧ VR ρ v v' := by
  unfold partL at hl
  split at hl
  · rename_i ha
    split at hl
    · rename_i n hn
      split at hl
      · rename_i l hl'
        cases hl
        obtain ⟨l', h1, h2⟩ := loadCells_sound (P := P) h hc hl'
        exact ⟨.agg l'.toArray, by simp [loadVar, run_agg w ha, run_size w hn, h1], VR.agg' (l := l) (l' := l') h2⟩
      · cases hl
    · cases hl
  · rename_i ha
    rw [nth_eq] at hl
    obtain ⟨v', h1, h2⟩ := hc _ _ hl
    refine ⟨v', ?_, h2⟩
    have : w.cell? ⟨r, o + d, none⟩ = some v' := by rw [cell_of h, Nat.add_comm]; exact h1
    simp [loadVar, run_agg w ha, this]
  · cases hl

variable {w0 : Base}

theorem load_sound {ρ : Rmap} {S : St} {w : World} (hs : Sim P w0 ρ S w) {t : TypeId} {x x' v : Value} (h : loadV P t x S = some v) (hx : VR ρ x x') :
    ∃ v', (Instr.loadAt t x').run P w = .ok v' w ∧ VR ρ v v' := by
  unfold loadV at h
  split at h
  · rename_i b o
    split at h
    · rename_i c e row own kin hB
      cases hx with
      | ptr hb =>
        rename_i L
        obtain ⟨arr, e', fz, h1, h2, h3, h4, h5⟩ := hs.blk b L _ hb hB
        obtain ⟨v', a1, a2⟩ := loadVar_sound (P := P) (ρ := ρ) h1 h3 h
        exact ⟨v', by simp [Instr.loadAt, Instr.sureAddr, a1], a2⟩
    · cases h
  · cases h

/-! ### Writing -/
theorem setCell_put {w : World} {r o : Nat} {arr : Array Value} {e : TypeId} {fz : Nat × Nat} (h : w.heap[r]? = some (.cells arr e fz)) (v : Value) :
    WPut r (.cells (arr.setIfInBounds o v) e fz) w (w.setCell ⟨r, o, none⟩ v) := by
  have hr : r < w.heap.size := (Array.getElem?_eq_some_iff.1 h).1
  refine ⟨fun k hk => ?_, ?_, by simp, rfl, rfl⟩
  · simp only [World.setCell, Array.getElem?_modify]
    rw [if_neg (fun e => hk e.symm)]
  · simp only [World.setCell, Array.getElem?_modify, if_true, h, Option.map_some]
    simp

theorem WPut.trans {r : Nat} {o o' : Obj} {a b c : World} (h : WPut r o a b) (k : WPut r o' b c) : WPut r o' a c :=
  ⟨fun j hj => (k.same j hj).trans (h.same j hj), k.now, k.size.trans h.size, k.os.trans h.os, k.out.trans h.out⟩

theorem run_storeCells {r : Nat} {e : TypeId} {fz : Nat × Nat} : ∀ (vs : List Value) (w : World) (arr : Array Value) (o i : Nat), w.heap[r]? = some (.cells arr e fz) →
    o + i + vs.length ≤ arr.size → (∀ j, j < arr.size → ¬ (fz.1 ≤ j ∧ j < fz.2)) → (∀ v, v ∈ vs → v.oneCell' = true) →
    ∃ (arr' : Array Value) (w' : World), (storeCells ⟨r, o, none⟩ vs i).run P w = .ok () w' ∧ WPut r (.cells arr' e fz) w w' ∧ arr'.size = arr.size ∧
      ∀ j, arr'[j]? = if o + i ≤ j ∧ j < o + i + vs.length then vs[j - (o + i)]? else arr[j]?
  | [], w, arr, o, i, h, _, _, _ => ⟨arr, w, by simp [storeCells], ⟨fun _ _ => rfl, h, rfl, rfl, rfl⟩, rfl, fun j => by rw [if_neg (by simp only [List.length_nil]; omega)]⟩
  | v :: vs, w, arr, o, i, h, hl, hf, h1 => by
    simp only [List.length_cons] at hl
    have hcell : w.cell? (Addr.add ⟨r, o, none⟩ i) = some arr[o + i] := by
      rw [Addr.add_lit, cell_of h]; exact Array.getElem?_eq_getElem (by omega)
    have hfz : w.frozen? (Addr.add ⟨r, o, none⟩ i) = false := by
      rw [Addr.add_lit]
      have := hf (o + i) (by omega)
      obtain ⟨lo, hi⟩ := fz
      simp only [World.frozen?, h, Bool.and_eq_false_iff, decide_eq_false_iff_not]
      simp only at this
      omega
    have hstore : (store (Addr.add ⟨r, o, none⟩ i) v).run P w = .ok () (w.setCell ⟨r, o + i, none⟩ v) := by
      rw [run_store P w _ v .plain (h1 v (by simp)), hcell, hfz, Addr.add_lit]; rfl
    have hp := setCell_put (o := o + i) h v
    have ih := run_storeCells vs (w.setCell ⟨r, o + i, none⟩ v) (arr.setIfInBounds (o + i) v) o (i + 1) hp.now (by simp; omega) (fun j hj => hf j (by simpa using hj)) (fun x hx => h1 x (by simp [hx]))
    obtain ⟨arr', w', a1, a2, a3, a4⟩ := ih
    refine ⟨arr', w', ?_, hp.trans a2, by simpa using a3, fun j => ?_⟩
    · simp only [storeCells, Sem.run_bind, hstore, Result.andThen_ok, a1]
    · rw [a4 j]
      simp only [List.length_cons]
      by_cases hj : j = o + i
      · subst hj
        rw [if_neg (by omega), if_pos (by omega)]
        simp [Array.getElem?_setIfInBounds]
        omega
      · by_cases hc : o + i ≤ j ∧ j < o + i + (vs.length + 1)
        · rw [if_pos (by omega), if_pos hc, show j - (o + i) = (j - (o + (i + 1))) + 1 by omega]
          simp
        · rw [if_neg (by omega), if_neg hc, Array.getElem?_setIfInBounds, if_neg (by omega)]

theorem cellV_eq (v : Value) : cellV v = v.oneCell' := by cases v <;> rfl

theorem write_sound {ρ : Rmap} {S S' : St} {w : World} (hs : Sim P w0 ρ S w) {b o : Nat} {L : Loc} (hb : ρ b = some L) {vs vs' : List Value} (h : writeCells S b o vs = some S') (hv : VRs ρ vs vs') :
    ∃ w', (storeCells ⟨L.r, o + L.d, none⟩ vs').run P w = .ok () w' ∧ Sim P w0 ρ S' w' := by
  unfold writeCells at h
  split at h
  · rename_i c e row kin hB
    cases hg : (vs.all cellV && Nat.blt 0 vs.length) with
    | false => rw [hg] at h; cases h
    | true =>
      rw [hg] at h
      simp only [cond_true] at h
      split at h
      · rename_i c' hc'
        cases h
        rw [Bool.and_eq_true] at hg
        obtain ⟨s1, s2, s3⟩ := setN_spec _ _ _ _ hc'
        have hpos : 0 < vs.length := nblt_tt hg.2
        have hle := s2 (by intro e; rw [e] at hpos; simp at hpos)
        obtain ⟨arr, e', fz, h1, h2, h3, h4, h5⟩ := hs.blk b L _ hb hB
        have hd : L.d + c.length ≤ arr.size := by
          by_cases hc0 : c.length = 0
          · omega
          · obtain ⟨v', hv', _⟩ := h3 (c.length - 1) _ (List.getElem?_eq_getElem (by omega))
            have := (Array.getElem?_eq_some_iff.1 hv').1
            omega
        have hone : ∀ v, v ∈ vs' → v.oneCell' = true := by
          intro v hvm
          obtain ⟨i, hi⟩ := List.getElem?_of_mem hvm
          have hil : i < vs.length := by rw [hv.1]; exact (List.getElem?_eq_some_iff.1 hi).1
          have hvi := List.getElem?_eq_getElem hil
          have hr := hv.2 i _ _ hvi hi
          rw [hr.oneCell, ← cellV_eq]
          exact List.all_eq_true.1 hg.1 _ (List.getElem_mem hil)
        obtain ⟨arr', w', a1, a2, a3, a4⟩ := run_storeCells (P := P) vs' w arr (o + L.d) 0 h1 (by rw [← hv.1]; omega) (fun j hj => h4 rfl j (by omega)) hone
        refine ⟨w', a1, ?_⟩
        refine hs.put (B := .cells c e row true kin) (B' := .cells c' e row true []) hb hB rfl a2 ⟨arr', e', fz, rfl, by omega, fun i v hiv => ?_, h4, h5.1, fun hr => by rw [s1]; exact h5.2.1 hr, h5.2.2⟩
        rw [s3] at hiv
        rw [a4]
        by_cases hin : o ≤ i ∧ i < o + vs.length
        · rw [if_pos hin] at hiv
          rw [if_pos (by rw [← hv.1]; omega)]
          obtain ⟨v', x1, x2⟩ := hv.get hiv
          exact ⟨v', by rw [show L.d + i - (o + L.d + 0) = i - o by omega]; exact x1, x2⟩
        · rw [if_neg hin] at hiv
          rw [if_neg (by rw [← hv.1]; omega)]
          exact h3 i v hiv
      · cases h
  · cases h

theorem store_sound {ρ : Rmap} {S S' : St} {w : World} (hs : Sim P w0 ρ S w) {t : TypeId} {a a' v v' : Value} (h : storeV P t a v S = some S') (ha : VR ρ a a') (hv : VR ρ v v') :
    ∃ w', (Instr.storeAt t a' v').run P w = .ok () w' ∧ Sim P w0 ρ S' w' := by
  unfold storeV at h
  split at h
  · rename_i b o
    split at h
    · rename_i n hn
      cases hg : Nat.beq (cellsL v).length n with
      | false => rw [hg] at h; cases h
      | true =>
        rw [hg] at h
        simp only [cond_true] at h
        cases ha with
        | ptr hb =>
          rename_i L
          obtain ⟨w', a1, a2⟩ := write_sound hs hb h hv.cells
          refine ⟨w', ?_, a2⟩
          have hlen : v'.cells.size = n := by
            have := hv.cells.1
            rw [of_nbeq hg, cellsL_eq v'] at this
            simpa using this.symm
          rw [cellsL_eq v'] at a1
          simp [Instr.storeAt, Instr.sureAddr, storeVar, run_size w hn, hlen, a1]
    · cases h
  · cases h

/-! ### Making -/
theorem new_cells {ρ : Rmap} {S : St} {w : World} (hs : Sim P w0 ρ S w) {c : List Value} {arr : Array Value} (hc : ∀ (i : Nat) v, c[i]? = some v → ∃ v', arr[i]? = some v' ∧ VR ρ v v')
    {e e' : TypeId} {row : Bool} {kin : List Nat} {z : Nat} (hz : row = true → szOf P e = some z) (hz0 : row = false → z = 0 ∧ arr.size = c.length) (he : e ≠ 0 → e' = e) :
    Ext ρ (upd ρ S.size ⟨w.heap.size, 0, arr.size, z⟩) ∧
      Sim P w0 (upd ρ S.size ⟨w.heap.size, 0, arr.size, z⟩) ⟨S.heap.set S.size (some (.cells c e row true kin)), S.size + 1⟩ (w.alloc (.cells arr e')) := by
  have hnone : ρ S.size = none := by
    cases hx : ρ S.size with
    | none => rfl
    | some M => exact absurd (hs.dom _ _ hx).1 (Nat.lt_irrefl _)
  refine hs.add (L := ⟨w.heap.size, 0, arr.size, z⟩) rfl ⟨arr, e', (0, 0), rfl, rfl, fun i v hv => ?_, fun _ j _ hj => by simp at hj, hz, fun hr => ⟨(hz0 hr).1, rfl, (hz0 hr).2⟩, he⟩
  obtain ⟨v', h1, h2⟩ := hc i v hv
  exact ⟨v', by simpa using h1, h2.mono (ext_upd _ hnone)⟩
theorem upd_same (ρ : Rmap) (b : Nat) (L : Loc) : upd ρ b L b = some L := by simp [upd]

theorem new_var {ρ : Rmap} {S : St} {w : World} (hs : Sim P w0 ρ S w) {v v' : Value} (hv : VR ρ v v') (e : TypeId) :
    ∃ ρ' w', (newVar e v').run P w = .ok ⟨w.heap.size, 0, none⟩ w' ∧ Ext ρ ρ' ∧ Sim P w0 ρ' (newCells S (cellsL v) e false).2 w' ∧
      VR ρ' (newCells S (cellsL v) e false).1 (.pointer (some ⟨w.heap.size, 0, none⟩)) := by
  have hc := hv.cells
  rw [cellsL_eq v'] at hc
  obtain ⟨h1, h2⟩ := new_cells (e := e) (e' := e) (row := false) (kin := []) (z := 0) (arr := v'.cells) hs (c := cellsL v)
    (fun i x hx => by obtain ⟨x', a, b⟩ := hc.get hx; exact ⟨x', by rw [← Array.getElem?_toList]; exact a, b⟩) (by simp) (fun _ => ⟨rfl, by rw [hc.1]; simp⟩) (fun _ => rfl)
  refine ⟨_, _, rfl, h1, h2, ?_⟩
  exact VR.ptr (L := ⟨w.heap.size, 0, v'.cells.size, 0⟩) (upd_same _ _ _)

end Go.Cm
