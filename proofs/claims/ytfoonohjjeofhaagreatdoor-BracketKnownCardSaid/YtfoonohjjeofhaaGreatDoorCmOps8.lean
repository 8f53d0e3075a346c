/-
  CM, part 8e: maps turned; conversions; least and greatest.
-/
import Derived.Test.YtfoonohjjeofhaaGreatDoorCmOps7
namespace Go.Cm
open Go
variable {P : Program} {w0 : Base}

theorem setObj_put {w : World} {r : Nat} {o o' : Obj} (h : w.heap[r]? = some o) (hnc : ∀ c e f, o ≠ .cells c e f) : ∃ w', (setObj r o').run P w = .ok () w' ∧ WPut r o' w w' := by
  have hr : r < w.heap.size := (Array.getElem?_eq_some_iff.1 h).1
  refine ⟨{ w with heap := w.heap.setIfInBounds r o' }, ?_, ⟨fun k hk => ?_, ?_, by simp, rfl, rfl⟩⟩
  · cases o <;> first
      | exact absurd rfl (hnc _ _ _)
      | simp [setObj, Sem.run, h]
  · show (w.heap.setIfInBounds r o')[k]? = _
    rw [Array.getElem?_setIfInBounds, if_neg (fun e => hk e.symm)]
  · show (w.heap.setIfInBounds r o')[r]? = _
    rw [Array.getElem?_setIfInBounds, if_pos rfl, if_pos hr]

theorem plainKey_vr {ρ : Rmap} : ∀ (n : Nat) (k v' : Value), plainKey n k = true → VR ρ k v' → v' = k
  | n, .bool _, _, _, h => by cases h; rfl
  | n, .int _ _, _, _, h => by cases h; rfl
  | n, .string _, _, _, h => by cases h; rfl
  | n + 1, .agg ⟨cs⟩, v', hp, h => by
    obtain ⟨a', rfl, hr⟩ := h.agg_inv
    congr 1
    apply Array.ext'
    simp only [plainKey] at hp
    apply List.ext_getElem?
    intro i
    have hp' : ∀ x, x ∈ cs → plainKey n x = true := by simpa using hp
    by_cases hi : i < cs.length
    · have hx := List.getElem?_eq_getElem hi
      obtain ⟨x', h1, h2⟩ := hr.get (i := i) (v := cs[i]) hx
      rw [h1, hx, plainKey_vr n _ _ (hp' _ (List.getElem_mem hi)) h2]
    · have hl := hr.1
      rw [List.getElem?_eq_none (by rw [← hl]; exact Nat.le_of_not_lt hi), List.getElem?_eq_none (Nat.le_of_not_lt hi)]
  | 0, .agg _, _, hp, _ => by simp [plainKey] at hp
  | n, .float _ _, _, hp, _ => by cases n <;> simp [plainKey] at hp
  | n, .complex _ _ _, _, hp, _ => by cases n <;> simp [plainKey] at hp
  | n, .pointer _, _, hp, _ => by cases n <;> simp [plainKey] at hp
  | n, .slice _ _ _, _, hp, _ => by cases n <;> simp [plainKey] at hp
  | n, .map _, _, hp, _ => by cases n <;> simp [plainKey] at hp
  | n, .chan _, _, hp, _ => by cases n <;> simp [plainKey] at hp
  | n, .func _ _ _, _, hp, _ => by cases n <;> simp [plainKey] at hp
  | n, .nilFunc, _, hp, _ => by cases n <;> simp [plainKey] at hp
  | n, .iface _ _, _, hp, _ => by cases n <;> simp [plainKey] at hp
  | n, .nilIface, _, hp, _ => by cases n <;> simp [plainKey] at hp
  | n, .tuple _, _, hp, _ => by cases n <;> simp [plainKey] at hp

theorem sameBits_refl : ∀ (n N : Nat) (k : Value), n ≤ N → plainKey n k = true → Instr.sameBits N k k = true
  | n, N, .bool _, _, _ => by simp [Instr.sameBits]
  | n, N, .int _ _, _, _ => by simp [Instr.sameBits]
  | n, N, .string _, _, _ => by simp [Instr.sameBits, beq_toListBytes]
  | n + 1, N, .agg ⟨cs⟩, hN, hp => by
    obtain ⟨N, rfl⟩ : ∃ M, N = M + 1 := ⟨N - 1, by omega⟩
    have hp' : ∀ x, x ∈ cs → plainKey n x = true := by simpa [plainKey] using hp
    have : ∀ l : List Value, (∀ x, x ∈ l → plainKey n x = true) → (l.zip l).all (fun x => Instr.sameBits N x.1 x.2) = true := by
      intro l
      induction l with
      | nil => simp
      | cons x l ih =>
        intro hl
        simp only [List.zip_cons_cons, List.all_cons, Bool.and_eq_true]
        exact ⟨sameBits_refl n N x (by omega) (hl x (by simp)), ih fun y hy => hl y (by simp [hy])⟩
    simp only [Instr.sameBits, beq_self_eq_true, Bool.true_and]
    exact this cs hp'
  | 0, N, .agg _, _, hp => by simp [plainKey] at hp
  | n, N, .float _ _, _, hp => by cases n <;> simp [plainKey] at hp
  | n, N, .complex _ _ _, _, hp => by cases n <;> simp [plainKey] at hp
  | n, N, .pointer _, _, hp => by cases n <;> simp [plainKey] at hp
  | n, N, .slice _ _ _, _, hp => by cases n <;> simp [plainKey] at hp
  | n, N, .map _, _, hp => by cases n <;> simp [plainKey] at hp
  | n, N, .chan _, _, hp => by cases n <;> simp [plainKey] at hp
  | n, N, .func _ _ _, _, hp => by cases n <;> simp [plainKey] at hp
  | n, N, .nilFunc, _, hp => by cases n <;> simp [plainKey] at hp
  | n, N, .iface _ _, _, hp => by cases n <;> simp [plainKey] at hp
  | n, N, .nilIface, _, hp => by cases n <;> simp [plainKey] at hp
  | n, N, .tuple _, _, hp => by cases n <;> simp [plainKey] at hp

theorem setEntry_get : ∀ (es : List MapEntry) (i : Nat) (k v : Value) (j : Nat), (setEntry es i k v)[j]? = if i = j then (es[j]?).map (fun e => { e with key := k, val := v }) else es[j]?
  | [], i, k, v, j => by simp [setEntry]
  | e :: es, 0, k, v, 0 => by simp [setEntry]
  | e :: es, 0, k, v, j + 1 => by simp [setEntry]
  | e :: es, i + 1, k, v, 0 => by simp [setEntry]
  | e :: es, i + 1, k, v, j + 1 => by simp [setEntry, setEntry_get es i k v j]
theorem setEntry_length : ∀ (es : List MapEntry) (i : Nat) (k v : Value), (setEntry es i k v).length = es.length
  | [], i, k, v => by simp [setEntry]
  | e :: es, 0, k, v => by simp [setEntry]
  | e :: es, i + 1, k, v => by simp [setEntry, setEntry_length es i k v]

theorem mapUpdate_sound {ρ : Rmap} {S S' : St} {w : World} (hs : Sim P w0 ρ S w) {t : TypeId} {m k v m' k' v' : Value} (h : mapUpdateV P t m k v S = some S') (hm : VR ρ m m') (hk : VR ρ k k') (hv : VR ρ v v') :
    ∃ w', (Instr.mapUpdate t m' k' v').run P w = .ok () w' ∧ Sim P w0 ρ S' w' := by
  unfold mapUpdateV at h
  split at h
  case h_2 => cases h
  rename_i key elem r hu
  split at h
  case h_2 => cases h
  rename_i es clock hB
  split at h
  case isFalse => cases h
  rename_i hkk
  rw [Bool.and_eq_true] at hkk
  cases hm with
  | map hb =>
    rename_i L
    obtain ⟨es', h1, h2⟩ := hs.blk _ _ _ hb hB
    have hg : (getObj L.r).run P w = .ok (.map es'.toArray clock) w := by simp [getObj, Sem.run, h1]
    have hck := keyOk_sound (P := P) (ρ := ρ) false 20 10000 key k k' w (by decide) hkk.1 hk
    obtain ⟨d, hd⟩ := keyOk_und hkk.1
    have hkeq := plainKey_vr 20 k k' hkk.2 hk
    subst hkeq
    split at h
    · rename_i i v0 hf
      split at h
      case h_2 => cases h
      rename_i e hei
      cases hsame : sameV 1000 e.key k' with
      | false => rw [hsame] at h; cases h
      | true =>
        rw [hsame] at h
        simp only [cond_true, Option.some.injEq] at h
        subst h
        obtain ⟨q, a, b⟩ := find_sound hk w h2 hf hd
        cases q with
        | none => exact b.elim
        | some y =>
          obtain ⟨j, vj⟩ := y
          obtain ⟨rfl, hvj⟩ := b
          rw [nth_eq] at hei
          have hil := (List.getElem?_eq_some_iff.1 hei).1
          obtain ⟨e2, hei'⟩ : ∃ e2, es'[i]? = some e2 := ⟨_, List.getElem?_eq_getElem (by rw [← h2.1]; exact hil)⟩
          have her := h2.2 i e _ hei hei'
          have hek : e2.key = k' := by
            have h3 := sameV_eq _ _ _ hsame
            have h4 := her.1
            rw [h3] at h4
            exact plainKey_vr 20 k' _ hkk.2 h4
          obtain ⟨w', p1, p2⟩ := setObj_put (P := P) (o' := .map (es'.toArray.modify i fun e => { e with key := k', val := v' }) clock) h1 (by simp)
          refine ⟨w', ?_, ?_⟩
          · have hks : (Instr.keyThatStays k' k').run P w = .ok k' w := by simp [Instr.keyThatStays, sameBits_refl 20 10000 k' (by decide) hkk.2]
            have hgd : ((es'.toArray[i]?).map (·.key)).getD k' = k' := by
              have : es'.toArray[i]? = some e2 := by simpa using hei'
              rw [this]; exact hek
            simp only [Instr.mapUpdate, Sem.run_bind, run_und w hu, Result.andThen_ok, hg, hck, a, hgd, hks, p1]
          · have hput := hs.put (B := .map es clock) (B' := .map (setEntry es i k' v) clock) hb hB rfl p2 ⟨(es'.toArray.modify i fun e => { e with key := k', val := v' }).toList, by simp, by
                refine ⟨by rw [setEntry_length]; simpa using h2.1, fun x a a' hx hx' => ?_⟩
                rw [setEntry_get] at hx
                rw [Array.getElem?_toList, Array.getElem?_modify] at hx'
                have hxx : es'.toArray[x]? = es'[x]? := by simp
                rw [hxx] at hx'
                by_cases hix : i = x
                · subst hix
                  rw [if_pos rfl, hei] at hx
                  rw [if_pos rfl, hei'] at hx'
                  cases hx; cases hx'
                  exact ⟨hk, hv, her.2.2⟩
                · rw [if_neg hix] at hx hx'
                  exact h2.2 x a a' hx hx'⟩
            exact hput
    · rename_i hf
      cases h
      obtain ⟨q, a, b⟩ := find_sound hk w h2 hf hd
      cases q with
      | some y => exact b.elim
      | none =>
        obtain ⟨w', p1, p2⟩ := setObj_put (P := P) (o' := .map (es'.toArray.push { key := k', val := v', born := clock }) (clock + 1)) h1 (by simp)
        refine ⟨w', by simp only [Instr.mapUpdate, Sem.run_bind, run_und w hu, Result.andThen_ok, hg, hck, a, p1], ?_⟩
        have hput := hs.put (B := .map es clock) (B' := .map (es ++ [{ key := k', val := v, born := clock }]) (clock + 1)) hb hB rfl p2 ⟨es' ++ [{ key := k', val := v', born := clock }], by simp, by
          refine ⟨by simp [h2.1], fun x a a' hx hx' => ?_⟩
          by_cases hxl : x < es.length
          · rw [List.getElem?_append_left hxl] at hx
            rw [List.getElem?_append_left (by rw [← h2.1]; exact hxl)] at hx'
            exact h2.2 x a a' hx hx'
          · rw [List.getElem?_append_right (by omega)] at hx
            rw [List.getElem?_append_right (by rw [← h2.1]; omega), ← h2.1] at hx'
            have : x - es.length = 0 := by
              have := (List.getElem?_eq_some_iff.1 hx).1
              simp at this; omega
            rw [this] at hx hx'
            simp at hx hx'
            subst hx; subst hx'
            exact ⟨hk, hv, rfl⟩⟩
        exact hput
    · cases h

theorem minmax_sound {ρ : Rmap} {isMax : Bool} {ty : TypeId} {ts : Array TypeId} : ∀ (r r' : List Value) (x x' v : Value), minmaxV isMax x r = some v → VR ρ x x' → VRs ρ r r' → ∀ w : World,
    ∃ v', (r'.foldlM (if isMax then Builtin.max2 else Builtin.min2) x').run P w = .ok v' w ∧ VR ρ v v'
  | [], r', x, x', v, h, hx, hr, w => by
    cases hr.nil_inv
    simp [minmaxV] at h; subst h
    exact ⟨x', by simp, hx⟩
  | y :: r, r', x, x', v, h, hx, hr, w => by
    obtain ⟨y', r'', rfl, hy, hr'⟩ := hr.cons_inv
    cases x <;> cases y <;> simp only [minmaxV] at h <;> try (cases h; done)
    cases hx; cases hy
    obtain ⟨v', a, b⟩ := minmax_sound (ty := ty) (ts := ts) r r'' _ _ v h (.int _ _) hr' w
    refine ⟨v', ?_, b⟩
    rw [List.foldlM_cons, Sem.run_bind]
    cases isMax <;> simp only [Builtin.min2, Builtin.max2, Bool.false_eq_true, if_true, if_false, Sem.run_pure, Result.andThen_ok] at a ⊢ <;> exact a

end Go.Cm
