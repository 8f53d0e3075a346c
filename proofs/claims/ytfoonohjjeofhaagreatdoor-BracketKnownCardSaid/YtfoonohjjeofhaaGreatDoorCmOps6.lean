/-
  CM, part 8c: append, make, maps.
-/
import Derived.Test.YtfoonohjjeofhaaGreatDoorCmOps5
namespace Go.Cm
open Go
variable {P : Program} {w0 : Base}

theorem list_toArray_eq (l : List Value) : l.toArray.toList = l := rfl

theorem size_zeroCells (z : Array Value) (n : Nat) : (Builtin.zeroCells z n).size = n * z.size := by simp [Builtin.zeroCells]

theorem source_len {S : St} {size n : Nat} {x : Value} {l : List Value} (h : sourceCells S size n x = some l) : l.length = n * size := by
  unfold sourceCells at h
  split at h
  · cases hz : Nat.beq n 0 with
    | false => rw [hz] at h; cases h
    | true => rw [hz] at h; cases h; have := of_nbeq hz; subst this; simp
  · unfold readCells at h
    split at h
    · exact (takeN_spec _ _ _ h).1
    · cases h
  · cases hz : Nat.beq size 1 with
    | false => rw [hz] at h; cases h
    | true =>
      rw [hz] at h
      have := of_nbeq hz; subst this
      rw [(takeN_spec _ _ _ h).1]; simp
  · cases h

theorem growOk_spec {elem : TypeId} {size need : Nat} (h : growOk P elem size need = true) : ∃ ei z, P.info? elem = some ei ∧ zeroV P elem = some z ∧ ei.bytes ≤ 1024 ∧ 0 < ei.bytes ∧ need ≤ maxNeed ∧ z.cells.size = size ∧ 0 < size := by
  unfold growOk at h
  split at h
  · rename_i ei z hei hz
    simp only [Bool.and_eq_true] at h
    obtain ⟨⟨⟨⟨a, b⟩, c⟩, d⟩, e⟩ := h
    refine ⟨ei, z, hei, hz, Nat.le_of_ble_eq_true a, nblt_tt b, Nat.le_of_ble_eq_true c, ?_, nblt_tt e⟩
    have := of_nbeq d
    rw [cellsL_eq] at this
    simpa using this
  · cases h

theorem take_get {α : Type} {n o : Nat} {c l : List α} (h : takeN n (dropN o c) = some l) : ∀ (i : Nat) v, l[i]? = some v → c[o + i]? = some v := by
  obtain ⟨h1, h2, h3⟩ := takeN_spec _ _ _ h
  intro i v hv
  have hi : i < n := by rw [← h1]; exact (List.getElem?_eq_some_iff.1 hv).1
  rw [h3, List.getElem?_take, if_pos hi, dropN_eq, List.getElem?_drop] at hv
  exact hv

theorem extend_sound {ρ : Rmap} {S S' : St} {w : World} (hs : Sim P w0 ρ S w) {b o size : Nat} {L : Loc} (hb : ρ b = some L) {vs vs' : List Value} (h : extendCells P S b o size vs = some S') (hv : VRs ρ vs vs')
    (htot : L.z = size → size ≠ 0 → o + L.d + vs.length ≤ L.tot) : ∃ w', (storeCells ⟨L.r, o + L.d, none⟩ vs').run P w = .ok () w' ∧ Sim P w0 ρ S' w' := by
  unfold extendCells at h
  split at h
  · rename_i c e kin hB
    split at h
    · rename_i z hz
      cases hg : (vs.all cellV && Nat.blt 0 vs.length && Nat.beq o c.length && Nat.beq z size && Nat.blt 0 z) with
      | false => rw [hg] at h; cases h
      | true =>
        rw [hg] at h
        cases h
        simp only [Bool.and_eq_true] at hg
        obtain ⟨⟨⟨⟨g1, g2⟩, g3⟩, g4⟩, g5⟩ := hg
        have g3 := of_nbeq g3
        have g4 := of_nbeq g4
        have g5 := nblt_tt g5
        subst g4
        obtain ⟨arr, e', fz, h1, h2, h3, h4, h5⟩ := hs.blk b L _ hb hB
        have hLz : L.z = z := by
          have := h5.1 rfl
          rw [hz] at this
          exact (Option.some.inj this).symm
        have ht := htot hLz (by omega)
        have hone : ∀ v, v ∈ vs' → v.oneCell' = true := by
          intro v hvm
          obtain ⟨i, hi⟩ := List.getElem?_of_mem hvm
          have hil : i < vs.length := by rw [hv.1]; exact (List.getElem?_eq_some_iff.1 hi).1
          have hvi := List.getElem?_eq_getElem hil
          have hr := hv.2 i _ _ hvi hi
          rw [hr.oneCell, ← cellV_eq]
          exact List.all_eq_true.1 g1 _ (List.getElem_mem hil)
        obtain ⟨arr', w', a1, a2, a3, a4⟩ := run_storeCells (P := P) vs' w arr (o + L.d) 0 h1 (by rw [← hv.1]; omega) (fun j hj => h4 rfl j (by omega)) hone
        refine ⟨w', a1, ?_⟩
        refine hs.put (B := .cells c e true true kin) (B' := .cells (c ++ vs) e true true []) hb hB rfl a2 ⟨arr', e', fz, rfl, by omega, fun i v hiv => ?_, h4, h5.1, (fun hr => nomatch hr), h5.2.2⟩
        rw [a4]
        by_cases hin : i < c.length
        · rw [List.getElem?_append_left hin] at hiv
          rw [if_neg (by omega)]
          exact h3 i v hiv
        · rw [List.getElem?_append_right (by omega)] at hiv
          obtain ⟨v', x1, x2⟩ := hv.get hiv
          have hi := (List.getElem?_eq_some_iff.1 x1).1
          rw [if_pos (by omega)]
          exact ⟨v', by rw [show L.d + i - (o + L.d + 0) = i - c.length by omega]; exact x1, x2⟩
    · cases h
  · cases h

theorem append_sound {ρ : Rmap} {S S' : St} {w : World} (hs : Sim P w0 ρ S w) {ts : Array TypeId} {ty : TypeId} {s s' x x' v : Value} (h : appendV P ts.toList s x S = some (v, S')) (hsv : VR ρ s s') (hx : VR ρ x x') :
    OpGood P w0 ρ v S' ((Builtin.append_ ts ty #[s', x']).run P w) := by
  unfold appendV at h
  split at h
  case h_2 => cases h
  rename_i sT xT rest hts
  have h0 : ts[0]? = some sT := by rw [← Array.getElem?_toList, hts]; rfl
  have h1 : ts[1]? = some xT := by rw [← Array.getElem?_toList, hts]; rfl
  split at h
  case h_2 => cases h
  rename_i elem base len cap n xd hu hlen hxd
  cases hxi : isIntT xd with
  | true => rw [hxi] at h; cases h
  | false =>
    rw [hxi] at h
    simp only [cond_false] at h
    split at h
    case h_2 => cases h
    rename_i size hsz
    split at h
    case h_2 => cases h
    rename_i new hnew
    have hl := lenOf_sound (P := P) hlen hx w
    obtain ⟨new', hn1, hn2⟩ := source_sound hs hnew hx (fun k hk => by rw [hlen] at hk; cases hk; exact Nat.le_refl _)
    obtain ⟨new2, hn3, hn4⟩ := source_sound hs.drew hnew hx (fun k hk => by rw [hlen] at hk; cases hk; exact Nat.le_refl _)
    unfold append2 at h
    cases hfit : Nat.ble (len + n) cap with
    | true =>
      rw [hfit] at h
      simp only [cond_true] at h
      have hle := Nat.le_of_ble_eq_true hfit
      unfold appendIn at h
      split at h
      · cases h
        cases hsv
        exact ⟨ρ, _, w, real_fits_nil h0 h1 hu hxd hxi hsz hl hn1 hle, Ext.refl _, (by obtain rfl : n = 0 := (by omega); exact .snil), hs⟩
      · rename_i b o
        cases hsv with
        | slice hb hnc hc hr ho =>
          rename_i o' c' L
          cases hz : Nat.beq new.length 0 with
          | true =>
            rw [hz] at h
            simp only [cond_true, Option.some.injEq, Prod.mk.injEq] at h
            obtain ⟨rfl, rfl⟩ := h
            have hnil : new' = [] := by
              have := hn2.1
              rw [of_nbeq hz] at this
              exact List.eq_nil_of_length_eq_zero this.symm
            subst hnil
            exact ⟨ρ, _, w, real_fits h0 h1 hu hxd hxi hsz hl hn1 (by omega) (by simp [storeCells]), Ext.refl _, .slice hb (by omega) hc hr ho, hs⟩
          | false =>
            rw [hz] at h
            simp only [cond_false] at h
            split at h
            · rename_i S1 hw
              cases h
              have ho' : o' = o + L.d := by
                rcases ho with ho | ho
                · exact ho
                · exfalso
                  have h2 : n = 0 := by omega
                  subst h2
                  have : new.length = 0 := by rw [source_len hnew]; simp
                  rw [this] at hz
                  cases hz
              subst ho'
              obtain ⟨w', a1, a2⟩ := write_sound hs hb hw hn2
              have a1' : (storeCells (Addr.add ⟨L.r, o + L.d, none⟩ (len * size)) new').run P w = .ok () w' := by
                rw [Addr.add_lit, show o + L.d + len * size = o + len * size + L.d by omega]; exact a1
              exact ⟨ρ, _, w', real_fits h0 h1 hu hxd hxi hsz hl hn1 (by omega) a1', Ext.refl _, .slice hb (by omega) hc hr (.inl rfl), a2⟩
            · split at h
              · rename_i S1 hw
                cases h
                have hnl := source_len hnew
                have ho' : o' = o + L.d := by
                  rcases ho with ho | ho
                  · exact ho
                  · exfalso
                    have h2 : n = 0 := by omega
                    subst h2
                    have : new.length = 0 := by rw [hnl]; simp
                    rw [this] at hz
                    cases hz
                subst ho'
                obtain ⟨w', a1, a2⟩ := extend_sound hs hb hw hn2 (fun hz1 hz2 => by
                  have h3 := hr (by rw [hz1]; exact hz2)
                  rw [hz1] at h3
                  rw [hnl]
                  have h4 : (len + n) * size ≤ c' * size := Nat.mul_le_mul_right _ (by omega)
                  rw [Nat.add_mul] at h4
                  omega)
                have a1' : (storeCells (Addr.add ⟨L.r, o + L.d, none⟩ (len * size)) new').run P w = .ok () w' := by
                  rw [Addr.add_lit, show o + L.d + len * size = o + len * size + L.d by omega]; exact a1
                exact ⟨ρ, _, w', real_fits h0 h1 hu hxd hxi hsz hl hn1 (by omega) a1', Ext.refl _, .slice hb (by omega) hc hr (.inl rfl), a2⟩
              · cases h
      · cases h
    | false =>
      rw [hfit] at h
      simp only [cond_false] at h
      have hgt : ¬ (len + n ≤ cap) := fun e => by rw [Nat.ble_eq_true_of_le e] at hfit; cases hfit
      cases hg : (growOk P elem size (len + n) && append2.cellsAll new) with
      | false => rw [hg] at h; cases h
      | true =>
        rw [hg] at h
        simp only [cond_true] at h
        rw [Bool.and_eq_true] at hg
        obtain ⟨ei, z, hei, hz, hb1, hb2, hmx, hzs, hsp⟩ := growOk_spec hg.1
        have hnl := source_len hnew
        have hone : ∀ v, v ∈ new' → v.oneCell' = true := by
          intro v hv
          obtain ⟨i, hi⟩ := List.getElem?_of_mem hv
          have hil : i < new.length := by rw [hn2.1]; exact (List.getElem?_eq_some_iff.1 hi).1
          rw [(hn2.2 i _ _ (List.getElem?_eq_getElem hil) hi).oneCell, ← cellV_eq]
          exact List.all_eq_true.1 hg.2 _ (List.getElem_mem hil)
        unfold appendOut at h
        split at h
        · -- nil
          cases hz0 : Nat.beq len 0 with
          | false => rw [hz0] at h; cases h
          | true =>
            rw [hz0] at h
            simp only [cond_true, Option.some.injEq] at h
            cases hsv
            obtain ⟨cap', hc', hrun⟩ := real_grows (P := P) (ty := ty) (base := none) (old := []) (len := 0) (cap := 0) h0 h1 hu hxd hxi hsz hl (by simp [Builtin.firstCells]) hn3 hgt hei hz hb1 hb2 hmx
            have hrow := new_row hs.drew (c := new) (arr := (#[] ++ new2.toArray ++ Builtin.zeroCells z.cells (cap' - (0 + n)))) (e := elem) (e' := elem) (z := size) (fun i y hy => by
              obtain ⟨y', p1, p2⟩ := hn4.get hy
              refine ⟨y', ?_, p2⟩
              have hi := (List.getElem?_eq_some_iff.1 p1).1
              rw [Array.getElem?_append_left (by simpa using hi)]
              simpa using p1) (fun _ => rfl) hsz (n := n) (k := n) (k' := cap') (Nat.le_refl _) (by omega) (fun _ => by
                simp only [Array.size_append, size_zeroCells, hzs, List.size_toArray, ← hn4.1, hnl]
                have : cap' * size = n * size + (cap' - n) * size := by rw [← Nat.add_mul]; congr 1; omega
                simp; omega)
            obtain ⟨ρ', b1, b2, b3⟩ := hrow
            cases h
            exact ⟨ρ', _, _, hrun, b1, (by rw [Nat.zero_add]; exact b3), b2⟩
        · rename_i b o
          split at h
          case h_2 => cases h
          rename_i c e kin hB
          split at h
          case h_2 => cases h
          rename_i old hold
          cases hc0 : (Nat.beq e elem && Nat.beq (o + len * size) c.length) with
          | false => rw [hc0] at h; cases h
          | true =>
            rw [hc0] at h
            simp only [cond_true] at h
            rw [Bool.and_eq_true] at hc0
            have he := of_nbeq hc0.1
            subst he
            have hend := of_nbeq hc0.2
            cases hsv with
            | slice hb hnc hcc hr ho =>
              rename_i o' c' L
              have holdl := (takeN_spec _ _ _ hold).1
              have hLz : L.z = size := by
                obtain ⟨_, _, _, _, _, _, _, g5, _⟩ := hs.blk _ _ _ hb hB
                have := g5 rfl
                rw [hsz] at this
                exact (Option.some.inj this).symm
              cases h
              by_cases hf : len + n ≤ c'
              · have ho' : o' = o + L.d := by
                  rcases ho with ho | ho
                  · exact ho
                  · omega
                subst ho'
                obtain ⟨arr, e', fz, g1, g2, g3, g4, g5, g6⟩ := hs.blk _ _ _ hb hB
                have hroom : o + L.d + len * size + new'.length ≤ arr.size := by
                  have h3 := hr (by omega)
                  rw [hLz] at h3
                  have h4 : (len + n) * size ≤ c' * size := Nat.mul_le_mul_right _ hf
                  rw [Nat.add_mul] at h4
                  rw [g2, ← hn2.1, hnl]
                  omega
                obtain ⟨arr', w', a1, a2, a3, a4⟩ := run_storeCells (P := P) new' w arr (o + L.d + len * size) 0 g1 (by omega) (fun j hj => g4 rfl j (by omega)) hone
                have hin := inplace_sound hs hb hB (o := o) (old := old) (new := new) (by omega) (take_get hold) a2 g1 a3 hn2 (fun j => by
                  rw [a4 j, show o + L.d + len * size + 0 = c.length + L.d by omega])
                refine ⟨_, _, w', real_fits h0 h1 hu hxd hxi hsz hl hn1 hf (by rw [Addr.add_lit]; exact a1), hin.1, ?_, hin.2⟩
                exact VR.slice (L := ⟨L.r, L.d + o, L.tot, L.z⟩) (upd_same _ _ _) (Nat.le_refl _) hf hr (.inl (by show o + L.d = 0 + (L.d + o); omega))
              · obtain ⟨old', p1, p2⟩ := old_cells (P := P) hs.drew hb hB hold o' len c' (by
                  rcases ho with ho | ho
                  · exact .inl ho
                  · exact .inr (by omega))
                obtain ⟨cap', hc', hrun⟩ := real_grows (P := P) (ty := ty) h0 h1 hu hxd hxi hsz hl p1 hn3 hf hei hz hb1 hb2 hmx
                have hgr := grown_sound hs.drew hb hB
                have hcells := new_cells (P := P) (e := e) (e' := e) (row := true) (kin := b :: kin) (z := size) (c := old ++ new) (arr := old'.toArray ++ new2.toArray ++ Builtin.zeroCells z.cells (cap' - (len + n))) hgr (fun i y hy => by
                  obtain ⟨y', q1, q2⟩ := (p2.append hn4).get hy
                  refine ⟨y', ?_, q2⟩
                  have hi := (List.getElem?_eq_some_iff.1 q1).1
                  rw [Array.getElem?_append_left (by simpa using hi)]
                  simpa using q1) (fun _ => hsz) (by simp) (fun _ => rfl)
                refine ⟨_, _, _, hrun, hcells.1, ?_, hcells.2⟩
                refine VR.slice (L := ⟨w.drew.heap.size, 0, _, size⟩) (upd_same _ _ _) (Nat.le_refl _) hc' (fun _ => ?_) (.inl rfl)
                simp only [Array.size_append, size_zeroCells, hzs, List.size_toArray, ← hn4.1, ← p2.1, hnl, holdl]
                have : cap' * size = len * size + n * size + (cap' - (len + n)) * size := by rw [← Nat.add_mul, ← Nat.add_mul]; congr 1; omega
                omega
        · cases h

end Go.Cm
