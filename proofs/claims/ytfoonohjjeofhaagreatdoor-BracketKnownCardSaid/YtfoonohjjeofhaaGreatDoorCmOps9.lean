/-
  CM, part 8f: bytes and strings, copies, pointers seen as others.
-/
import Derived.Test.YtfoonohjjeofhaaGreatDoorCmOps8
import Derived.Laws.BytesString
import Derived.Lib.UnsafeStr
import Derived.Lib.Builder
namespace Go.Cm
open Go
variable {P : Program} {w0 : Base}

theorem bytes_vr {ρ : Rmap} : ∀ (l l' : List Value) (bs : List UInt8), bytesL l = some bs → VRs ρ l l' → ∃ ns : List Int, l' = ns.map (Value.int .u8) ∧ bs = ns.map (fun n => UInt8.ofNat n.toNat)
  | [], l', bs, h, hv => by
    simp only [bytesL, Option.some.injEq] at h
    subst h
    cases hv.nil_inv
    exact ⟨[], rfl, rfl⟩
  | v :: l, l', bs, h, hv => by
    obtain ⟨v', l2, rfl, h1, h2⟩ := hv.cons_inv
    unfold bytesL at h
    split at h
    · rename_i he; cases he
    · rename_i n r he
      cases he
      split at h
      · rename_i bs2 hb
        cases h
        cases h1
        obtain ⟨ns, rfl, rfl⟩ := bytes_vr _ _ _ hb h2
        exact ⟨n :: ns, rfl, rfl⟩
      · cases h
    · cases h
theorem push_all (ns : List Int) : ∀ acc : ByteArray, ns.foldl (fun r n => r.push (UInt8.ofNat n.toNat)) acc = ⟨acc.data ++ (ns.map (fun n => UInt8.ofNat n.toNat)).toArray⟩ := by
  induction ns with
  | nil => intro acc; simp
  | cons n ns ih =>
    intro acc
    rw [List.foldl_cons, ih]
    have : (acc.push (UInt8.ofNat n.toNat)).data = acc.data.push (UInt8.ofNat n.toNat) := rfl
    rw [this]
    congr 1
    simp
theorem first_load {size n : Nat} {a : Addr} {k c : Nat} {w : World} {l : List Value} (h : (Builtin.firstCells size n (.slice (some a) k c)).run P w = .ok l.toArray w) : (loadCells a (n * size)).run P w = .ok l.toArray w := h

theorem shape_of {w : World} {r : Nat} {arr : Array Value} {e : TypeId} {fz : Nat × Nat} (h : w.heap[r]? = some (.cells arr e fz)) : w.shape? r = some (e, arr.size) := by
  simp [World.shape?, h]

theorem liesAt_row {e : TypeId} (hc : P.cellsOf e = 1) (count off n : Nat) (hn : off + n ≤ count) : liesAt P P.depth e count off e n = true := by
  have hd : P.depth = (2 * (P.types.size + Made.depth) + 1) + 1 := rfl
  rw [hd]
  simp only [liesAt, Bool.or_eq_true]
  left
  rw [hd]
  simp [rowAt, hc, hn, sameLayout, Nat.mod_one]

theorem conv_sound {ρ : Rmap} {S S' : St} {w : World} (hs : Sim P w0 ρ S w) {s d : TypeId} {x x' v : Value} (h : convV P S s d x = some (v, S')) (hx : VR ρ x x') : OpGood P w0 ρ v S' ((convert s d x').run P w) := by
  unfold convV at h
  split at h
  · rename_i d1 k k' n hu1 hu2
    cases h; cases hx
    refine .same hs ?_ (.int _ _)
    simp only [convert, Sem.run_bind, run_und w hu1, run_und w hu2, Result.andThen_ok]
    cases d1 <;> simp [Conv.intToInt]
  · rename_i d1 b hu1 hu2
    cases h; cases hx
    refine .same hs ?_ (.string _)
    simp only [convert, Sem.run_bind, run_und w hu1, run_und w hu2, Result.andThen_ok]
    cases d1 <;> simp
  · rename_i e n c hu1 hu2
    split at h
    · rename_i hu3
      cases h; cases hx
      exact .same hs (by simp [convert, run_und w hu1, run_und w hu2, run_und w hu3, Conv.bytesToString]; rfl) (.string _)
    · cases h
  · rename_i e a n c hu1 hu2
    split at h
    · rename_i l hu3 hl
      split at h
      · rename_i bs hb
        cases h
        obtain ⟨l', p, q⟩ := source_sound hs hl hx (fun k hk => by simp only [lenOfV, Option.some.injEq] at hk; omega)
        obtain ⟨ns, rfl, rfl⟩ := bytes_vr _ _ _ hb q
        cases hx with
        | slice hb1 hnc hc hr ho =>
          rename_i bb oo o2 c2 L
          have p2 := first_load p
          rw [Nat.mul_one] at p2
          refine .same hs ?_ (.string _)
          have := run_bytesToString (P := P) w ⟨L.r, o2, none⟩ n c2 ns p2
          simp only [convert, Sem.run_bind, run_und w hu1, run_und w hu2, run_und w hu3, Result.andThen_ok]
          rw [this, push_all]
          show Result.ok (Value.string ⟨#[] ++ _⟩) w = _
          rw [Array.empty_append]
      · cases h
    · cases h
  · rename_i t b o hu1 hu2
    split at h
    · rename_i n c e row own kin hn hB
      cases hlt : Nat.blt o c.length with
      | false => rw [hlt] at h; cases h
      | true =>
        rw [hlt] at h
        simp only [cond_true, Option.some.injEq, Prod.mk.injEq] at h
        obtain ⟨rfl, rfl⟩ := h
        have hlt := nblt_tt hlt
        cases hx with
        | ptr hb =>
          rename_i L
          obtain ⟨arr, e', fz, h1, h2, h3, h4, h5⟩ := hs.blk _ _ _ hb hB
          obtain ⟨i, hi, hsz⟩ := szOf_info hn
          obtain ⟨v', hv', _⟩ := h3 o _ (List.getElem?_eq_getElem hlt)
          have hoff := (Array.getElem?_eq_some_iff.1 hv').1
          exact .same hs (Lib.run_to_unsafe w ⟨L.r, o + L.d, none⟩ hu1 hu2 hi (by rw [hsz]; exact Nat.succ_ne_zero _) (shape_of h1) (by show o + L.d < arr.size; omega)) (.ptr hb)
    · cases h
  · rename_i u b o hu1 hu2
    split at h
    · rename_i n c e own kin hn hB
      cases hlt : (!(Nat.beq e 0) && liesAt P P.depth e (c.length / P.cellsOf e) o u 1) with
      | false => rw [hlt] at h; cases h
      | true =>
        rw [hlt] at h
        simp only [cond_true, Option.some.injEq, Prod.mk.injEq] at h
        obtain ⟨rfl, rfl⟩ := h
        simp only [Bool.and_eq_true, Bool.not_eq_true'] at hlt
        have he0 : e ≠ 0 := fun e0 => by rw [e0] at hlt; exact absurd hlt.1 (by simp [Nat.beq_refl])
        cases hx with
        | ptr hb =>
          rename_i L
          obtain ⟨arr, e', fz, h1, h2, h3, h4, h5, h6, h7⟩ := hs.blk _ _ _ hb hB
          obtain ⟨i, hi, hsz⟩ := szOf_info hn
          obtain ⟨_, hd, htot⟩ := h6 rfl
          have he := h7 he0
          subst he
          exact .same hs (Lib.run_from_unsafe w ⟨L.r, o + L.d, none⟩ hu1 hu2 hi (shape_of h1) (by rw [hd, h2, htot, Nat.add_zero]; exact hlt.2)) (.ptr hb)
    · cases h
  · cases h

theorem copy_sound {ρ : Rmap} {S S' : St} {w : World} (hs : Sim P w0 ρ S w) {ty : TypeId} {ts : Array TypeId} {d d' x x' v : Value} (h : copyV P ts.toList d x S = some (v, S')) (hd : VR ρ d d') (hx : VR ρ x x') :
    OpGood P w0 ρ v S' ((Builtin.copy_ ts ty #[d', x']).run P w) := by
  unfold copyV at h
  split at h
  · rename_i dT rest hts
    have ht0 : ts[0]? = some dT := by rw [← Array.getElem?_toList, hts]; rfl
    split at h
    · rename_i elem base dLen dCap xn hu hlen
      split at h
      · rename_i size hsz
        split at h
        · rename_i new hnew
          have hl := lenOf_sound hlen hx w (P := P)
          obtain ⟨l', p, q⟩ := source_sound hs hnew hx (fun k hk => by rw [hlen] at hk; cases hk; exact Nat.min_le_left _ _)
          cases hd with
          | snil =>
            simp only [Option.some.injEq, Prod.mk.injEq] at h
            obtain ⟨rfl, rfl⟩ := h
            refine .same hs ?_ (.int _ _)
            have e0 : Nat.min xn 0 = 0 := Nat.min_zero xn
            rw [e0] at p
            simp [Builtin.copy_, ht0, run_und w hu, hl, run_size w hsz, p, goInt]
          | slice hb hnc hcc hr ho =>
            rename_i b o c' o' L
            simp only at h
            cases hz : Nat.beq new.length 0 with
            | true =>
              rw [hz] at h
              simp only [cond_true, Option.some.injEq, Prod.mk.injEq] at h
              obtain ⟨rfl, rfl⟩ := h
              have hn0 : new = [] := List.length_eq_zero_iff.1 (of_nbeq hz)
              subst hn0
              cases q.nil_inv
              refine .same hs ?_ (.int _ _)
              simp [Builtin.copy_, ht0, run_und w hu, hl, run_size w hsz, p, goInt, storeCells]
            | false =>
              rw [hz] at h
              simp only [cond_false] at h
              split at h
              · rename_i S1 hw
                simp only [Option.some.injEq, Prod.mk.injEq] at h
                obtain ⟨rfl, rfl⟩ := h
                have hpos : 0 < dLen := by
                  rcases Nat.eq_zero_or_pos dLen with e0 | e0
                  · subst e0
                    exfalso
                    have : new.length = 0 := by
                      unfold sourceCells at hnew
                      have e0 : Nat.min xn 0 = 0 := Nat.min_zero xn
                      rw [e0] at hnew
                      split at hnew
                      · simp [Nat.beq] at hnew; simp [hnew]
                      · unfold readCells at hnew
                        split at hnew
                        · rw [Nat.zero_mul] at hnew; simp [takeN] at hnew; simp [← hnew]
                        · cases hnew
                      · cases hb1 : Nat.beq size 1 with
                        | false => rw [hb1] at hnew; cases hnew
                        | true => rw [hb1] at hnew; simp [takeN] at hnew; simp [← hnew]
                      · cases hnew
                    rw [this] at hz
                    cases hz
                  · exact e0
                rcases ho with ho | ho
                · subst ho
                  obtain ⟨w', a1, a2⟩ := write_sound hs hb hw q
                  refine ⟨ρ, _, w', ?_, Ext.refl _, .int .i64 _, a2⟩
                  simp [Builtin.copy_, ht0, run_und w hu, hl, run_size w hsz, p, goInt, a1]
                · omega
              · cases h
          | _ => cases h
        · cases h
      · cases h
    · cases h
  · cases h

theorem freeze_put {w : World} {r o n : Nat} {arr : Array Value} {e : TypeId} {fz : Nat × Nat} (h : w.heap[r]? = some (.cells arr e fz)) (hn : n ≠ 0) : ∃ fz', WPut r (.cells arr e fz') w (w.freeze ⟨r, o, none⟩ n) := by
  have hlt := (Array.getElem?_eq_some_iff.1 h).1
  obtain ⟨lo, hi⟩ := fz
  refine ⟨(if lo == hi then (o, o + n) else (min lo o, max hi (o + n))), ?_⟩
  unfold World.freeze
  rw [if_neg hn]
  refine ⟨fun k hk => ?_, ?_, by simp, rfl, rfl⟩
  · simp only [Array.getElem?_modify]
    rw [if_neg (fun e => hk e.symm)]
  · simp only [Array.getElem?_modify, h, Option.map_some, if_true]

theorem loadBytes_any {w : World} {g : Nat} : ∀ (ns : List Int) (o : Nat) (acc : ByteArray), (∀ j n, ns[j]? = some n → w.cell? ⟨g, o + j, none⟩ = some (.int .u8 n)) → (loadBytes ⟨g, o, none⟩ acc ns.length).run P w = .ok ⟨acc.data ++ (ns.map (fun n => UInt8.ofNat n.toNat)).toArray⟩ w
  | [], o, acc, _ => by simp [loadBytes]
  | n :: ns, o, acc, h => by
    have h0 : w.cell? ⟨g, o, none⟩ = some (.int .u8 n) := h 0 n rfl
    have ih := loadBytes_any ns (o + 1) (acc.push n.toNat.toUInt8) (fun j y hy => by
      have := h (j + 1) y (by simpa using hy)
      rw [show o + 1 + j = o + (j + 1) by omega]
      exact this)
    have hd : (acc.push n.toNat.toUInt8).data = acc.data.push n.toNat.toUInt8 := rfl
    rw [hd] at ih
    have hl : (load ⟨g, o, none⟩).run P w = .ok (.int .u8 n) w := by simp [load, Sem.run, h0]
    simp only [List.length_cons, loadBytes, Sem.run_bind, hl, Result.andThen_ok, Addr.add_lit]
    rw [ih]
    congr 2
    simp [Nat.toUInt8]

theorem run_unsafeString_at (w : World) (pt it ty e : TypeId) (hp : P.underlying pt = some (.pointer e)) (hc : P.cellsOf e = 1) (g o cells : Nat) (hsh : w.shape? g = some (e, cells)) (ns : List Int) (h0 : ns ≠ []) (hn : o + ns.length ≤ cells) (h63 : ns.length ≤ 9223372036854775807)
    (hcell : ∀ j n, ns[j]? = some n → w.cell? ⟨g, o + j, none⟩ = some (.int .u8 n)) :
    (Builtin.unsafeString_ #[pt, it] ty #[.pointer (some ⟨g, o, none⟩), .int .i64 ns.length]).run P w = .ok (.string ⟨(ns.map (fun n => UInt8.ofNat n.toNat)).toArray⟩) (w.freeze ⟨g, o, none⟩ ns.length) := by
  have hl : ns.length ≠ 0 := by simpa using h0
  have hlb := loadBytes_any (P := P) ns o .empty hcell
  have hlies := liesAt_row (P := P) hc (cells / P.cellsOf e) o ns.length (by rw [hc]; simpa using hn)
  have h63' : ¬ (9223372036854775807 : Int) < (ns.length : Int) := by omega
  have hdef : Builtin.unsafeString_ #[pt, it] ty #[.pointer (some ⟨g, o, none⟩), .int .i64 ns.length] =
      (do
        let n ← asInt (.int .i64 ns.length)
        if n < 0 then runtimePanic (.error "unsafe.String: len out of range")
        if n > IntKind.i64.max then unsupported (.unsafePointer "String: a length above the largest int")
        if n = 0 then pure (.string .empty)
        else if ← variablesAt ⟨g, o, none⟩ (← elemOf pt) n.toNat then do
          let s ← loadBytes ⟨g, o, none⟩ .empty n.toNat
          freeze ⟨g, o, none⟩ n.toNat
          pure (.string s)
        else unsupported (.unsafePointer "String: not so many bytes at ptr")) := rfl
  rw [hdef]
  have hmax : IntKind.i64.max = 9223372036854775807 := rfl
  have hneg : ¬ (ns.length : Int) < 0 := by omega
  simp [asInt, asIntOf, hmax, h63', hneg, hl, variablesAt, hsh, elemOf, run_und w hp, hlies, hlb]

theorem unsafeString_sound {ρ : Rmap} {S S' : St} {w : World} (hs : Sim P w0 ρ S w) {ty : TypeId} {ts : Array TypeId} {p p' v : Value} {i : Int} (h : unsafeStringV P ts.toList p i S = some (v, S')) (hp : VR ρ p p') :
    OpGood P w0 ρ v S' ((Builtin.unsafeString_ ts ty #[p', .int .i64 i]).run P w) := by
  unfold unsafeStringV at h
  split at h
  · rename_i pt it a hts
    have ht : ts = #[pt, it] := by apply Array.ext'; simpa using hts
    subst ht
    split at h
    · cases h
      have hpp : ∃ a', p' = .pointer a' := by cases hp <;> exact ⟨_, rfl⟩
      obtain ⟨a', rfl⟩ := hpp
      exact .same hs (Lib.run_unsafeString_none w pt it ty a') (.string _)
    · rename_i m
      split at h
      · rename_i b o
        split at h
        · rename_i t c e kin hu hB
          cases hc : (Nat.beq t e && !(Nat.beq e 0) && Nat.beq (P.cellsOf e) 1 && Nat.blt m 1000000) with
          | false => rw [hc] at h; cases h
          | true =>
            rw [hc] at h
            simp only [cond_true] at h
            simp only [Bool.and_eq_true, Bool.not_eq_true'] at hc
            obtain ⟨⟨⟨h1, h2⟩, h3⟩, h4⟩ := hc
            have hte := of_nbeq h1
            subst hte
            have he0 : t ≠ 0 := fun e0 => by rw [e0] at h2; exact absurd h2 (by simp [Nat.beq_refl])
            have hm := nblt_tt h4
            split at h
            · rename_i l hl
              split at h
              · rename_i bs hbs
                cases h
                cases hp with
                | ptr hb =>
                  rename_i L
                  obtain ⟨arr, e', fz, g1, g2, g3, g4, g5⟩ := hs.blk _ _ _ hb hB
                  have hee := g5.2.2 he0
                  subst hee
                  obtain ⟨l1, l2, l3⟩ := takeN_spec _ _ _ hl
                  rw [dropN_eq] at l2 l3
                  have hall : ∀ j v, l[j]? = some v → ∃ v', arr[L.d + o + j]? = some v' ∧ VR ρ v v' := by
                    intro j v hv
                    rw [l3, List.getElem?_take, List.getElem?_drop] at hv
                    split at hv
                    · obtain ⟨v', x1, x2⟩ := g3 _ _ hv
                      exact ⟨v', by rw [Nat.add_assoc]; exact x1, x2⟩
                    · cases hv
                  have hvr : VRs ρ l ((arr.toList.drop (L.d + o)).take (m + 1)) := by
                    have hlen : L.d + o + (m + 1) ≤ arr.size := by
                      obtain ⟨v', x1, _⟩ := hall m _ (List.getElem?_eq_getElem (by omega))
                      have := (Array.getElem?_eq_some_iff.1 x1).1
                      omega
                    refine ⟨by simp; omega, fun j v v' hv hv' => ?_⟩
                    obtain ⟨u, x1, x2⟩ := hall j v hv
                    rw [List.getElem?_take, List.getElem?_drop, Array.getElem?_toList] at hv'
                    split at hv'
                    · rw [x1] at hv'; cases hv'; exact x2
                    · cases hv'
                  obtain ⟨ns, e1, e2⟩ := bytes_vr _ _ _ hbs hvr
                  have hnl : ns.length = m + 1 := by
                    have := congrArg List.length e1
                    rw [← hvr.1] at this
                    simp at this; omega
                  have hcell : ∀ j n, ns[j]? = some n → w.cell? ⟨L.r, o + L.d + j, none⟩ = some (.int .u8 n) := by
                    intro j n hj
                    have : ((arr.toList.drop (L.d + o)).take (m + 1))[j]? = some (.int .u8 n) := by rw [e1]; simp [hj]
                    rw [List.getElem?_take, List.getElem?_drop, Array.getElem?_toList] at this
                    split at this
                    · unfold World.cell?
                      simp only [g1]
                      rw [show o + L.d + j = L.d + o + j by omega]
                      exact this
                    · cases this
                  have hsz : o + L.d + ns.length ≤ arr.size := by
                    obtain ⟨v', x1, _⟩ := hall m _ (List.getElem?_eq_getElem (by omega))
                    have := (Array.getElem?_eq_some_iff.1 x1).1
                    omega
                  have hrun := run_unsafeString_at (P := P) w pt it ty _ hu (of_nbeq h3) L.r (o + L.d) arr.size (shape_of g1) ns (by intro e; rw [e] at hnl; simp at hnl) hsz (by omega) hcell
                  obtain ⟨fz', hput⟩ := freeze_put (o := o + L.d) (n := ns.length) g1 (by omega)
                  have hp2 := hs.put (B := .cells c _ true true kin) (B' := .cells c _ true false []) hb hB rfl hput ⟨arr, _, fz', rfl, g2, g3, (fun h => nomatch h), g5⟩
                  rw [hnl] at hrun
                  refine ⟨ρ, _, _, hrun, Ext.refl _, ?_, ?_⟩
                  · rw [← e2]; exact .string _
                  · rw [hnl] at hp2
                    exact hp2
              · cases h
            · cases h
        · cases h
      · cases h
    · cases h
  · cases h

set_option maxHeartbeats 8000000 in
theorem real_zeros {ts : Array TypeId} {sT xT ty elem : TypeId} {k kx : IntKind} {size n : Nat} {w : World} (h0 : ts[0]? = some sT) (h1 : ts[1]? = some xT) (hu : P.underlying sT = some (.slice elem))
    (hx : P.underlying xT = some (.int kx)) (hsz : szOf P elem = some size) {i : TypeInfo} {z : Value} (hi : P.info? elem = some i) (hz : zeroV P elem = some z) (hb : i.bytes ≤ 1024) (hb0 : 0 < i.bytes) (hm : n ≤ maxNeed) (hn : 0 < n) (hs0 : 0 < size) :
    ∃ cap', n ≤ cap' ∧ (Builtin.append_ ts ty #[.slice none 0 0, .int k (Int.ofNat n)]).run P w =
      .ok (.slice (some ⟨w.heap.size, 0, none⟩) n cap') (w.drew.alloc (.cells (Builtin.zeroCells z.cells n ++ Builtin.zeroCells z.cells (cap' - n)) elem)) := by
  have g1 := grow_room (need := n) (cap := 0) (bytes := i.bytes) hn hm hb
  have hm' : n ≤ 1073741824 := hm
  have g2 : ¬ (9223372036854775807 < (n : Int)) := by omega
  have g3 : i.bytes ≠ 0 := by omega
  have g4 : IntKind.i64.wrap ((n : Nat) : Int) = (n : Int) := by
    rw [IntKind.wrap_i64]
    omega
  have g5 : ¬ (n : Int) < 0 := by omega
  have g6 : ¬ (281474976710656 < (n : Int) * (i.bytes : Int)) := by
    have : n * i.bytes ≤ 1073741824 * 1024 := Nat.mul_le_mul hm' hb
    have h2 : (n : Int) * (i.bytes : Int) = ((n * i.bytes : Nat) : Int) := by rw [Int.natCast_mul]
    omega
  have g7 : ¬ (n = 0 ∨ size = 0) := by omega
  have g8 : n ≠ 0 := by omega
  refine ⟨(Question.appendCap n 0 elem).cut (w.tape w.drawn (.appendCap n 0 elem)), by simp [Question.cut], ?_⟩
  have hz' := run_zero w.drew hz
  simp [Builtin.append_, h0, h1, run_und w hu, run_und w hx, run_size w hsz, asInt, asIntOf, g4, g5, g6, g7, g8, run_info w hi, run_info w.drew hi, g1, g2, Question.forced, hz', newRow, Builtin.firstCells]
  intro h9
  exact absurd (Nat.mul_eq_zero.1 h9) g7

theorem appendZ_sound {ρ : Rmap} {S S' : St} {w : World} (hs : Sim P w0 ρ S w) {ts : Array TypeId} {ty : TypeId} {s s' x x' v : Value} (h : appendZV P ts.toList s x S = some (v, S')) (hsv : VR ρ s s') (hx : VR ρ x x') :
    OpGood P w0 ρ v S' ((Builtin.append_ ts ty #[s', x']).run P w) := by
  unfold appendZV at h
  split at h
  · rename_i sT xT rest k n hts
    have ht0 : ts[0]? = some sT := by rw [← Array.getElem?_toList, hts]; rfl
    have ht1 : ts[1]? = some xT := by rw [← Array.getElem?_toList, hts]; rfl
    split at h
    · rename_i elem kx hu hxu
      split at h
      · rename_i size z0 hsz hz0
        cases hg : (Nat.blt 0 n && growOk P elem size n) with
        | false => rw [hg] at h; cases h
        | true =>
          rw [hg] at h
          simp only [cond_true, Option.some.injEq] at h
          rw [Bool.and_eq_true] at hg
          obtain ⟨ei, z, hei, hz, hb1, hb2, hmx, hzs, hsp⟩ := growOk_spec hg.2
          rw [hz0] at hz
          cases hz
          cases hsv; cases hx
          have hn := nblt_tt hg.1
          obtain ⟨cap', hc', hrun⟩ := real_zeros (P := P) (ty := ty) (k := k) (w := w) ht0 ht1 hu hxu hsz hei hz0 hb1 hb2 hmx hn hsp
          have hzv := zeros_vr (ρ := ρ) hz0 n (n * z0.cells.size) rfl
          have hzc : z0.cells.size = size := hzs
          have e1 : newSlice S (replL n (cellsL z0)) elem n n = (v, S') := h
          obtain ⟨ρ', b1, b2, b3⟩ := new_row hs.drew (c := replL n (cellsL z0)) (arr := (Builtin.zeroCells z0.cells n ++ Builtin.zeroCells z0.cells (cap' - n))) (e := elem) (e' := elem) (z := size) (fun i y hy => by
            obtain ⟨y', p1, p2⟩ := hzv.get hy
            refine ⟨y', ?_, p2⟩
            have hi := (List.getElem?_eq_some_iff.1 p1).1
            have h3 : (Builtin.zeroCells z0.cells n)[i]? = some y' := by rw [← Array.getElem?_toList]; exact p1
            rw [Array.getElem?_append_left (Array.getElem?_eq_some_iff.1 h3).1]
            exact h3) (fun _ => rfl) hsz (n := n) (k := n) (k' := cap') (Nat.le_refl _) hc' (fun _ => by
              simp only [Array.size_append, size_zeroCells, hzc]
              have : cap' * size = n * size + (cap' - n) * size := by rw [← Nat.add_mul]; congr 1; omega
              omega)
          rw [e1] at b2 b3
          exact ⟨ρ', _, _, hrun, b1, b3, b2⟩
      · cases h
    · cases h
  · cases h

theorem ext_add' {ρ : Rmap} {S : St} {w : World} (hs : Sim P w0 ρ S w) {b : Nat} {L M : Loc} (hb : ρ b = some L) : upd ρ S.size M b = some L := by
  unfold upd
  have := (hs.dom b L hb).1
  rw [if_neg (by omega)]
  exact hb
theorem rangeM_sound {ρ : Rmap} {S S' : St} {w : World} (hs : Sim P w0 ρ S w) {t : TypeId} {x x' v : Value} (h : rangeMV P t x S = some (v, S')) (hx : VR ρ x x') : OpGood P w0 ρ v S' ((Instr.range t x').run P w) := by
  unfold rangeMV at h
  split at h
  · rename_i key elem r hu
    split at h
    · rename_i clock hB
      cases h
      cases hx with
      | map hb =>
        rename_i L
        obtain ⟨es', h1, h2⟩ := hs.blk _ _ _ hb hB
        obtain ⟨a, b⟩ := hs.add (B := .mapIt r) (o := .mapIter (some L.r) clock #[] clock) (L := ⟨w.heap.size, 0, 0, 0⟩) rfl ⟨L, clock, clock, ext_add' hs hb, rfl, rfl⟩
        refine ⟨_, .pointer (some ⟨w.heap.size, 0, none⟩), _, ?_, a, VR.ptr (L := ⟨w.heap.size, 0, 0, 0⟩) (upd_same _ _ _), b⟩
        have hg : (getObj L.r).run P w = .ok (.map es'.toArray clock) w := by simp [getObj, Sem.run, h1]
        simp [Instr.range, run_und w hu, hg]
    · cases h
  · cases h

theorem nextM_sound {ρ : Rmap} {S S' : St} {w : World} (hs : Sim P w0 ρ S w) {ty : TypeId} {b : Bool} {x x' v : Value} (h : nextMV x b S = some (v, S')) (hx : VR ρ x x') : OpGood P w0 ρ v S' ((Instr.next x' b ty).run P w) := by
  unfold nextMV at h
  split at h
  · rename_i r
    split at h
    · rename_i m hB
      split at h
      · rename_i clock hM
        cases h
        cases hx with
        | ptr hb =>
          rename_i L
          obtain ⟨M, since, last, hm, hLd, ho⟩ := hs.blk _ _ _ hb hB
          obtain ⟨es', h1, h2⟩ := hs.blk _ _ _ hm hM
          have he : es' = [] := List.length_eq_zero_iff.1 h2.1.symm
          subst he
          have hg1 : (getObj L.r).run P w = .ok (.mapIter (some M.r) since #[] last) w := by simp [getObj, Sem.run, ho]
          have hg2 : (getObj M.r).run P w = .ok (.map #[] clock) w := by simp [getObj, Sem.run, h1]
          refine ⟨ρ, .tuple #[.bool false], w, ?_, Ext.refl _, VR.tuple' (VRs.cons (.bool false) VRs.nil), hs⟩
          rw [hLd]
          have hf : (Question.mapNext 1).forced = true := rfl
          simp [Instr.next, hg1, hg2, Question.cut, hf]
      · cases h
    · cases h
  · cases h

end Go.Cm
