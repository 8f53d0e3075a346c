/-
  The evaluator of the model, and that it is sound: part 7.
-/
import Derived.Test.YtgnhcamhcnkbfaaGreatDoorSy1
namespace Go.Cm
open Go
variable {P : Program} {K : Known}

theorem calls_of_cc (hm : P.follows .mixedOrders = true) {W : World} (hK : KnownSound P K W) {f : FuncId} {fn : Func} {c : Code} (hf : P.funcs[f]? = some fn) (hb : fn.body = some c) (hnm : (fn.name == "runtime.NumGoroutine") = false)
    {args : List Value} {args' : Array Value} {ρ : Rmap} {S : St} (hs : Sim P ⟨W, fun _ => false⟩ ρ S W) (hv : VRs ρ args args'.toList) {Q : Value → Prop} (h : CC P K f args S fun v _ => Q v) :
    Calls P f args' W fun e w => ∃ v ρ' v', Q v ∧ VR ρ' v v' ∧ e = .returned v' ∧ Kept W w := by
  obtain ⟨m, v, S', h1, h2⟩ := h
  have hcall0 : (fns P K (m + 1)).call (.fn (.func f) #[]) args S = some (.returned v, S') := by
    show enterF P K (fns P K m) f (args ++ (#[] : Array Value).toList) S = _
    simpa using h1
  have := (fns_sound hm hK (m + 1) (m + 1) (Nat.le_refl _) (fun _ => false)).call _ _ _ _ _ hcall0 ρ W (.fn (.func f) #[]) args' hs ⟨.func f, .func f, #[], #[], rfl, rfl, .func f rfl nil_all rfl nil_all⟩ hv
  have hcall : (invoke (.fn (.func f) #[]) args').run P W = .ok (.enter f args') W := by
    have := run_callFunc hf hb hnm args' W
    simpa [invoke] using this
  rw [hcall] at this
  refine (callsIn_wide.1 this).mono ?_
  rintro e' w ⟨ρ', _, q2, q3⟩
  cases q2 with
  | ret hvr => exact ⟨v, ρ', _, h2, hvr, rfl, q3.kept⟩

theorem mapM_congr {α β : Type} {f g : α → Option β} : ∀ {l : List α} {r : List β}, l.mapM f = some r → (∀ x, x ∈ l → ∀ y, f x = some y → g x = some y) → l.mapM g = some r
  | [], r, h, _ => by simpa using h
  | a :: l, r, h, hc => by
    rw [List.mapM_cons] at h ⊢
    obtain ⟨y, hy, h⟩ := Option.mem_bind_iff.1 h
    obtain ⟨ys, hys, h⟩ := Option.mem_bind_iff.1 h
    cases h
    rw [hc a (by simp) y hy, mapM_congr hys fun x hx => hc x (by simp [hx])]
    rfl

theorem cell_kept {W W' : World} (h : Kept W W') {a : Addr} {v : Value} (hc : W.cell? a = some v) : W'.cell? a = some v := by
  have hb : a.block < W.heap.size := by
    rcases Nat.lt_or_ge a.block W.heap.size with h1 | h1
    · exact h1
    · unfold World.cell? at hc
      simp only [Array.getElem?_eq_none h1] at hc
      cases hc
  unfold World.cell? at hc ⊢
  rw [h.old _ hb]
  exact hc
theorem cells_kept {W W' : World} (h : Kept W W') {base n : Nat} {a : Addr} {cs : List Value} (hc : W.cells? base a n = some cs) : W'.cells? base a n = some cs := by
  unfold World.cells? at hc ⊢
  split at hc
  · rename_i hb
    rw [if_pos hb]
    exact mapM_congr hc fun x _ y hy => cell_kept h hy
  · cases hc

section
variable {H : Type} {enc : TypeId × Value → H} {held : Bool} {W W' : World}
theorem retrod (hk : Kept W W') : ∀ (n : Nat) (t : TypeId) (fuel : Nat) (cs : List Value) (r : DataW H × List MemPlace), plainT P n t = true → DataW.trod enc P W 0 (fun _ => true) held fuel t cs = some r →
    DataW.trod enc P W' 0 (fun b => decide (b < W.heap.size)) held fuel t cs = some r
  | 0, t, fuel, cs, r, hp, h => by cases hp
  | n + 1, t, 0, cs, r, hp, h => by simp [DataW.trod] at h
  | n + 1, t, fuel + 1, cs, r, hp, h => by
    unfold plainT at hp
    split at hp
    · rename_i hu
      simp only [DataW.trod, hu] at h ⊢
      split at h
      all_goals first | (simp_all; done) | skip
    · rename_i k hu
      simp only [DataW.trod, hu] at h ⊢
      split at h
      all_goals first | (simp_all; done) | skip
    · rename_i hu
      simp only [DataW.trod, hu] at h ⊢
      split at h
      all_goals first | (simp_all; done) | skip
    · rename_i e hu
      simp only [Bool.and_eq_true] at hp
      have hz := nblt_tt hp.2.1
      simp only [DataW.trod, hu] at h ⊢
      split at h
      all_goals first | (simp_all; done) | skip
      rename_i a len cap he
      cases he
      split at h
      · rename_i hle
        rw [if_pos hle]
        obtain ⟨els, hels, h⟩ := Option.mem_bind_iff.1 h
        obtain ⟨rest, hrest, h⟩ := Option.map_eq_some_iff.1 h
        have each : ∀ (i : Nat) (y : DataW H × List MemPlace), (W.cells? 0 (a.add (i * P.cellsOf e)) (P.cellsOf e)).bind (DataW.trod enc P W 0 (fun _ => true) held fuel e) = some y →
            (W'.cells? 0 (a.add (i * P.cellsOf e)) (P.cellsOf e)).bind (DataW.trod enc P W' 0 (fun b => decide (b < W.heap.size)) held fuel e) = some y := by
          intro i y hy
          obtain ⟨csi, h1, h2⟩ := Option.bind_eq_some_iff.1 hy
          rw [cells_kept hk h1]
          exact retrod hk n e fuel csi y hp.1 h2
        rw [if_pos trivial] at hrest
        refine Option.mem_bind_iff.2 ⟨els, mapM_congr hels fun i _ y hy => each i y hy, ?_⟩
        refine Option.map_eq_some_iff.2 ⟨rest, ?_, h⟩
        by_cases hb : a.block < W.heap.size
        · rw [if_pos (by simpa using hb)]
          exact mapM_congr hrest fun i _ y hy => each (len + i) y hy
        · rw [if_neg (by simpa using hb)]
          -- no room at all
          have : cap - len = 0 := by
            rcases Nat.eq_zero_or_pos (cap - len) with h0 | h0
            · exact h0
            · exfalso
              obtain ⟨_, r2⟩ := mapM_some hrest
              obtain ⟨y, hy, _⟩ := r2 0 0 (List.getElem?_range (by omega))
              obtain ⟨csi, h1, _⟩ := Option.bind_eq_some_iff.1 hy
              obtain ⟨arr, e', fz, hh, _⟩ := cells_spec h1 hz
              have hbk : (a.add ((len + 0) * P.cellsOf e)).block = a.block := by unfold Addr.add; split <;> rfl
              rw [hbk] at hh
              exact hb (Array.getElem?_eq_some_iff.1 hh).1
          rw [this] at hrest
          simpa using hrest
      · cases h
    · rename_i fs hu
      simp only [Bool.and_eq_true, List.all_eq_true] at hp
      simp only [DataW.trod, hu] at h ⊢
      split at h
      · rename_i hl
        rw [if_pos hl]
        obtain ⟨xs, hm, h⟩ := Option.map_eq_some_iff.1 h
        exact Option.map_eq_some_iff.2 ⟨xs, mapM_congr hm fun f hf y hy => retrod hk n _ fuel _ y (hp.2 f hf) hy, h⟩
      · cases h
    · rename_i m e hu
      simp only [Bool.and_eq_true] at hp
      simp only [DataW.trod, hu] at h ⊢
      split at h
      · rename_i hl
        rw [if_pos hl]
        obtain ⟨xs, hm, h⟩ := Option.map_eq_some_iff.1 h
        exact Option.map_eq_some_iff.2 ⟨xs, mapM_congr hm fun i _ y hy => retrod hk n _ fuel _ y hp.2 hy, h⟩
      · cases h
    · cases hp
theorem retrodAll (hk : Kept W W') (n : Nat) : ∀ (ts : List TypeId) (vs : List Value) (ds : List (DataW H)) (ps : List MemPlace), (ts.all fun t => plainT P n t) = true → DataW.TrodAll enc P W 0 (fun _ => true) held ts vs ds ps →
    DataW.TrodAll enc P W' 0 (fun b => decide (b < W.heap.size)) held ts vs ds ps
  | [], [], [], ps, _, h => h
  | t :: ts, v :: vs, d :: ds, ps, hp, ⟨p, q, ⟨fuel, h1⟩, h2, h3⟩ => by
    simp only [List.all_cons, Bool.and_eq_true] at hp
    exact ⟨p, q, ⟨fuel, retrod hk n t fuel _ _ hp.1 h1⟩, retrodAll hk n ts vs ds q hp.2 h2, h3⟩
  | [], _ :: _, _, ps, _, h => h.elim
  | [], [], _ :: _, ps, _, h => h.elim
  | _ :: _, [], _, ps, _, h => h.elim
  | _ :: _, _ :: _, [], ps, _, h => h.elim

/-- the arguments of a call, laid -/
def RepAll (P : Program) (n : Nat) (S : St) : List TypeId → List Value → Prop
  | [], [] => True
  | t :: ts, v :: vs => Rep P n t S (cellsL v) ∧ RepAll P n S ts vs
  | _, _ => False
theorem RepAll.keep {S T : St} (h : Keep S T) {n : Nat} : ∀ {ts : List TypeId} {vs : List Value}, RepAll P n S ts vs → RepAll P n T ts vs
  | [], [], _ => trivial
  | _ :: _, _ :: _, ⟨a, b⟩ => ⟨Rep.keep h n _ _ a, RepAll.keep h b⟩
  | [], _ :: _, h => h.elim
  | _ :: _, [], h => h.elim
end
end Go.Cm

namespace Go.Cm
open Go
variable {P : Program} {K : Known}

/-! ### rows that are written -/
theorem rk_setR {S T : St} {b : Nat} (h : RK T S) (hb : T.size ≤ b) (y : Blk) : RK T (S.set b y) := by
  refine ⟨h.1, fun j e c hj => ?_⟩
  obtain ⟨hjs, own, kin, hg⟩ := h.2 j e c hj
  have := hj.1
  exact ⟨hjs, own, kin, by rw [get_set', if_neg (by omega)]; exact hg⟩
section
variable {S0 S : St} {Ts : List St} {l : List (Nat × Blk)} {gs : List Gr}
theorem HoldG.putR (h : HoldG S0 Ts S l []) {k b : Nat} {x : Blk} (hk : nth l k = some (b, x)) (hT : ∀ T, T ∈ Ts → T.size ≤ b) (y : Blk) : HoldG S0 Ts (S.set b y) (putB k y l) [] := by
  have hm := h.at_ b x (nth_mem hk)
  refine ⟨h.keep.set hm.2.1 hm.2.2 y, by rw [putB_fst]; exact h.nd, fun c z hz => ?_, fun T ht => rk_setR (h.rk T ht) (hT T ht) y, fun g hg => (List.not_mem_nil hg).elim⟩
  rcases putB_mem hk h.nd c z hz with ⟨rfl, rfl⟩ | ⟨hne, hz⟩
  · exact ⟨by rw [get_set', if_pos rfl], hm.2.1, hm.2.2⟩
  · obtain ⟨h1, h2, h3⟩ := h.at_ c z hz
    exact ⟨by rw [get_set', if_neg hne]; exact h1, h2, h3⟩
theorem HoldG.old (h : HoldG S0 [S0] S l gs) {k b : Nat} {x : Blk} (hk : nth l k = some (b, x)) : ∀ T, T ∈ [S0] → T.size ≤ b := fun T hT => by
  rw [List.mem_singleton.1 hT]
  exact (h.at_ b x (nth_mem hk)).2.1
end
theorem store_row {S : St} {t : TypeId} {b o : Nat} {v : Value} {c c' : List Value} {e : TypeId} (hz : storeOk P t v = true)
    (hg : S.get b = some (.cells c e true true [])) (hs : setN o (cellsL v) c = some c') : storeV P t (ptrTo b o) v S = some (S.set b (.cells c' e true true [])) := by
  unfold storeOk at hz
  unfold storeV ptrTo
  split at hz
  · rename_i z h1
    simp only [Bool.and_eq_true] at hz
    obtain ⟨⟨h2, h3⟩, h4⟩ := hz
    simp only [h1, h2, cond_true]
    unfold writeCells
    rw [hg]
    simp only [h3, h4, Bool.and_true, cond_true, hs]
    rfl
  · cases hz
section
variable {n : Nat} {ro : Option Nat} {L : Env} {S S0 : St} {Q : Post} {ops : List Oper} {i d : Nat} {o : Oper} {Ts : List St} {l : List (Nat × Blk)} {gs : List Gr}
theorem re_storeR (hl : HoldG S0 [S0] S l []) (k : Nat) {t : TypeId} {x y : Operand} {v : Value} {b off : Nat} {c c' : List Value} {e : TypeId} (hk : nth l k = some (b, .cells c e true true [])) (ho : nth ops i = some o) (hop : o.op = .store t x y) (hw : wantE ops L o = some true) (hd : o.dst = none) (hx : evE L x = some (ptrTo b off)) (hy : evE L y = some v)
    (hz : storeOk P t v = true) (hs : setN off (cellsL v) c = some c')
    (h : ∀ S', HoldG S0 [S0] S' (putB k (.cells c' e true true []) l) [] → RE P K n ops (i + 1) L S' Q) : RE P K n ops i L S Q :=
  re_store ho hop hw hd hx hy (store_row hz (hl.get k hk) hs) (h _ (hl.putR hk (hl.old hk) _))
theorem rp_storeR {bef : List Nat} {pl : List (Oper × Nat)} {q j : Nat} {E : List CkE} (hl : HoldG S0 [S0] S l []) (k : Nat) {t : TypeId} {x y : Operand} {v : Value} {b off : Nat} {c c' : List Value} {e : TypeId} (hk : nth l k = some (b, .cells c e true true [])) (ho : nth pl q = some (o, j)) (hop : o.op = .store t x y) (hw : wantE ops L o = some true) (hd : o.dst = none) (hx : evE L x = some (ptrTo b off)) (hy : evE L y = some v)
    (hz : storeOk P t v = true) (hs : setN off (cellsL v) c = some c')
    (h : ∀ S', HoldG S0 [S0] S' (putB k (.cells c' e true true []) l) [] → Stays P n S' ((nth bef j).getD 0) E ∧ RP P K n ops bef pl (q + 1) (left ((nth bef j).getD 0) E) L S' Q) : RP P K n ops bef pl q E L S Q :=
  rp_store ho hop hw hd hx hy (store_row hz (hl.get k hk) hs) (h _ (hl.putR hk (hl.old hk) _)).1 (h _ (hl.putR hk (hl.old hk) _)).2

/-! ### slices made -/
theorem makeSlice_of {t e : TypeId} {ei : TypeInfo} {z : Value} {k1 k2 : IntKind} {m : Nat} (hu : P.underlying t = some (.slice e)) (hi : P.info? e = some ei) (hz : zeroV P e = some z) (hb : Nat.ble ei.bytes 1024 = true) (hs : (cellsL z).length = ei.size) (hm : m ≤ maxNeed) :
    makeSliceV P t (.int k1 m) (.int k2 m) S = some (newSlice S (replL m (cellsL z)) e m m) := by
  unfold makeSliceV
  simp only [hu, hi, hz]
  rw [if_pos ⟨by omega, by omega, by omega, Nat.le_of_ble_eq_true hb, hs⟩]
  rfl
theorem re_makeSliceL (hl : HoldG S0 Ts S l gs) {t e : TypeId} {x y : Operand} {ei : TypeInfo} {z : Value} {k1 k2 : IntKind} {i1 i2 : Int} {m : Nat} (ho : nth ops i = some o) (hop : o.op = .makeSlice t x y) (hw : wantE ops L o = some true) (hd : o.dst = some d) (hn : Nat.blt d n = true)
    (hx : evE L x = some (.int k1 i1)) (hy : evE L y = some (.int k2 i2)) (e1 : i1 = m) (e2 : i2 = m) (hu : P.underlying t = some (.slice e)) (hi : P.info? e = some ei) (hz : zeroV P e = some z) (hb : Nat.ble ei.bytes 1024 = true) (hs : (cellsL z).length = ei.size) (hm : m ≤ maxNeed)
    (h : ∀ B S', HoldG S0 Ts S' ((B, .cells (replL m (cellsL z)) e true true []) :: l) gs → RE P K n ops (i + 1) ((d, .slice (some ⟨B, 0, none⟩) m m) :: L) S' Q) : RE P K n ops i L S Q := by
  subst e1; subst e2
  exact re_makeSlice ho hop hw hd hn hx hy (makeSlice_of hu hi hz hb hs hm) (h _ _ (hl.new _))
end

/-! ### maps -/
section
variable {κ : Type} [DecidableEq κ] (kc : κ → Value)
def ents : Nat → List (κ × Value) → List MapEntry
  | _, [] => []
  | c, (k, v) :: r => { key := kc k, val := v, born := c } :: ents (c + 1) r
def posA : List (κ × Value) → κ → Option (Nat × Value)
  | [], _ => none
  | (a, w) :: r, k => if k = a then some (0, w) else match posA r k with
    | some (j, v) => some (j + 1, v)
    | none => none
def asc (D : List (κ × Value)) (k : κ) : Option Value := match posA D k with
  | some (_, v) => some v
  | none => none
def putA : List (κ × Value) → κ → Value → List (κ × Value)
  | [], k, v => [(k, v)]
  | (a, w) :: r, k, v => if k = a then (a, v) :: r else (a, w) :: putA r k v
theorem asc_put (D : List (κ × Value)) (k : κ) (v : Value) (k' : κ) : asc (putA D k v) k' = if k' = k then some v else asc D k' := by
  induction D with
  | nil =>
    unfold putA asc posA
    by_cases h : k' = k
    · simp only [h, if_true]
    · simp only [h, if_false, posA]
  | cons x D ih =>
    obtain ⟨a, w⟩ := x
    unfold putA
    by_cases h : k = a
    · subst h
      simp only [if_true]
      unfold asc posA
      by_cases h2 : k' = k
      · simp only [h2, if_true]
      · simp only [h2, if_false]
    · simp only [if_neg h]
      have step : ∀ (r : List (κ × Value)), asc ((a, w) :: r) k' = if k' = a then some w else asc r k' := by
        intro r
        show (match (if k' = a then some (0, w) else match posA r k' with
          | some (j, v) => some (j + 1, v)
          | none => none) with
          | some (_, v) => some v
          | none => none) = if k' = a then some w else match posA r k' with
          | some (_, v) => some v
          | none => none
        by_cases h2 : k' = a
        · rw [if_pos h2, if_pos h2]
        · rw [if_neg h2, if_neg h2]
          cases posA r k' <;> rfl
      rw [step, step, ih]
      by_cases h2 : k' = a
      · subst h2
        rw [if_pos rfl, if_neg (fun e => h e.symm), if_pos rfl]
      · rw [if_neg h2, if_neg h2]
variable {kc}
theorem find_ents {t : TypeId} (heq : ∀ a b, eqV P eqDepth t (kc a) (kc b) = some (decide (a = b))) (k : κ) : ∀ (D : List (κ × Value)) (c i : Nat), findV P t (kc k) (ents kc c D) i = some (match posA D k with
    | some (j, v) => some (i + j, v)
    | none => none)
  | [], c, i => rfl
  | (a, w) :: D, c, i => by
    unfold ents findV
    simp only [heq]
    by_cases h : k = a
    · simp only [h, decide_true, posA, if_true]; rfl
    · simp only [h, decide_false, posA, if_false]
      rw [find_ents heq k D (c + 1) (i + 1)]
      cases posA D k with
      | none => rfl
      | some x => simp only; rw [show i + 1 + x.1 = i + (x.1 + 1) by omega]
theorem ents_nth (k : κ) : ∀ (D : List (κ × Value)) (c j : Nat) (w : Value), posA D k = some (j, w) → ∃ e, nth (ents kc c D) j = some e ∧ e.key = kc k
  | [], c, j, w, h => by cases h
  | (a, u) :: D, c, j, w, h => by
    unfold posA at h
    by_cases hk : k = a
    · rw [if_pos hk] at h
      cases h
      exact ⟨_, rfl, by rw [hk]⟩
    · rw [if_neg hk] at h
      split at h
      · rename_i hp
        cases h
        exact ents_nth k D (c + 1) _ _ hp
      · cases h
theorem ents_set (k : κ) (v : Value) : ∀ (D : List (κ × Value)) (c j : Nat) (w : Value), posA D k = some (j, w) → setEntry (ents kc c D) j (kc k) v = ents kc c (putA D k v)
  | [], c, j, w, h => by cases h
  | (a, u) :: D, c, j, w, h => by
    unfold posA at h
    unfold putA
    by_cases hk : k = a
    · rw [if_pos hk] at h
      cases h
      rw [if_pos hk, hk]; rfl
    · rw [if_neg hk] at h ⊢
      split at h
      · rename_i hp
        cases h
        show _ :: setEntry (ents kc (c + 1) D) _ (kc k) v = _
        rw [ents_set k v D (c + 1) _ _ hp]
        rfl
      · cases h
theorem ents_app (k : κ) (v : Value) : ∀ (D : List (κ × Value)) (c : Nat), posA D k = none → ents kc c D ++ [{ key := kc k, val := v, born := c + D.length }] = ents kc c (putA D k v)
  | [], c, _ => rfl
  | (a, u) :: D, c, h => by
    unfold posA at h
    unfold putA
    by_cases hk : k = a
    · rw [if_pos hk] at h; cases h
    · rw [if_neg hk] at h ⊢
      split at h
      · cases h
      · rename_i hp
        have ih := ents_app k v D (c + 1) hp
        show _ :: (ents kc (c + 1) D ++ _) = _ :: ents kc (c + 1) (putA D k v)
        rw [← ih, List.length_cons, show c + (D.length + 1) = c + 1 + D.length by omega]
theorem put_len_some {k : κ} {v : Value} : ∀ {D : List (κ × Value)} {x : Nat × Value}, posA D k = some x → (putA D k v).length = D.length
  | [], x, h => by cases h
  | (a, u) :: D, x, h => by
    unfold posA at h
    unfold putA
    by_cases hk : k = a
    · rw [if_pos hk]; rfl
    · rw [if_neg hk] at h ⊢
      split at h
      · rename_i hp
        rw [List.length_cons, put_len_some hp, List.length_cons]
      · cases h
theorem put_len_none {k : κ} {v : Value} : ∀ {D : List (κ × Value)}, posA D k = none → (putA D k v).length = D.length + 1
  | [], _ => rfl
  | (a, u) :: D, h => by
    unfold posA at h
    unfold putA
    by_cases hk : k = a
    · rw [if_pos hk] at h; cases h
    · rw [if_neg hk] at h ⊢
      split at h
      · cases h
      · rename_i hp
        rw [List.length_cons, put_len_none hp, List.length_cons]
def mapB (kc : κ → Value) (D : List (κ × Value)) : Blk := .map (ents kc 0 D) D.length
theorem mapUpdate_of {S : St} {t kt et : TypeId} {r : Nat} {D : List (κ × Value)} {k : κ} {v : Value} (hu : P.underlying t = some (.map kt et)) (hg : S.get r = some (mapB kc D)) (heq : ∀ a b, eqV P eqDepth kt (kc a) (kc b) = some (decide (a = b)))
    (hok : keyOk P 20 kt (kc k) = true) (hpl : plainKey 20 (kc k) = true) (hsame : sameV 1000 (kc k) (kc k) = true) : mapUpdateV P t (.map (some r)) (kc k) v S = some (S.set r (mapB kc (putA D k v))) := by
  unfold mapUpdateV
  simp only [hu, hg, mapB]
  rw [if_pos (by rw [hok, hpl]; rfl), find_ents heq]
  cases hp : posA D k with
  | none =>
    simp only
    rw [put_len_none hp]
    have := ents_app (kc := kc) k v D 0 hp
    rw [Nat.zero_add] at this
    rw [this]
  | some x =>
    obtain ⟨j, w⟩ := x
    obtain ⟨e, h1, h2⟩ := ents_nth (kc := kc) k D 0 j w hp
    simp only [Nat.zero_add, h1, h2, hsame, cond_true]
    rw [ents_set k v D 0 j w hp, put_len_some hp]
theorem lookup_of {S : St} {t kt et : TypeId} {r : Nat} {D : List (κ × Value)} {k : κ} {z : Value} (hu : P.underlying t = some (.map kt et)) (hg : S.get r = some (mapB kc D)) (heq : ∀ a b, eqV P eqDepth kt (kc a) (kc b) = some (decide (a = b)))
    (hok : keyOk P 20 kt (kc k) = true) (hz : zeroV P et = some z) : lookupV P t (.map (some r)) (kc k) false S = some ((asc D k).getD z) := by
  unfold lookupV mapOf
  simp only [hu, hg, mapB, hok, if_true]
  rw [find_ents heq]
  unfold asc
  cases posA D k with
  | none => simp only [hz]; rfl
  | some x => rfl
end
section
variable {κ : Type} [DecidableEq κ] {kc : κ → Value}
variable {n : Nat} {ro : Option Nat} {L : Env} {S S0 : St} {Q : Post} {ops : List Oper} {i d : Nat} {o : Oper} {Ts : List St} {l : List (Nat × Blk)} {gs : List Gr}
omit [DecidableEq κ] in
theorem re_makeMapL (hl : HoldG S0 Ts S l gs) {t : TypeId} (kc : κ → Value) (ho : nth ops i = some o) (hop : o.op = .makeMap t none) (hw : wantE ops L o = some true) (hd : o.dst = some d) (hn : Nat.blt d n = true)
    (h : ∀ B S', HoldG S0 Ts S' ((B, mapB kc []) :: l) gs → RE P K n ops (i + 1) ((d, .map (some B)) :: L) S' Q) : RE P K n ops i L S Q :=
  re_step ho hw hd hn (fun a _ => ⟨0, by rw [hop]; unfold stepOp; simp only [kindOf, newOp]; rfl⟩) (h _ _ (hl.new _))
theorem re_mapUpdateL (hl : HoldG S0 Ts S l gs) (j : Nat) {t kt et : TypeId} {x y z : Operand} {M : Nat} {D : List (κ × Value)} {k : κ} {v : Value} (hk : nth l j = some (M, mapB kc D)) (ho : nth ops i = some o) (hop : o.op = .mapUpdate t x y z) (hw : wantE ops L o = some true) (hd : o.dst = none)
    (hx : evE L x = some (.map (some M))) (hy : evE L y = some (kc k)) (hz : evE L z = some v) (hu : P.underlying t = some (.map kt et)) (heq : ∀ a b, eqV P eqDepth kt (kc a) (kc b) = some (decide (a = b)))
    (hok : keyOk P 20 kt (kc k) = true) (hpl : plainKey 20 (kc k) = true) (hsame : sameV 1000 (kc k) (kc k) = true)
    (h : ∀ S', HoldG S0 Ts S' (putB j (mapB kc (putA D k v)) l) gs → RE P K n ops (i + 1) L S' Q) : RE P K n ops i L S Q :=
  re_step0 (v := undef) ho hw hd (fun a ha => ⟨0, by rw [hop]; unfold stepOp; simp only [kindOf, heavyOp]; rw [ha.ev hx, ha.ev hy, ha.ev hz, mapUpdate_of hu (hl.get j hk) heq hok hpl hsame]⟩) (h _ (hl.put hk rfl _))
theorem re_insertL (hl : HoldG S0 Ts S l gs) (j : Nat) {t kt et : TypeId} {x y z : Operand} {M : Nat} {D : List (κ × Value)} {k : κ} {v : Value} (hk : nth l j = some (M, mapB kc D)) (ho : nth ops i = some o) (hop : o.op = .insert t x y z) (hw : wantE ops L o = some true) (hd : o.dst = none)
    (hx : evE L x = some (.map (some M))) (hy : evE L y = some (kc k)) (hz : evE L z = some v) (hu : P.underlying t = some (.map kt et)) (heq : ∀ a b, eqV P eqDepth kt (kc a) (kc b) = some (decide (a = b)))
    (hok : keyOk P 20 kt (kc k) = true) (hpl : plainKey 20 (kc k) = true) (hsame : sameV 1000 (kc k) (kc k) = true)
    (h : ∀ S', HoldG S0 Ts S' (putB j (mapB kc (putA D k v)) l) gs → RE P K n ops (i + 1) L S' Q) : RE P K n ops i L S Q :=
  re_step0 (v := undef) ho hw hd (fun a ha => ⟨0, by rw [hop]; unfold stepOp; simp only [kindOf, heavyOp]; rw [ha.ev hx, ha.ev hy, ha.ev hz, mapUpdate_of hu (hl.get j hk) heq hok hpl hsame]⟩) (h _ (hl.put hk rfl _))
end
end Go.Cm

namespace Go.Cm
open Go
variable {P : Program} {K : Known}
/-- what the first holds the second holds -/
def SubL (L1 L' : Env) : Prop := ∀ k v, look L1 k = some v → look L' k = some v
theorem subL_refl (L : Env) : SubL L L := fun _ _ h => h
theorem subL_skip {L L' : Env} {k : Nat} {v : Value} (hk : look L k = none) (h : SubL L L') : SubL L ((k, v) :: L') := fun j u hj => by
  rw [look_cons]
  by_cases e : j = k
  · subst e; rw [hk] at hj; cases hj
  · rw [if_neg e]; exact h j u hj
theorem Has.subL {n : Nat} {a : Ca} {L L' : Env} (h : Has n a L) (hs : SubL L' L) : Has n a L' := ⟨h.nn, h.le, h.df, fun k v hk => h.val k v (hs k v hk)⟩
theorem SubE.subL {L' L : Env} (h : SubE L' L) : SubL L' L := h.look
section
variable {n : Nat} {ro : Option Nat} {L : Env} {S S0 : St} {Q : Post} {Ts : List St} {l : List (Nat × Blk)} {gs : List Gr}
/-- a piece of code that ends in one way, with one temporary more -/
theorem xe_toE (_ : HoldG S0 Ts S l gs) {c : Code} (d : Nat) (v : Value) (h : XE P K n ro c L S fun e L' S' => e = .normal ∧ look L' d = some v ∧ SubL L L' ∧ HoldG S0 Ts S' l gs) (hn : look L d = none) (hq : ∀ S', HoldG S0 Ts S' l gs → Q .normal ((d, v) :: L) S') : XE P K n ro c L S Q := by
  intro a ha
  obtain ⟨m, e, a', S', L', h1, h2, h3, h4, h5, h6⟩ := h a ha
  subst h3
  refine ⟨m, _, a', S', (d, v) :: L, h1, h2.subL fun k u hk => ?_, hq S' h6⟩
  rw [look_cons] at hk
  by_cases e : k = d
  · subst e; rw [if_pos rfl] at hk; cases hk; exact h4
  · rw [if_neg e] at hk; exact h5 k u hk
/-- a piece of code that ends in one way; nothing of its temporaries is kept -/
theorem xe_to0 {c : Code} (I : St → Prop) (h : XE P K n ro c L S fun e L' S' => e = .normal ∧ SubL L L' ∧ I S') (hq : ∀ S', I S' → Q .normal L S') : XE P K n ro c L S Q := by
  intro a ha
  obtain ⟨m, e, a', S', L', h1, h2, h3, h4, h5⟩ := h a ha
  subst h3
  exact ⟨m, _, a', S', L, h1, h2.subL h4, hq S' h5⟩
def isLabel : Code → Bool
  | .label _ => true
  | _ => false
theorem xp_label {c : Code} (hk : isLabel c = true) (h : Q .normal L S) : XE P K n ro c L S Q := by
  cases c with
  | label l => exact fun a ha => ⟨1, _, a, S, L, rfl, ha, h⟩
  | _ => cases hk
/-- behind a scope -/
def Scp (Q : Post) : Post := fun e L S => match e with
  | .goto _ => False
  | e => Q e L S
theorem xp_scope {c : Code} (hk : pK c = 8) (h : XE P K n ro (pA c) L S (Scp Q)) : XE P K n ro c L S Q := by
  have key : ∀ d, XE P K n ro d L S (Scp Q) → XE P K n ro (.scope d) L S Q := fun d hd => xe_scope (xe_mono hd fun e L' S' hq => by
    cases e with
    | goto l => exact hq.elim
    | _ => exact ⟨fun l => (by intro h; cases h), hq⟩)
  cases c <;> first | exact key _ h | (rename_i d; cases d <;> cases hk) | cases hk
theorem scp_ret (h : Q .ret L S) : Scp Q .ret L S := h
end
end Go.Cm
namespace Go.Cm
open Go
section
variable {S S0 : St} {Ts : List St} {l l' : List (Nat × Blk)} {gs : List Gr}
theorem HoldG.perm (h : HoldG S0 Ts S l gs) (hp : l.Perm l') : HoldG S0 Ts S l' gs := ⟨h.keep, (hp.map _).nodup_iff.1 h.nd, fun b x hx => h.at_ b x (hp.mem_iff.2 hx), h.rk, h.gr⟩
/-- a block that a call has left, behind all -/
theorem HoldG.addLast (h : HoldG S0 Ts S l gs) {S1 : St} {b : Nat} {x : Blk} (hl : ∀ c y, (c, y) ∈ l → c < S1.size) (h0 : Keep S0 S1) (hb : S1.size ≤ b) (hs : b < S.size) (hg : S.get b = some x) : HoldG S0 Ts S (l ++ [(b, x)]) gs :=
  (h.add hl h0 hb hs hg).perm (List.perm_append_singleton ..).symm
end
end Go.Cm
namespace Go.Cm
open Go
variable {P : Program} {K : Known}
def msOk (P : Program) (e : TypeId) (z : Value) : Bool := match P.info? e with
  | some ei => Nat.ble ei.bytes 1024 && Nat.beq (cellsL z).length ei.size
  | none => false
section
variable {n : Nat} {ro : Option Nat} {L : Env} {S S0 : St} {Q : Post} {ops : List Oper} {i d : Nat} {o : Oper} {Ts : List St} {l : List (Nat × Blk)} {gs : List Gr}
theorem re_makeSliceK (hl : HoldG S0 Ts S l gs) {t e : TypeId} {x y : Operand} {z : Value} {k1 k2 : IntKind} {i1 i2 : Int} {m : Nat} (ho : nth ops i = some o) (hop : o.op = .makeSlice t x y) (hw : wantE ops L o = some true) (hd : o.dst = some d) (hn : Nat.blt d n = true)
    (hx : evE L x = some (.int k1 i1)) (hy : evE L y = some (.int k2 i2)) (e1 : i1 = m) (e2 : i2 = m) (hu : P.underlying t = some (.slice e)) (hz : zeroV P e = some z) (hb : msOk P e z = true) (hm : m ≤ maxNeed)
    (h : ∀ B S', HoldG S0 Ts S' ((B, .cells (replL m (cellsL z)) e true true []) :: l) gs → RE P K n ops (i + 1) ((d, .slice (some ⟨B, 0, none⟩) m m) :: L) S' Q) : RE P K n ops i L S Q := by
  unfold msOk at hb
  split at hb
  · rename_i ei hi
    rw [Bool.and_eq_true] at hb
    exact re_makeSliceL hl ho hop hw hd hn hx hy e1 e2 hu hi hz hb.1 (of_nbeq hb.2) hm h
  · cases hb
end
/-! lists -/
theorem setN_one {α : Type} (x y : α) (r : List α) : setN 0 [y] (x :: r) = some (y :: r) := by
  cases r <;> simp [setN]
theorem setN_next {α : Type} (o : Nat) (x y : α) (r : List α) : setN (o + 1) [y] (x :: r) = match setN o [y] r with
    | some r => some (x :: r)
    | none => none := by simp only [setN]; rfl
theorem setN_mid {α : Type} {x y : α} {r : List α} : ∀ (l : List α), setN l.length [y] (l ++ x :: r) = some (l ++ y :: r)
  | [] => setN_one x y r
  | z :: l => by
    rw [List.length_cons, List.cons_append, setN_next, setN_mid l]
    rfl
theorem nth_mid {α : Type} {x : α} {r : List α} : ∀ (l : List α), nth (l ++ x :: r) l.length = some x
  | [] => rfl
  | _ :: l => nth_mid l
theorem nth_mid1 {α : Type} {x y : α} {r : List α} : ∀ (l : List α), nth (l ++ x :: y :: r) (l.length + 1) = some y
  | [] => rfl
  | _ :: l => nth_mid1 l
theorem nth_rangeM {α : Type} (f : Nat → α) : ∀ (n k i : Nat), i < n → nth ((List.range' k n).map f) i = some (f (k + i))
  | n + 1, k, 0, _ => rfl
  | n + 1, k, i + 1, h => by
    show nth ((List.range' (k + 1) n).map f) i = _
    rw [nth_rangeM f n (k + 1) i (by omega)]
    congr 2; omega
/-- a cell of a row that is given by a function -/
theorem setN_range (f g : Nat → Value) : ∀ (n k i : Nat), i < n → (∀ j, j ≠ k + i → f j = g j) → setN i [g (k + i)] ((List.range' k n).map f) = some ((List.range' k n).map g)
  | n + 1, k, 0, _, h => by
    rw [List.range'_succ, List.map_cons, List.map_cons, setN_one]
    congr 2
    refine List.map_congr_left fun j hj => h j ?_
    rw [List.mem_range'_1] at hj
    omega
  | n + 1, k, i + 1, hi, h => by
    rw [List.range'_succ, List.map_cons, List.map_cons, setN_next, show k + (i + 1) = k + 1 + i by omega, setN_range f g n (k + 1) i (by omega) (fun j hj => h j (by omega)), h k (by omega)]
theorem replL_range (v : Value) : ∀ (n k : Nat), replL n [v] = (List.range' k n).map fun _ => v
  | 0, _ => rfl
  | n + 1, k => by
    show v :: replL n [v] = v :: (List.range' (k + 1) n).map fun _ => v
    rw [replL_range v n (k + 1)]
theorem replL_succ (v : Value) : ∀ (n : Nat), replL (n + 1) [v] = replL n [v] ++ [v]
  | 0 => rfl
  | n + 1 => by
    show v :: replL (n + 1) [v] = v :: (replL n [v] ++ [v])
    rw [replL_succ v n]
theorem replL_len (v : Value) : ∀ (n : Nat), (replL n [v]).length = n
  | 0 => rfl
  | n + 1 => by
    show (v :: replL n [v]).length = n + 1
    rw [List.length_cons, replL_len v n]
end Go.Cm

