/-
  CM, part 21: the world where a call begins: what the listed variables hold; a call's contract.
-/
import Derived.Test.YtfoonohjjeofhaaGreatDoorCmDraw3
import Derived.Test.YtfoonohjjeofhaaGreatDoorCmFastEq3
import Derived.Lib.LaidTab
import Derived.RowKit3
namespace Go.Cm
open Go
variable {P : Program} {w0 : Base} {K : Known}

/-! ### what a listed variable holds, as cells -/
def dcL (f : DataW Unit → Option (List Value)) : List (DataW Unit) → Option (List Value)
  | [] => some []
  | d :: r => match f d, dcL f r with
    | some a, some b => some (a ++ b)
    | _, _ => none
def dcS (f : TypeId → DataW Unit → Option (List Value)) : List Field → List (DataW Unit) → Option (List Value)
  | [], [] => some []
  | x :: fs, d :: r => match f x.type d, dcS f fs r with
    | some a, some b => some (a ++ b)
    | _, _ => none
  | _, _ => none
/-- fields that lie one behind the other, and fill n cells -/
def contigF (P : Program) (n : Nat) : List Field → Nat → Bool
  | [], o => Nat.beq o n
  | f :: r, o => Nat.beq f.offset o && contigF P n r (o + P.cellsOf f.type)
def dc (P : Program) : Nat → TypeId → DataW Unit → Option (List Value)
  | 0, _, _ => none
  | n + 1, t, d => match P.underlying t, d with
    | some .bool, .lit (.bool b) => some [.bool b]
    | some (.int _), .lit (.int k m) => some [.int k m]
    | some .string, .lit (.string s) => some [.string ⟨s.toArray⟩]
    | some (.array m e), .agg l => bif Nat.beq (P.cellsOf t) (m * P.cellsOf e) then dcL (dc P n e) l else none
    | some (.struct fs), .agg l => bif contigF P (P.cellsOf t) fs.toList 0 then dcS (dc P n) fs.toList l else none
    | _, _ => none

theorem chunks (z : Nat) (cs : List Value) : ∀ (j k : Nat), cs.length = (k + j) * z → cs.drop (k * z) = (List.range' k j).flatMap fun i => (cs.drop (i * z)).take z
  | 0, k, h => by
    rw [List.drop_eq_nil_of_le (by rw [h]; exact Nat.le_refl _)]; rfl
  | j + 1, k, h => by
    rw [List.range'_succ, List.flatMap_cons, ← chunks z cs j (k + 1) (by rw [h]; congr 1; omega)]
    rw [show (k + 1) * z = k * z + z from Nat.succ_mul k z, ← List.drop_drop, List.take_append_drop]

theorem dcL_sound {f : DataW Unit → Option (List Value)} {g : Nat → Option (DataW Unit × List MemPlace)} {c : Nat → List Value} (hf : ∀ i d p l, g i = some (d, p) → f d = some l → c i = l) :
    ∀ (is : List Nat) (xs : List (DataW Unit × List MemPlace)) (l : List Value), is.mapM g = some xs → dcL f (xs.map (·.1)) = some l → is.flatMap c = l
  | [], xs, l, hm, hl => by
    simp only [List.mapM_nil, Option.pure_def, Option.some.injEq] at hm
    subst hm
    simp only [List.map_nil, dcL, Option.some.injEq] at hl
    subst hl
    rfl
  | i :: is, xs, l, hm, hl => by
    rw [List.mapM_cons] at hm
    obtain ⟨y, hy, hm⟩ := Option.mem_bind_iff.1 hm
    obtain ⟨ys, hys, hm⟩ := Option.mem_bind_iff.1 hm
    cases hm
    simp only [List.map_cons, dcL] at hl
    split at hl
    · rename_i a b ha hb
      cases hl
      rw [List.flatMap_cons, dcL_sound hf is ys b hys hb, hf i y.1 y.2 a hy ha]
    · cases hl

theorem dcS_sound {f : TypeId → DataW Unit → Option (List Value)} {g : Field → Option (DataW Unit × List MemPlace)} {cs : List Value} (hf : ∀ x d p l, g x = some (d, p) → f x.type d = some l → (cs.drop x.offset).take (P.cellsOf x.type) = l) :
    ∀ (fs : List Field) (o : Nat) (xs : List (DataW Unit × List MemPlace)) (l : List Value), contigF P cs.length fs o = true → fs.mapM g = some xs → dcS f fs (xs.map (·.1)) = some l → cs.drop o = l
  | [], o, xs, l, hc, hm, hl => by
    simp only [List.mapM_nil, Option.pure_def, Option.some.injEq] at hm
    subst hm
    simp only [List.map_nil, dcS, Option.some.injEq] at hl
    subst hl
    rw [of_nbeq hc, List.drop_length]
  | x :: fs, o, xs, l, hc, hm, hl => by
    rw [List.mapM_cons] at hm
    obtain ⟨y, hy, hm⟩ := Option.mem_bind_iff.1 hm
    obtain ⟨ys, hys, hm⟩ := Option.mem_bind_iff.1 hm
    cases hm
    simp only [contigF, Bool.and_eq_true] at hc
    simp only [List.map_cons, dcS] at hl
    split at hl
    · rename_i a b ha hb
      cases hl
      rw [← dcS_sound hf fs _ ys b hc.2 hys hb, ← hf x y.1 y.2 a hy ha, of_nbeq hc.1, ← List.drop_drop, List.take_append_drop]
    · cases hl

theorem dc_sound {w : World} {base : Nat} {sp : Nat → Bool} {held : Bool} : ∀ (n : Nat) (t : TypeId) (d : DataW Unit) (l cs : List Value) (fuel : Nat) (p : List MemPlace),
    DataW.trod (fun _ => ()) P w base sp held fuel t cs = some (d, p) → dc P n t d = some l → cs = l
  | 0, t, d, l, cs, fuel, p, h, hl => by cases hl
  | n + 1, t, d, l, cs, 0, p, h, hl => by simp [DataW.trod] at h
  | n + 1, t, d, l, cs, fuel + 1, p, h, hl => by
    unfold dc at hl
    split at hl
    · rename_i b hu
      cases hl
      simp only [DataW.trod, hu] at h
      split at h <;> simp_all
    · rename_i k m hu
      cases hl
      simp only [DataW.trod, hu] at h
      split at h <;> simp_all
    · rename_i s hu
      cases hl
      simp only [DataW.trod, hu] at h
      split at h <;> simp_all
      obtain ⟨_, rfl, _⟩ := h
      rfl
    · rename_i m e ds hu
      cases hb : Nat.beq (P.cellsOf t) (m * P.cellsOf e) with
      | false => rw [hb] at hl; cases hl
      | true =>
        rw [hb] at hl
        simp only [cond_true] at hl
        have hsz := of_nbeq hb
        simp only [DataW.trod, hu] at h
        split at h
        · rename_i hlen
          obtain ⟨xs, hm, hx⟩ := Option.map_eq_some_iff.1 h
          have hds : xs.map (·.1) = ds := by
            have := congrArg Prod.fst hx
            simpa using this
          rw [← hds] at hl
          have := dcL_sound (c := fun i => (cs.drop (i * P.cellsOf e)).take (P.cellsOf e)) (fun i d p l h1 h2 => dc_sound n e d l _ fuel p h1 h2) _ _ _ hm hl
          rw [← this, List.range_eq_range']
          have h2 := chunks (P.cellsOf e) cs m 0 (by rw [hlen, hsz, Nat.zero_add])
          rw [Nat.zero_mul, List.drop_zero] at h2
          exact h2
        · cases h
    · rename_i fs ds hu
      cases hb : contigF P (P.cellsOf t) fs.toList 0 with
      | false => rw [hb] at hl; cases hl
      | true =>
        rw [hb] at hl
        simp only [cond_true] at hl
        simp only [DataW.trod, hu] at h
        split at h
        · rename_i hlen
          obtain ⟨xs, hm, hx⟩ := Option.map_eq_some_iff.1 h
          have hds : xs.map (·.1) = ds := by
            have := congrArg Prod.fst hx
            simpa using this
          rw [← hds] at hl
          have := dcS_sound (cs := cs) (fun x d p l h1 h2 => dc_sound n x.type d l _ fuel p h1 h2) _ 0 xs l (by rw [hlen]; exact hb) hm hl
          rw [List.drop_zero] at this
          exact this
        · cases h
    · cases hl

/-- what the listed variables hold -/
theorem laid_cells {W : World} : ∀ (laid : List (String × DataW Unit)) (ps : List MemPlace), DataW.LaidVars P W laid ps → ∀ n d, (n, d) ∈ laid → ∀ g t k l, P.globalNamed n = some g → (P.globals[g]?).map (·.type) = some t → dc P k t d = some l →
    ∃ (arr : Array Value) (e : TypeId) (fz : Nat × Nat), W.heap[g]? = some (.cells arr e fz) ∧ arr.toList = l
  | [], ps, h, n, d, hm, g, t, k, l, hg, ht, hl => by cases hm
  | (m, d') :: laid, ps, h, n, d, hm, g, t, k, l, hg, ht, hl => by
    obtain ⟨g', t', cs, fuel, p, q, h1, h2, h3, h4, h5, _⟩ := h
    rcases List.mem_cons.1 hm with he | he
    · obtain ⟨rfl, rfl⟩ := Prod.mk.inj he
      obtain rfl := Option.some.inj (hg.symm.trans h1)
      obtain rfl := Option.some.inj (ht.symm.trans h2)
      have := dc_sound k t _ l cs.toList fuel p h4 hl
      unfold World.var? at h3
      rw [hg] at h3
      simp only [Option.bind_some] at h3
      split at h3
      · rename_i arr e fz hh
        cases h3
        exact ⟨_, _, _, hh, this⟩
      · cases h3
    · exact laid_cells laid q h5 n d he g t k l hg ht hl

/-! ### the memory at the start -/
def startH : List (Nat × List Value) → PT Blk 16
  | [] => PT.nil 16
  | (g, l) :: r => (startH r).set g (some (.cells l 0 false false []))
def startS (G : List (Nat × List Value)) (n : Nat) : St := ⟨startH G, n⟩
theorem start_get (n : Nat) : ∀ (G : List (Nat × List Value)) (b : Nat) (B : Blk), (startS G n).get b = some B → ∃ l, (b, l) ∈ G ∧ B = .cells l 0 false false []
  | [], b, B, h => by
    simp only [startS, startH, St.get, PT.get_nil] at h
    cases h
  | (g, l) :: G, b, B, h => by
    simp only [startS, startH, St.get, PT.get_set_any] at h
    split at h
    · rename_i he
      cases h
      exact ⟨l, by rw [he.1]; simp, rfl⟩
    · obtain ⟨l', h1, h2⟩ := start_get n G b B h
      exact ⟨l', by simp [h1], h2⟩

def startR (n : Nat) (W : World) : Rmap := fun g => if g < n then some ⟨g, 0, match W.heap[g]? with | some (.cells arr _ _) => arr.size | _ => 0, 0⟩ else none

theorem start_sim {W : World} {G : List (Nat × List Value)} (hn : P.globals.size ≤ W.heap.size) (hG : ∀ g l, (g, l) ∈ G → ∃ (arr : Array Value) (e : TypeId) (fz : Nat × Nat), W.heap[g]? = some (.cells arr e fz) ∧ arr.toList = l)
    (hf : ∀ g l, (g, l) ∈ G → ∀ v ∈ l, flatV flatN v = true) : Sim P ⟨W, fun _ => false⟩ (startR P.globals.size W) (startS G P.globals.size) W := by
  refine ⟨Nat.le_refl _, fun _ _ => rfl, rfl, rfl, fun b L hb => ?_, fun b L B hb hB => ?_, fun b L B hb hB hm => ?_, fun g hg => ?_, fun b hb => by cases hb⟩
  · unfold startR at hb
    split at hb
    · rename_i hlt
      cases hb
      exact ⟨hlt, Nat.lt_of_lt_of_le hlt hn⟩
    · cases hb
  · obtain ⟨l, hl, rfl⟩ := start_get _ G b B hB
    obtain ⟨arr, e, fz, h1, h2⟩ := hG b l hl
    unfold startR at hb
    split at hb
    · cases hb
      simp only [h1]
      refine ⟨arr, e, fz, rfl, rfl, fun i v hv => ⟨v, ?_, (flatV_spec _ _ (hf b l hl v (List.mem_of_getElem? hv))).refl _⟩, (fun h => nomatch h), (fun h => nomatch h), fun _ => ⟨rfl, rfl, by rw [← h2]; simp⟩, fun h => absurd rfl h⟩
      rw [Nat.zero_add, ← Array.getElem?_toList, h2]
      exact hv
    · cases hb
  · obtain ⟨l, hl, rfl⟩ := start_get _ G b B hB
    cases hm
  · unfold startR
    rw [if_pos hg]
    exact ⟨_, rfl, rfl, rfl⟩

def isTrue : Option (Ending × St) → Bool
  | some (.returned (.bool true), _) => true
  | _ => false

/-- a function of the program that the evaluator sees return true returns true -/
theorem true_calls (hm : P.follows .mixedOrders = true) {W : World} (hK : KnownSound P K W) {n : Nat} {f : FuncId} {fn : Func} {c : Code} (hf : P.funcs[f]? = some fn) (hb : fn.body = some c) (hnm : (fn.name == "runtime.NumGoroutine") = false)
    {G : List (Nat × List Value)} (h : isTrue ((fnsG P K n).call (.fn (.func f) #[]) [] (startS G P.globals.size)) = true) (hn : P.globals.size ≤ W.heap.size)
    (hG : ∀ g l, (g, l) ∈ G → ∃ (arr : Array Value) (e : TypeId) (fz : Nat × Nat), W.heap[g]? = some (.cells arr e fz) ∧ arr.toList = l) (hfl : ∀ g l, (g, l) ∈ G → ∀ v ∈ l, flatV flatN v = true) :
    Calls P f #[] W fun e w => e = .returned (.bool true) ∧ Kept W w := by
  rw [fnsG_eq] at h
  cases hr : (fns P K n).call (.fn (.func f) #[]) [] (startS G P.globals.size) with
  | none => rw [hr] at h; cases h
  | some x =>
    obtain ⟨e, S'⟩ := x
    rw [hr] at h
    have hsim := start_sim (P := P) hn hG hfl
    have := (fns_sound hm hK n n (Nat.le_refl _) (fun _ => false)).call _ _ _ _ _ hr _ W (.fn (.func f) #[]) #[] hsim ⟨.func f, .func f, #[], #[], rfl, rfl, .func f rfl nil_all rfl nil_all⟩ VRs.nil
    have hcall : (invoke (.fn (.func f) #[]) #[]).run P W = .ok (.enter f #[]) W := run_callFunc hf hb hnm #[] W
    rw [hcall] at this
    refine (callsIn_wide.1 this).mono ?_
    rintro e' w ⟨ρ', _, h2, h3⟩
    have hk := h3.kept
    cases h2 with
    | ret hv =>
      cases hv <;> first
        | (simp [isTrue] at h; done)
        | (rename_i b; cases b <;> first | (simp [isTrue] at h; done) | exact ⟨rfl, hk⟩)
    | pan hp => cases h

end Go.Cm
