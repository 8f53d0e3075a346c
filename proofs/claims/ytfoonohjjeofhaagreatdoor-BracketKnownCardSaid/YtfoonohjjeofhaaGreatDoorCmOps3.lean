/-
  CM, part 6: addresses, slices, indexes, assertions.
-/
import Derived.Test.YtfoonohjjeofhaaGreatDoorCmOps2
namespace Go.Cm
open Go
variable {P : Program} {w0 : Base}

theorem OptVR {ρ : Rmap} (f g : Operand → Value) (x : Option Operand) (h : ∀ o, x = some o → VR ρ (f o) (g o)) : (x.map f = none ∧ x.map g = none) ∨ ∃ u u', x.map f = some u ∧ x.map g = some u' ∧ VR ρ u u' := by
  cases x with
  | none => exact .inl ⟨rfl, rfl⟩
  | some o => exact .inr ⟨_, _, rfl, rfl, h o rfl⟩

/-- a bound, as the model reads it: of a greater capacity it is the same -/
theorem sliceBnd_sound {x : Value} {dflt hi n : Nat} (h : sliceBnd (some x) dflt hi = some n) {hi' : Nat} (hle : hi ≤ hi') : (∀ (code : BoundsCode) (w : World), (Instr.sliceBound x hi' code).run P w = .ok n w) ∧ n ≤ hi := by
  cases x <;> simp only [sliceBnd] at h <;> try (cases h; done)
  rename_i k i
  split at h
  · rename_i hb
    cases h
    refine ⟨fun code w => ?_, by omega⟩
    have : 0 ≤ i ∧ i ≤ (hi' : Int) := ⟨hb.1, by omega⟩
    simp [Instr.sliceBound, asIntOf, this]
  · cases h
theorem sliceBnd_int {x : Value} {dflt hi n : Nat} (h : sliceBnd (some x) dflt hi = some n) : ∃ k i, x = .int k i := by
  cases x <;> simp only [sliceBnd] at h <;> try (cases h; done)
  rename_i k i
  exact ⟨k, i, rfl⟩
theorem sliceBnd_none {dflt hi n : Nat} (h : sliceBnd none dflt hi = some n) : dflt = n := by simpa [sliceBnd] using h

/-- optional values that stand for each other: here numbers alone matter -/
def OptR (ρ : Rmap) : Option Value → Option Value → Prop
  | none, none => True
  | some v, some v' => VR ρ v v'
  | _, _ => False
theorem OptR.map {ρ : Rmap} {f g : Operand → Value} {x : Option Operand} (h : ∀ o, x = some o → VR ρ (f o) (g o)) : OptR ρ (x.map f) (x.map g) := by
  cases x with
  | none => trivial
  | some o => exact h o rfl

theorem bounds3_sound {ρ : Rmap} {len cap l h m : Nat} {lo hi mx lo' hi' mx' : Option Value} (hb : bounds3 len cap lo hi mx = some (l, h, m)) (hlo : OptR ρ lo lo') (hhi : OptR ρ hi hi') (hmx : OptR ρ mx mx')
    {cap' : Nat} (hc : cap ≤ cap') (hlc : len ≤ cap) (isS : Bool) (w : World) :
    ∃ m', (Instr.sliceBounds isS len cap' lo' hi' mx').run P w = .ok (l, h, m') w ∧ l ≤ h ∧ h ≤ m ∧ m ≤ m' ∧ m' ≤ cap' ∧ (mx = none → m' = cap' ∧ m = cap) ∧ (mx ≠ none → m' = m) := by
  unfold bounds3 at hb
  split at hb
  case h_2 => cases hb
  rename_i m0 hm0
  split at hb
  · cases hb
  · rename_i hnot
    split at hb
    case h_2 => cases hb
    rename_i h0 hh0
    split at hb
    case h_2 => cases hb
    rename_i l0 hl0
    cases hb
    have hlow : ∃ e : lo' = none ∨ ∃ v, lo' = some v, l ≤ h ∧ (∀ v, lo' = some v → ∀ (code : BoundsCode) (w : World), (Instr.sliceBound v h code).run P w = .ok l w) ∧ (lo' = none → l = 0) := by
      cases lo with
      | none => cases lo' with
        | some _ => exact hlo.elim
        | none => have := sliceBnd_none hl0; subst this; exact ⟨.inl rfl, Nat.zero_le _, (fun v e => by cases e), fun _ => rfl⟩
      | some v => cases lo' with
        | none => exact hlo.elim
        | some v' =>
          obtain ⟨k, i, rfl⟩ := sliceBnd_int hl0
          cases hlo
          obtain ⟨a, b⟩ := sliceBnd_sound (P := P) hl0 (Nat.le_refl _)
          exact ⟨.inr ⟨_, rfl⟩, b, (fun v e => by cases e; exact a), fun e => by cases e⟩
    obtain ⟨_, l1, l2, l3⟩ := hlow
    have hhigh : ∀ m1, m ≤ m1 → h ≤ m ∧ (∀ v, hi' = some v → ∀ (code : BoundsCode) (w : World), (Instr.sliceBound v m1 code).run P w = .ok h w) ∧ (hi' = none → h = len ∧ mx' = none) := by
      intro m1 hm1
      cases hi with
      | none => cases hi' with
        | some _ => exact hhi.elim
        | none =>
          have := sliceBnd_none hh0; subst this
          have hmxn : mx = none := by cases mx with | none => rfl | some v => exact (hnot v rfl rfl).elim
          subst hmxn
          have := sliceBnd_none hm0
          exact ⟨by omega, (fun v e => by cases e), fun _ => ⟨rfl, by cases mx' with | none => rfl | some _ => exact hmx.elim⟩⟩
      | some v => cases hi' with
        | none => exact hhi.elim
        | some v' =>
          obtain ⟨k, i, rfl⟩ := sliceBnd_int hh0
          cases hhi
          obtain ⟨a, b⟩ := sliceBnd_sound (P := P) hh0 hm1
          exact ⟨b, (fun v e => by cases e; exact a), fun e => by cases e⟩
    cases mx with
    | none => cases mx' with
      | some _ => exact hmx.elim
      | none =>
        have hm := sliceBnd_none hm0
        obtain ⟨b1, b2, b3⟩ := hhigh cap' (by omega)
        refine ⟨cap', ?_, l1, b1, by omega, Nat.le_refl _, fun _ => ⟨rfl, hm.symm⟩, fun e => absurd rfl e⟩
        cases hi' with
        | none =>
          obtain ⟨rfl, _⟩ := b3 rfl
          cases lo' with
          | none => have := l3 rfl; subst this; simp [Instr.sliceBounds]
          | some v => simp [Instr.sliceBounds, l2 v rfl]
        | some u =>
          cases lo' with
          | none => have := l3 rfl; subst this; simp [Instr.sliceBounds, b2 u rfl]
          | some v => simp [Instr.sliceBounds, b2 u rfl, l2 v rfl]
    | some x => cases mx' with
      | none => exact hmx.elim
      | some x' =>
        obtain ⟨k, i, rfl⟩ := sliceBnd_int hm0
        cases hmx
        obtain ⟨a, b⟩ := sliceBnd_sound (P := P) hm0 hc
        obtain ⟨b1, b2, b3⟩ := hhigh m (Nat.le_refl _)
        refine ⟨m, ?_, l1, b1, Nat.le_refl _, by omega, fun e => (by cases e), fun _ => rfl⟩
        cases hi' with
        | none => have := (b3 rfl).2; cases this
        | some u =>
          cases lo' with
          | none => have := l3 rfl; subst this; simp [Instr.sliceBounds, a, b2 u rfl]
          | some v => simp [Instr.sliceBounds, a, b2 u rfl, l2 v rfl]

theorem slice_sound {ρ : Rmap} {S : St} {w : World} (hs : Sim P w0 ρ S w) {t : TypeId} {x x' v : Value} {lo hi mx lo' hi' mx' : Option Value} (h : sliceV P t x lo hi mx S = some v) (hx : VR ρ x x')
    (hlo : OptR ρ lo lo') (hhi : OptR ρ hi hi') (hmx : OptR ρ mx mx') : ∃ v', (Instr.sliceAt t x' lo' hi' mx').run P w = .ok v' w ∧ VR ρ v v' := by
  unfold sliceV at h
  split at h
  · rename_i hu
    split at h
    · rename_i s
      cases hx
      split at h
      · cases h
      · split at h
        · rename_i l hh m hb
          cases h
          have hmx' : mx' = none := by cases mx' with | none => rfl | some _ => exact hmx.elim
          subst hmx'
          obtain ⟨m', a1, a2, a3, a4, _⟩ := bounds3_sound (P := P) hb hlo hhi (mx' := none) trivial (Nat.le_refl _) (Nat.le_refl _) false w
          refine ⟨_, ?_, .string _⟩
          have hsz : s.size = s.data.toList.length := (Array.length_toList (xs := s.data)).symm
          have hex : s.extract l hh = ⟨((s.data.toList.drop l).take (hh - l)).toArray⟩ := by
            apply ByteArray.ext
            rw [ByteArray.data_extract]
            apply Array.ext'
            rw [Array.toList_extract]
          rw [← hsz] at a1
          simp [Instr.sliceAt, Instr.slice, run_und w hu, a1, hex]
        · cases h
    · cases h
  · rename_i elem hu
    split at h
    · rename_i a len cap
      split at h
      · rename_i z l hh m hz hb
        cases hx with
        | snil =>
          cases h
          obtain ⟨m', a1, a2, a3, a4, a5, a6, a7⟩ := bounds3_sound (P := P) hb hlo hhi hmx (Nat.le_refl _) (Nat.le_refl _) true w
          obtain rfl : m' = 0 := by omega
          obtain rfl : m = 0 := by omega
          obtain rfl : hh = 0 := by omega
          obtain rfl : l = 0 := by omega
          exact ⟨_, by simp [Instr.sliceAt, Instr.slice, run_und w hu, run_size w hz, a1], .snil⟩
        | slice hb' hn hc hr ho =>
          rename_i b o o' c' L
          cases hg : rowSize P S b z with
          | false => simp [hg] at h
          | true =>
            simp only [hg, cond_true, Option.some.injEq] at h
            subst h
            obtain ⟨m', a1, a2, a3, a4, a5, a6, a7⟩ := bounds3_sound (P := P) hb hlo hhi hmx hc hn true w
            refine ⟨.slice (some (if m' = l then ⟨L.r, o', none⟩ else Addr.add ⟨L.r, o', none⟩ (l * z))) (hh - l) (m' - l), by simp [Instr.sliceAt, Instr.slice, run_und w hu, run_size w hz, a1]; split <;> rfl, ?_⟩
            have hz' : L.z ≠ 0 → L.z = z := by
              intro hne
              unfold rowSize at hg
              split at hg
              · rename_i c e own kin hB
                split at hg
                · rename_i n hn'
                  obtain ⟨arr, e', fz, h1, h2, h3, h4, h5, h6⟩ := hs.blk _ _ _ hb' hB
                  have := h5 rfl
                  rw [hn'] at this
                  rw [← of_nbeq hg]
                  exact (Option.some.inj this).symm
                · cases hg
              · rename_i c e own kin hB
                obtain ⟨arr, e', fz, h1, h2, h3, h4, h5, h6⟩ := hs.blk _ _ _ hb' hB
                exact absurd ((h6.1 rfl).1) hne
              · cases hg
            by_cases hml : m' = l
            · rw [if_pos hml]
              have e0 : m' - l = 0 := by omega
              rw [e0]
              refine VR.slice hb' (by omega) (by omega) (fun hne => ?_) (.inr rfl)
              have := hr hne; simp; exact Nat.le_trans (Nat.le_add_right _ _) this
            · rw [if_neg hml, Addr.add_lit]
              refine VR.slice hb' (by omega) (by omega) (fun hne => ?_) ?_
              · have h1 := hr hne
                rw [hz' hne] at h1 ⊢
                have : l * z + (m' - l) * z = m' * z := by rw [← Nat.add_mul]; congr 1; omega
                have : m' * z ≤ c' * z := Nat.mul_le_mul_right _ a5
                omega
              · rcases ho with ho | ho
                · left; omega
                · omega
      · cases h
    · cases h
  · rename_i n elem hu
    split at h
    · rename_i b o
      split at h
      · rename_i z l hh m hz hb
        cases hx with
        | ptr hb' =>
          rename_i L
          cases hg : plainRow S b with
          | false => rw [hg] at h; cases h
          | true =>
            simp only [hg, cond_true, Option.some.injEq] at h
            subst h
            obtain ⟨m', a1, a2, a3, a4, a5, a6, a7⟩ := bounds3_sound (P := P) hb hlo hhi hmx (Nat.le_refl _) (Nat.le_refl _) false w
            have hm : m' = m := by
              cases mx with
              | none => have := a6 rfl; omega
              | some _ => exact a7 (by simp)
            subst hm
            have hz0 : L.z = 0 := by
              unfold plainRow at hg
              split at hg
              · rename_i c e own kin hB
                obtain ⟨arr, e', fz, h1, h2, h3, h4, h5, h6⟩ := hs.blk _ _ _ hb' hB
                exact (h6.1 rfl).1
              · cases hg
            refine ⟨.slice (some (if m' = l then ⟨L.r, o + L.d, none⟩ else Addr.add ⟨L.r, o + L.d, none⟩ (l * z))) (hh - l) (m' - l), by simp [Instr.sliceAt, Instr.sureAddr, run_und w hu, run_size w hz, a1], ?_⟩
            by_cases hml : m' = l
            · rw [if_pos hml, show m' - l = 0 by omega]
              exact VR.slice hb' (by omega) (by omega) (fun hne => absurd hz0 hne) (.inr rfl)
            · rw [if_neg hml, Addr.add_lit]
              exact VR.slice hb' (by omega) (by omega) (fun hne => absurd hz0 hne) (.inl (by omega))
      · cases h
    · cases h
  · cases h

theorem fieldAddr_sound {ρ : Rmap} {s : TypeId} {x x' v : Value} {i : Nat} (h : fieldAddrV P s x i = some v) (hx : VR ρ x x') (w : World) : ∃ v', (Instr.fieldAt s x' i).run P w = .ok v' w ∧ VR ρ v v' := by
  unfold fieldAddrV at h
  split at h
  · rename_i fields b o hu
    split at h
    · rename_i f hf
      split at h
      · rename_i n hn
        cases h
        cases hx with
        | ptr hb =>
          rename_i L
          rw [nth_eq] at hf
          have hf' : fields[i]? = some f := by rw [← Array.getElem?_toList]; exact hf
          refine ⟨.pointer (some ⟨L.r, o + f.offset + L.d, none⟩), ?_, .ptr hb⟩
          simp [Instr.fieldAt, run_und w hu, hf', Instr.sureAddr, fieldPlace, run_size w hn, Addr.add_lit]
          omega
      · cases h
    · cases h
  · cases h

theorem field_sound {ρ : Rmap} {s : TypeId} {x x' v : Value} {i : Nat} (h : fieldV P s x i = some v) (hx : VR ρ x x') (w : World) : ∃ v', (Instr.field s x' i).run P w = .ok v' w ∧ VR ρ v v' := by
  unfold fieldV at h
  split at h
  · rename_i fields cs hu
    split at h
    · rename_i f hf
      obtain ⟨ca, rfl, hc⟩ := hx.agg_inv
      rw [nth_eq] at hf
      have hf' : fields[i]? = some f := by rw [← Array.getElem?_toList]; exact hf
      obtain ⟨v', a, b⟩ := part_sound h hc w
      exact ⟨v', by simp [Instr.field, run_und w hu, hf', asAgg, a], b⟩
    · cases h
  · cases h

theorem indexAddr_sound {ρ : Rmap} {t : TypeId} {x x' ix ix' v : Value} (h : indexAddrV P t x ix = some v) (hx : VR ρ x x') (hi : VR ρ ix ix') (w : World) : ∃ v', (Instr.indexAt t x' ix').run P w = .ok v' w ∧ VR ρ v v' := by
  unfold indexAddrV at h
  split at h
  · rename_i k i
    cases hi
    split at h
    · rename_i len elem b o hu
      split at h
      · rename_i hb
        split at h
        · rename_i n hn
          cases h
          cases hx with
          | ptr hp =>
            rename_i L
            refine ⟨.pointer (some ⟨L.r, o + i.toNat * n + L.d, none⟩), ?_, .ptr hp⟩
            simp [Instr.indexAt, asIntOf, run_und w hu, Instr.sureAddr, hb, run_size w hn, Addr.add_lit]
            omega
        · cases h
      · cases h
    · rename_i elem b o len cap hu
      split at h
      · rename_i hb
        split at h
        · rename_i n hn
          cases h
          cases hx with
          | slice hp hnc hc hr ho =>
            rename_i o' c' L
            refine ⟨.pointer (some ⟨L.r, o + i.toNat * n + L.d, none⟩), ?_, .ptr hp⟩
            have ho' : o' = o + L.d := by
              rcases ho with ho | ho
              · exact ho
              · omega
            subst ho'
            simp [Instr.indexAt, asIntOf, run_und w hu, hb, run_size w hn, Addr.add_lit]
            omega
        · cases h
      · cases h
    · cases h
  · cases h

theorem index_sound {ρ : Rmap} {t : TypeId} {x x' ix ix' v : Value} (h : indexV P t x ix = some v) (hx : VR ρ x x') (hi : VR ρ ix ix') (w : World) : ∃ v', (Instr.index t x' ix').run P w = .ok v' w ∧ VR ρ v v' := by
  unfold indexV at h
  split at h
  · rename_i k i
    cases hi
    split at h
    · rename_i len elem cs hu
      split at h
      · rename_i hb
        split at h
        · rename_i n hn
          obtain ⟨ca, rfl, hc⟩ := hx.agg_inv
          obtain ⟨v', a, b⟩ := part_sound h hc w
          exact ⟨v', by simp [Instr.index, asIntOf, run_und w hu, hb, run_size w hn, a], b⟩
        · cases h
      · cases h
    · rename_i s hu
      split at h
      · rename_i hb
        split at h
        · rename_i y hy
          cases h
          cases hx
          rw [nth_eq] at hy
          have hy' : s[i.toNat]? = some y := by
            have hlt : i.toNat < s.size := by
              have := (List.getElem?_eq_some_iff.1 hy).1
              rw [Array.length_toList] at this
              exact this
            rw [getElem?_pos s i.toNat hlt]
            congr 1
            have := (List.getElem?_eq_some_iff.1 hy).2
            rw [← this]
            rfl
          exact ⟨_, by simp [Instr.index, asIntOf, run_und w hu, hb, hy'], .int _ _⟩
        · cases h
      · cases h
    · cases h
  · cases h

theorem typeAssert_sound {ρ : Rmap} {x x' v : Value} {xT t : TypeId} {ok : Bool} (h : typeAssertV P x t ok = some v) (hx : VR ρ x x') (w : World) : ∃ v', (Instr.typeAssert x' xT t ok).run P w = .ok v' w ∧ VR ρ v v' := by
  unfold typeAssertV at h
  split at h
  · cases h
  · rename_i d hni hu
    cases hx
    split at h
    · rename_i hok
      subst hok
      split at h
      · rename_i z hz
        cases h
        obtain ⟨_, _, _, hf⟩ := zeroV_spec hz
        refine ⟨_, ?_, VR.tuple' (VRs.cons (hf.refl ρ) (VRs.cons (.bool false) .nil))⟩
        cases d <;> first
          | exact absurd rfl (hni _)
          | simp [Instr.typeAssert, run_und w hu, run_zero w hz]
      · cases h
    · cases h
  · rename_i d ty vy hni hu
    cases hx with
    | iface _ hv =>
      rename_i v'
      split at h
      · rename_i ht
        subst ht
        cases h
        refine ⟨if ok then .tuple #[v', .bool true] else v', ?_, ?_⟩
        · cases d <;> first
            | exact absurd rfl (hni _)
            | simp [Instr.typeAssert, run_und w hu]
        · cases ok
          · exact hv
          · exact VR.tuple' (VRs.cons hv (VRs.cons (.bool true) .nil))
      · rename_i ht
        split at h
        · rename_i hok
          subst hok
          split at h
          · rename_i z hz
            cases h
            obtain ⟨_, _, _, hf⟩ := zeroV_spec hz
            refine ⟨_, ?_, VR.tuple' (VRs.cons (hf.refl ρ) (VRs.cons (.bool false) .nil))⟩
            cases d <;> first
              | exact absurd rfl (hni _)
              | simp [Instr.typeAssert, run_und w hu, ht, run_zero w hz]
          · cases h
        · cases h
  · cases h

end Go.Cm
