/-
  The evaluator of the model, and that it is sound: part 2.
-/
import Derived.Laws.BytesString
import Derived.Lib.UnsafeStr
import Derived.Lib.Builder
import Derived.RangeFuncIn
import Derived.RangeFuncLeaves
import Derived.OrdersIn
import Derived.Sort.LoopGhostIn
import Derived.Test.YtnhalpkekpehpaaGreatDoorCm1
namespace Go.Cm
open Go
variable {P : Program} {w0 : Bn}
theorem cI {x : Value} {Mx hi n : Nat} (h : Hj (some x) Mx hi = some n) {Dn : Nat} (hle : hi ≤ Dn) : (∀ (code : BoundsCode) (w : World), (Instr.sliceBound x Dn code).run P w = .ok n w) ∧ n ≤ hi := by
 cases x <;> simp only [Hj] at h <;> try (cases h; done)
 rename_i k i
 split at h
 ·rename_i hb
  cases h
  refine ⟨fun code w => ?_, by omega⟩
  have : 0 ≤ i ∧ i ≤ (Dn : Int) := ⟨hb.1, by omega⟩
  simp [Instr.sliceBound, asIntOf, this]
 cases h
theorem cH {x : Value} {Mx hi n : Nat} (h : Hj (some x) Mx hi = some n) : ∃ k i, x = .int k i := by
 cases x <;> simp only [Hj] at h <;> try (cases h; done)
 rename_i k i
 exact ⟨k, i, rfl⟩
theorem Wf {Mx hi n : Nat} (h : Hj none Mx hi = some n) : Mx = n := by simpa [Hj] using h
def Jy (ρ : AF) : Option Value → Option Value → Prop
 | none, none => True
 | some v, some v' => VR ρ v v'
 | _, _ => False
theorem Jy.map {ρ : AF} {f g : Operand → Value} {x : Option Operand} (h : ∀ o, x = some o → VR ρ (f o) (g o)) : Jy ρ (x.map f) (x.map g) := by
 cases x with
 | none => trivial
 | some o => exact h o rfl
theorem RV {ρ : AF} {len cap l h m : Nat} {lo hi mx IE Dn mx' : Option Value} (hb : GV len cap lo hi mx = some (l, h, m)) (FG : Jy ρ lo IE) (MC : Jy ρ hi Dn) (G7 : Jy ρ mx mx')
  {BD : Nat} (hc : cap ≤ BD) (hlc : len ≤ cap) (yj : Bool) (w : World) :
  ∃ m', (Instr.sliceBounds yj len BD IE Dn mx').run P w = .ok (l, h, m') w ∧ l ≤ h ∧ h ≤ m ∧ m ≤ m' ∧ m' ≤ BD ∧ (mx = none → m' = BD ∧ m = cap) ∧ (mx ≠ none → m' = m) := by
 unfold GV at hb
 split at hb
 case h_2 => cases hb
 rename_i m0 KL
 split at hb
 ·cases hb
 rename_i Y'
 split at hb
 case h_2 => cases hb
 rename_i h0 Yy
 split at hb
 case h_2 => cases hb
 rename_i l0 DT
 cases hb
 have wh : ∃ e : IE = none ∨ ∃ v, IE = some v, l ≤ h ∧ (∀ v, IE = some v → ∀ (code : BoundsCode) (w : World), (Instr.sliceBound v h code).run P w = .ok l w) ∧ (IE = none → l = 0) := by
  cases lo with
  | none => cases IE with
   | some _ => exact FG.elim
   | none => have := Wf DT; subst this; exact ⟨.inl rfl, Nat.zero_le _, (fun v e => by cases e), fun _ => rfl⟩
  | some v => cases IE with
   | none => exact FG.elim
   | some v' =>
    obtain ⟨k, i, rfl⟩ := cH DT
    cases FG
    obtain ⟨a, b⟩ := cI (P := P) DT (Nat.le_refl _)
    exact ⟨.inr ⟨_, rfl⟩, b, (fun v e => by cases e; exact a), fun e => by cases e⟩
 obtain ⟨_, l1, l2, l3⟩ := wh
 have jU : ∀ m1, m ≤ m1 → h ≤ m ∧ (∀ v, Dn = some v → ∀ (code : BoundsCode) (w : World), (Instr.sliceBound v m1 code).run P w = .ok h w) ∧ (Dn = none → h = len ∧ mx' = none) := by
  intro m1 Y7
  cases hi with
  | none => cases Dn with
   | some _ => exact MC.elim
   | none =>
    have := Wf Yy; subst this
    have wz : mx = none := by cases mx with | none => rfl | some v => exact (Y' v rfl rfl).elim
    subst wz
    have := Wf KL
    exact ⟨by omega, (fun v e => by cases e), fun _ => ⟨rfl, by cases mx' with | none => rfl | some _ => exact G7.elim⟩⟩
  | some v => cases Dn with
   | none => exact MC.elim
   | some v' =>
    obtain ⟨k, i, rfl⟩ := cH Yy
    cases MC
    obtain ⟨a, b⟩ := cI (P := P) Yy Y7
    exact ⟨b, (fun v e => by cases e; exact a), fun e => by cases e⟩
 cases mx with
 | none => cases mx' with
  | some _ => exact G7.elim
  | none =>
   have hm := Wf KL
   obtain ⟨b1, b2, b3⟩ := jU BD (by omega)
   refine ⟨BD, ?_, l1, b1, by omega, Nat.le_refl _, fun _ => ⟨rfl, hm.symm⟩, fun e => absurd rfl e⟩
   cases Dn with
   | none =>
    obtain ⟨rfl, _⟩ := b3 rfl
    cases IE with
    | none => have := l3 rfl; subst this; simp [Instr.sliceBounds]
    | some v => simp [Instr.sliceBounds, l2 v rfl]
   | some u =>
    cases IE with
    | none => have := l3 rfl; subst this; simp [Instr.sliceBounds, b2 u rfl]
    | some v => simp [Instr.sliceBounds, b2 u rfl, l2 v rfl]
 | some x => cases mx' with
  | none => exact G7.elim
  | some x' =>
   obtain ⟨k, i, rfl⟩ := cH KL
   cases G7
   obtain ⟨a, b⟩ := cI (P := P) KL hc
   obtain ⟨b1, b2, b3⟩ := jU m (Nat.le_refl _)
   refine ⟨m, ?_, l1, b1, Nat.le_refl _, by omega, fun e => (by cases e), fun _ => rfl⟩
   cases Dn with
   | none => have := (b3 rfl).2; cases this
   | some u =>
    cases IE with
    | none => have := l3 rfl; subst this; simp [Instr.sliceBounds, a, b2 u rfl]
    | some v => simp [Instr.sliceBounds, a, b2 u rfl, l2 v rfl]
theorem ACV {ρ : AF} {S : St} {w : World} (hs : AO P w0 ρ S w) {t : TypeId} {x x' v : Value} {lo hi mx IE Dn mx' : Option Value} (h : Fi P t x lo hi mx S = some v) (hx : VR ρ x x')
  (FG : Jy ρ lo IE) (MC : Jy ρ hi Dn) (G7 : Jy ρ mx mx') : ∃ v', (Instr.sliceAt t x' IE Dn mx').run P w = .ok v' w ∧ VR ρ v v' := by
 unfold Fi at h
 split at h
 ·rename_i hu
  split at h
  ·rename_i s
   cases hx
   split at h
   ·cases h
   split at h
   ·rename_i l hh m hb
    cases h
    have wy : mx' = none := by cases mx' with | none => rfl | some _ => exact G7.elim
    subst wy
    obtain ⟨m', a1, a2, a3, a4, _⟩ := RV (P := P) hb FG MC (mx' := none) trivial (Nat.le_refl _) (Nat.le_refl _) false w
    refine ⟨_, ?_, .string _⟩
    have Ay : s.size = s.data.toList.length := (Array.length_toList (xs := s.data)).symm
    have hex : s.extract l hh = ⟨((s.data.toList.drop l).take (hh - l)).toArray⟩ := by
     apply ByteArray.ext
     rw [ByteArray.data_extract]
     apply Array.ext'
     rw [Array.toList_extract]
    rw [← Ay] at a1
    simp [Instr.sliceAt, Instr.slice, Aj w hu, a1, hex]
   cases h
  cases h
 ·rename_i elem hu
  split at h
  ·rename_i a len cap
   split at h
   ·rename_i z l hh m hz hb
    cases hx with
    | IP =>
     cases h
     obtain ⟨m', a1, a2, a3, a4, a5, a6, a7⟩ := RV (P := P) hb FG MC G7 (Nat.le_refl _) (Nat.le_refl _) true w
     obtain rfl : m' = 0 := by omega
     obtain rfl : m = 0 := by omega
     obtain rfl : hh = 0 := by omega
     obtain rfl : l = 0 := by omega
     exact ⟨_, by simp [Instr.sliceAt, Instr.slice, Aj w hu, Ek w hz, a1], .IP⟩
    | slice BS hn hc hr ho =>
     rename_i b o o' c' L
     cases hg : Jn P S b z with
     | false => simp [hg] at h
     | true =>
      simp only [hg, cond_true] at h
      obtain ⟨m', a1, a2, a3, a4, a5, a6, a7⟩ := RV (P := P) hb FG MC G7 hc hn true w
      cases hex : (mx.isSome && Nat.beq m l) with
      | true =>
      rw [hex] at h
      simp only [cond_true, Option.some.injEq] at h
      subst h
      rw [Bool.and_eq_true] at hex
      have JZ := BV hex.2
      have jh := a7 (fun e => by rw [e] at hex; cases hex.1)
      refine ⟨.slice (some (if m' = l then ⟨L.r, o', none⟩ else Addr.add ⟨L.r, o', none⟩ (l * z))) (hh - l) (m' - l), by simp [Instr.sliceAt, Instr.slice, Aj w hu, Ek w hz, a1]; split <;> rfl, ?_⟩
      have e1 : hh - l = 0 := by omega
      have e2 : m' - l = 0 := by omega
      rw [e1, e2]
      exact .Ki _ _ _ _
      | false =>
      rw [hex] at h
      simp only [cond_false, Option.some.injEq] at h
      subst h
      refine ⟨.slice (some (if m' = l then ⟨L.r, o', none⟩ else Addr.add ⟨L.r, o', none⟩ (l * z))) (hh - l) (m' - l), by simp [Instr.sliceAt, Instr.slice, Aj w hu, Ek w hz, a1]; split <;> rfl, ?_⟩
      have Oy : L.z ≠ 0 → L.z = z := by
       intro AR
       unfold Jn at hg
       split at hg
       ·rename_i c e own kin hB
        split at hg
        ·rename_i n Sa
         obtain ⟨arr, e', fz, h1, h2, h3, h4, h5, h6⟩ := hs.CR _ _ _ BS hB
         have := h5 rfl
         rw [Sa] at this
         rw [← BV hg]
         exact (Option.some.inj this).symm
        cases hg
       ·rename_i c e own kin hB
        obtain ⟨arr, e', fz, h1, h2, h3, h4, h5, h6⟩ := hs.CR _ _ _ BS hB
        exact absurd ((h6.1 rfl).1) AR
       cases hg
      by_cases JZ : m' = l
      ·rw [if_pos JZ]
       have e0 : m' - l = 0 := by omega
       rw [e0]
       refine VR.slice BS (by omega) (by omega) (fun AR => ?_) (.inr rfl)
       have := hr AR; simp; exact Nat.le_trans (Nat.le_add_right _ _) this
      rw [if_neg JZ, Addr.add_lit]
      refine VR.slice BS (by omega) (by omega) (fun AR => ?_) ?_
      ·have h1 := hr AR
       rw [Oy AR] at h1 ⊢
       have : l * z + (m' - l) * z = m' * z := by rw [← Nat.add_mul]; congr 1; omega
       have : m' * z ≤ c' * z := Nat.mul_le_mul_right _ a5
       omega
      rcases ho with ho | ho
      ·left; omega
      omega
    | Ki b o k a =>
     simp only [IJ, Bool.and_self, cond_true, Option.some.injEq] at h
     subst h
     obtain ⟨m', a1, a2, a3, a4, a5, a6, a7⟩ := RV (P := P) hb FG MC G7 (Nat.le_refl _) (Nat.le_refl _) true w
     obtain rfl : m' = 0 := by omega
     obtain rfl : m = 0 := by omega
     obtain rfl : hh = 0 := by omega
     obtain rfl : l = 0 := by omega
     exact ⟨.slice (some a) 0 0, by simp [Instr.sliceAt, Instr.slice, Aj w hu, Ek w hz, a1], .Ki _ _ _ _⟩
   cases h
  cases h
 ·rename_i n elem hu
  split at h
  ·rename_i b o
   split at h
   ·rename_i z l hh m hz hb
    cases hx with
    | ptr BS =>
     rename_i L
     cases hg : O8 S b with
     | false => rw [hg] at h; cases h
     | true =>
      simp only [hg, cond_true, Option.some.injEq] at h
      subst h
      obtain ⟨m', a1, a2, a3, a4, a5, a6, a7⟩ := RV (P := P) hb FG MC G7 (Nat.le_refl _) (Nat.le_refl _) false w
      have hm : m' = m := by
       cases mx with
       | none => have := a6 rfl; omega
       | some _ => exact a7 (by simp)
      subst hm
      have F2 : L.z = 0 := by
       unfold O8 at hg
       split at hg
       ·rename_i c e own kin hB
        obtain ⟨arr, e', fz, h1, h2, h3, h4, h5, h6⟩ := hs.CR _ _ _ BS hB
        exact (h6.1 rfl).1
       cases hg
      refine ⟨.slice (some (if m' = l then ⟨L.r, o + L.d, none⟩ else Addr.add ⟨L.r, o + L.d, none⟩ (l * z))) (hh - l) (m' - l), by simp [Instr.sliceAt, Instr.sureAddr, Aj w hu, Ek w hz, a1], ?_⟩
      by_cases JZ : m' = l
      ·rw [if_pos JZ, show m' - l = 0 by omega]
       exact VR.slice BS (by omega) (by omega) (fun AR => absurd F2 AR) (.inr rfl)
      rw [if_neg JZ, Addr.add_lit]
      exact VR.slice BS (by omega) (by omega) (fun AR => absurd F2 AR) (.inl (by omega))
   cases h
  cases h
 cases h
theorem tu {ρ : AF} {s : TypeId} {x x' v : Value} {i : Nat} (h : K5 P s x i = some v) (hx : VR ρ x x') (w : World) : ∃ v', (Instr.fieldAt s x' i).run P w = .ok v' w ∧ VR ρ v v' := by
 unfold K5 at h
 split at h
 ·rename_i fields b o hu
  split at h
  ·rename_i f hf
   split at h
   ·rename_i n hn
    cases h
    cases hx with
    | ptr hb =>
     rename_i L
     rw [CD] at hf
     have Ys : fields[i]? = some f := by rw [← Array.getElem?_toList]; exact hf
     refine ⟨.pointer (some ⟨L.r, o + f.offset + L.d, none⟩), ?_, .ptr hb⟩
     simp [Instr.fieldAt, Aj w hu, Ys, Instr.sureAddr, fieldPlace, Ek w hn, Addr.add_lit]
     omega
   cases h
  cases h
 cases h
theorem tv {ρ : AF} {s : TypeId} {x x' v : Value} {i : Nat} (h : X6 P s x i = some v) (hx : VR ρ x x') (w : World) : ∃ v', (Instr.field s x' i).run P w = .ok v' w ∧ VR ρ v v' := by
 unfold X6 at h
 split at h
 ·rename_i fields cs hu
  split at h
  ·rename_i f hf
   obtain ⟨ca, rfl, hc⟩ := hx.Lg
   rw [CD] at hf
   have Ys : fields[i]? = some f := by rw [← Array.getElem?_toList]; exact hf
   obtain ⟨v', a, b⟩ := Nm h hc w
   exact ⟨v', by simp [Instr.field, Aj w hu, Ys, asAgg, a], b⟩
  cases h
 cases h
theorem yW {ρ : AF} {t : TypeId} {x x' ix ID v : Value} (h : KT P t x ix = some v) (hx : VR ρ x x') (hi : VR ρ ix ID) (w : World) : ∃ v', (Instr.indexAt t x' ID).run P w = .ok v' w ∧ VR ρ v v' := by
 unfold KT at h
 split at h
 ·rename_i k i
  cases hi
  split at h
  ·rename_i len elem b o hu
   split at h
   ·rename_i hb
    split at h
    ·rename_i n hn
     cases h
     cases hx with
     | ptr hp =>
      rename_i L
      refine ⟨.pointer (some ⟨L.r, o + i.toNat * n + L.d, none⟩), ?_, .ptr hp⟩
      simp [Instr.indexAt, asIntOf, Aj w hu, Instr.sureAddr, hb, Ek w hn, Addr.add_lit]
      omega
    cases h
   cases h
  ·rename_i elem b o len cap hu
   split at h
   ·rename_i hb
    split at h
    ·rename_i n hn
     cases h
     cases hx with
     | slice hp NV hc hr ho =>
      rename_i o' c' L
      refine ⟨.pointer (some ⟨L.r, o + i.toNat * n + L.d, none⟩), ?_, .ptr hp⟩
      have Is : o' = o + L.d := by
       rcases ho with ho | ho
       ·exact ho
       omega
      subst Is
      simp [Instr.indexAt, asIntOf, Aj w hu, hb, Ek w hn, Addr.add_lit]
      omega
    cases h
   cases h
  cases h
 cases h
theorem yX {ρ : AF} {t : TypeId} {x x' ix ID v : Value} (h : KU P t x ix = some v) (hx : VR ρ x x') (hi : VR ρ ix ID) (w : World) : ∃ v', (Instr.index t x' ID).run P w = .ok v' w ∧ VR ρ v v' := by
 unfold KU at h
 split at h
 ·rename_i k i
  cases hi
  split at h
  ·rename_i len elem cs hu
   split at h
   ·rename_i hb
    split at h
    ·rename_i n hn
     obtain ⟨ca, rfl, hc⟩ := hx.Lg
     obtain ⟨v', a, b⟩ := Nm h hc w
     exact ⟨v', by simp [Instr.index, asIntOf, Aj w hu, hb, Ek w hn, a], b⟩
    cases h
   cases h
  ·rename_i s hu
   split at h
   ·rename_i hb
    split at h
    ·rename_i y hy
     cases h
     cases hx
     rw [CD] at hy
     have IB : s[i.toNat]? = some y := by
      have AJ : i.toNat < s.size := by
       have := (List.getElem?_eq_some_iff.1 hy).1
       rw [Array.length_toList] at this
       exact this
      rw [getElem?_pos s i.toNat AJ]
      congr 1
      have := (List.getElem?_eq_some_iff.1 hy).2
      rw [← this]
      rfl
     exact ⟨_, by simp [Instr.index, asIntOf, Aj w hu, hb, IB], .int _ _⟩
    cases h
   cases h
  cases h
 cases h
theorem AE2 {ρ : AF} {x x' v : Value} {xT t : TypeId} {ok : Bool} (h : RB P x t ok = some v) (hx : VR ρ x x') (w : World) : ∃ v', (Instr.typeAssert x' xT t ok).run P w = .ok v' w ∧ VR ρ v v' := by
 unfold RB at h
 split at h
 ·cases h
 ·rename_i d Iq hu
  cases hx
  split at h
  ·rename_i A3
   subst A3
   split at h
   ·rename_i z hz
    cases h
    obtain ⟨_, _, _, hf⟩ := N4 hz
    refine ⟨_, ?_, VR.tuple' (AI.cons (hf.refl ρ) (AI.cons (.bool false) .nil))⟩
    cases d <;> first
     | exact absurd rfl (Iq _)
     | simp [Instr.typeAssert, Aj w hu, Jo w hz]
   cases h
  cases h
 ·rename_i d ty vy Iq hu
  cases hx with
  | iface _ hv =>
   rename_i v'
   split at h
   ·rename_i ht
    subst ht
    cases h
    refine ⟨if ok then .tuple #[v', .bool true] else v', ?_, ?_⟩
    ·cases d <;> first
      | exact absurd rfl (Iq _)
      | simp [Instr.typeAssert, Aj w hu]
    cases ok
    ·exact hv
    exact VR.tuple' (AI.cons hv (AI.cons (.bool true) .nil))
   rename_i ht
   split at h
   ·rename_i A3
    subst A3
    split at h
    ·rename_i z hz
     cases h
     obtain ⟨_, _, _, hf⟩ := N4 hz
     refine ⟨_, ?_, VR.tuple' (AI.cons (hf.refl ρ) (AI.cons (.bool false) .nil))⟩
     cases d <;> first
      | exact absurd rfl (Iq _)
      | simp [Instr.typeAssert, Aj w hu, ht, Jo w hz]
    cases h
   cases h
 cases h
theorem AAa {ρ : AF} {x x' v : Value} (h : Vx x = some v) (hx : VR ρ x x') : v = x ∧ (∀ t, x' ≠ .pointer none ∧ x' ≠ .nilIface ∧ x' ≠ .nilFunc ∧ ∀ a b, x' ≠ .func (.method t) a b) := by
 unfold Vx at h
 split at h <;> first
  | (cases h; done)
  | (cases h; refine ⟨rfl, fun t => ?_⟩; cases hx <;> simp)
theorem AI.Ng {ρ : AF} {f g : Operand → Value} : ∀ (l : List Operand), (∀ x, x ∈ l → VR ρ (f x) (g x)) → AI ρ (l.map f) (l.map g)
 | [], _ => AI.nil
 | x :: l, h => AI.cons (h x (by simp)) (AI.Ng l fun y hy => h y (by simp [hy]))
theorem map_mk (l : Array Operand) (g : Operand → Value) : l.map g = ⟨l.toList.map g⟩ := by
 apply Array.ext'
 simp
theorem AA9 {ρ : AF} {o : Oper} {f g : Operand → Value} (Aa : ∀ x, x ∈ o.op.operands → VR ρ (f x) (g x)) {v : Value} (h : Hf P f o.op = some v) (w : World) :
  ∃ v', (execOp g o).run P w = .ok (.value v') w ∧ VR ρ v v' := by
 cases ho : o.op <;> rw [ho] at h Aa <;> simp only [Hf] at h
 case move x => cases h; exact ⟨_, by simp [execOp, ho], Aa x (by simp [Op.operands])⟩
 case assign x => cases h; exact ⟨_, by simp [execOp, ho], Aa x (by simp [Op.operands])⟩
 case pick c a b =>
  have hc := Aa c (by simp [Op.operands])
  have ha := Aa a (by simp [Op.operands])
  have hb := Aa b (by simp [Op.operands])
  split at h
  ·rename_i t ht
   cases h
   rw [ht] at hc
   have hg : g c = .bool t := by
    generalize g c = y at hc ⊢
    cases hc; rfl
   refine ⟨if t then g a else g b, by simp [execOp, ho, hg, asBool], ?_⟩
   cases t
   ·exact hb
   exact ha
  cases h
 case build t parts =>
  have hp : JH ρ (Kc f parts.toList) (parts.map fun (i, x) => (i, g x)).toList := by
   refine ⟨by simp [Kc], ?_⟩
   simp only [Kc, List.map_map, Array.toList_map]
   have := AI.Ng (ρ := ρ) (f := f) (g := g) (parts.toList.map (·.2)) (fun x hx => Aa x (by simpa [Op.operands] using hx))
   simpa [List.map_map, Function.comp_def] using this
  obtain ⟨v', a, b⟩ := sJ h hp w
  exact ⟨v', by simp [execOp, ho, a], b⟩
 case nilCheck x =>
  have hx := Aa x (by simp [Op.operands])
  obtain ⟨rfl, hn⟩ := AAa h hx
  refine ⟨g x, ?_, hx⟩
  simp only [execOp, ho]
  have h1 := (hn "").1
  have h2 := (hn "").2.1
  have h3 := (hn "").2.2.1
  split
  ·rename_i e; exact absurd e h1
  ·rename_i e; exact absurd e h2
  ·rename_i e; exact absurd e h3
  ·rename_i nm a b e; exact absurd e ((hn nm).2.2.2 _ _)
  rfl
 case binOp op t x y yt =>
  obtain ⟨a, b⟩ := ri h (Aa x (by simp [Op.operands])) (Aa y (by simp [Op.operands])) w
  refine ⟨v, ?_, b.refl ρ⟩
  simp only [execOp, ho]
  rw [Sem.run_bind, a]
  rfl
 case unOp op t x =>
  obtain ⟨a, b⟩ := AE4 (P := P) h (Aa x (by simp [Op.operands])) w
  exact ⟨v, by simp [execOp, ho, a], b.refl ρ⟩
 case makeInterface t x =>
  have hx := Aa x (by simp [Op.operands])
  split at h
  ·cases h
  ·rename_i d Iq hu
   cases h
   refine ⟨.iface t (g x), ?_, .iface t hx⟩
   cases d <;> first
    | exact absurd rfl (Iq _)
    | simp [execOp, ho, Instr.makeInterface, Aj w hu]
  cases h
 case makeFunc fn first cap =>
  have h1 := AI.Ng (ρ := ρ) (f := f) (g := g) first.toList (fun x hx => Aa x (by simp [Op.operands]; left; simpa using hx))
  have h2 := AI.Ng (ρ := ρ) (f := f) (g := g) cap.toList (fun x hx => Aa x (by simp [Op.operands]; right; simpa using hx))
  split at h
  ·cases h
   exact ⟨_, by simp only [execOp, ho, Instr.makeFunc, map_mk]; rfl, .func _ h1.1 h1.2 h2.1 h2.2⟩
  ·cases h
   exact ⟨_, by simp only [execOp, ho, Instr.makeFunc, map_mk]; rfl, .method _ h1.1 h1.2 h2.1 h2.2⟩
  ·cases h
   exact ⟨_, by simp only [execOp, ho, Instr.makeFunc, map_mk]; rfl, .via _ _ _ _ h1.1 h1.2 h2.1 h2.2⟩
  cases h
 case fieldAddr s x i =>
  obtain ⟨v', a, b⟩ := tu h (Aa x (by simp [Op.operands])) w
  exact ⟨v', by simp [execOp, ho, a], b⟩
 case field t x i =>
  obtain ⟨v', a, b⟩ := tv h (Aa x (by simp [Op.operands])) w
  exact ⟨v', by simp [execOp, ho, a], b⟩
 case indexAddr t x i =>
  obtain ⟨v', a, b⟩ := yW h (Aa x (by simp [Op.operands])) (Aa i (by simp [Op.operands])) w
  exact ⟨v', by simp [execOp, ho, a], b⟩
 case index t x i =>
  obtain ⟨v', a, b⟩ := yX h (Aa x (by simp [Op.operands])) (Aa i (by simp [Op.operands])) w
  exact ⟨v', by simp [execOp, ho, a], b⟩
 case typeAssert x xt t ok =>
  obtain ⟨v', a, b⟩ := AE2 (xT := xt) h (Aa x (by simp [Op.operands])) w
  exact ⟨v', by simp [execOp, ho, a], b⟩
 case extract x i =>
  have hx := Aa x (by simp [Op.operands])
  split at h
  ·rename_i vs F1
   rw [F1] at hx
   obtain ⟨va, hg, hr⟩ := hx.AEx
   rw [CD] at h
   obtain ⟨v', a, b⟩ := hr.get h
   have : va[i]? = some v' := by rw [← Array.getElem?_toList]; exact a
   exact ⟨v', by simp [execOp, ho, hg, Instr.extract, this], b⟩
  cases h
 all_goals cases h
theorem X' {α : Type} {f : α → PUnit → Sem (ForInStep PUnit)} {w : World} : ∀ (l : List α), (∀ x, x ∈ l → (f x PUnit.unit).run P w = .ok (ForInStep.yield PUnit.unit) w) →
  (forIn l PUnit.unit f : Sem PUnit).run P w = .ok PUnit.unit w
 | [], _ => by simp
 | x :: l, h => by
  simp only [List.forIn_cons, Sem.run_bind, h x (by simp), Result.andThen_ok]
  exact X' l fun y hy => h y (by simp [hy])
theorem TK {ρ : AF} (empty : Bool) : ∀ (n N : Nat) (t : TypeId) (v v' : Value) (w : World), n ≤ N → G9 P n t v = true → VR ρ v v' → (Instr.checkKey empty N t v').run P w = .ok () w
 | 0, _, _, _, _, _, _, h, _ => by simp [G9] at h
 | n + 1, N, t, v, v', w, hN, h, hv => by
  obtain ⟨N, rfl⟩ : ∃ k, N = k + 1 := ⟨N - 1, by omega⟩
  unfold G9 at h
  split at h
  ·cases h
  ·rename_i len elem hu
   split at h
   ·rename_i cs z hz
    obtain ⟨ca, rfl, hc⟩ := hv.Lg
    unfold Instr.checkKey
    simp only [Sem.run_bind, Aj w hu, Result.andThen_ok]
    rw [show (forIn [0:len] PUnit.unit _ : Sem PUnit) = _ from Std.Legacy.Range.forIn_eq_forIn_range' ..]
    rw [X']
    ·rfl
    intro i hi
    have Dn : i < len := by simp [Std.Legacy.Range.size] at hi; omega
    have hx := List.all_eq_true.1 h i (by simp [Dn])
    split at hx
    ·rename_i x Jb
     obtain ⟨x', a, b⟩ := Nm Jb hc w
     simp [Ek w hz, a, TK empty n N elem x x' w (by omega) hx b]
    cases hx
   cases h
  ·rename_i fields hu
   split at h
   ·rename_i cs
    obtain ⟨ca, rfl, hc⟩ := hv.Lg
    unfold Instr.checkKey
    simp only [Sem.run_bind, Aj w hu, Result.andThen_ok]
    rw [← Array.forIn_toList]
    rw [X']
    ·rfl
    intro f hf
    have hx := List.all_eq_true.1 h f hf
    by_cases hn : f.name = "_"
    ·simp [hn]
    simp only [hn, decide_false, Bool.false_or] at hx
    split at hx
    ·rename_i x Jb
     obtain ⟨x', a, b⟩ := Nm Jb hc w
     simp [hn, a, TK empty n N f.type x x' w (by omega) hx b]
    cases hx
   cases h
  ·rename_i d h1 h2 h3 hu
   unfold Instr.checkKey
   simp only [Sem.run_bind, Aj w hu, Result.andThen_ok]
   cases d <;> first
    | exact absurd rfl (h1 _)
    | exact absurd rfl (h2 _ _)
    | exact absurd rfl (h3 _)
    | rfl
  cases h
def XC (ρ : AF) : Option (Nat × Value) → Option (Nat × Value) → Prop
 | none, none => True
 | some (i, v), some (j, v') => i = j ∧ VR ρ v v'
 | _, _ => False
theorem ACG {ρ : AF} {t : TypeId} {d : TypeDesc} (hu : P.underlying t = some d) {k k' e e' : Value} (hk : VR ρ k k') (he : VR ρ e e') {b r : Bool} (h : Instr.sameNow d k' e' = some b) (h2 : Ci P EF t k e = some r) : b = r := by
 unfold Instr.sameNow at h
 unfold EF Ci at h2
 rw [hu] at h2
 split at h
 ·rename_i kk k1 a k2 b'
  have h1 := hk.Vn
  have h3 := he.Vn
  subst h1; subst h3
  simp only at h2
  split at h
  ·rename_i Bl
   subst Bl
   simp at h h2
   rw [← h, ← h2]
  cases h
 ·rename_i a b'
  have h1 := hk.Ww
  have h3 := he.Ww
  subst h1; subst h3
  simp only [Option.some.injEq] at h h2
  rw [← h, ← h2, Tq, beq_toListBytes, ByteArray.toList_eq, ByteArray.toList_eq]
 ·rename_i a b'
  have h1 : k = .bool a := by cases hk; rfl
  have h3 : e = .bool b' := by cases he; rfl
  subst h1; subst h3
  simp only [Option.some.injEq] at h h2
  rw [← h, ← h2]
 cases h
theorem gl {ρ : AF} {t : TypeId} {d : TypeDesc} (hu : P.underlying t = some d) {k k' : Value} (hk : VR ρ k k') : ∀ (es Ax : List MapEntry) (i : Nat) (r : Option (Nat × Value)) (q : Option (Nat × Value)), Hq ρ es Ax →
  Ij P t k es i = some r → Instr.findNow d k' Ax i = some q → XC ρ r q
 | [], [], i, r, q, _, h, h' => by simp [Ij, Instr.findNow] at h h'; subst h; subst h'; trivial
 | [], _ :: _, _, _, _, he, _, _ => by simp [Hq] at he
 | _ :: _, [], _, _, _, he, _, _ => by simp [Hq] at he
 | e :: es, e' :: Ax, i, r, q, he, h, h' => by
  have h0 := he.2 0 e e' rfl rfl
  have hr : Hq ρ es Ax := ⟨by simpa using he.1, fun j a b x y => he.2 (j + 1) a b (by simpa using x) (by simpa using y)⟩
  unfold Ij at h
  unfold Instr.findNow at h'
  cases hq : Ci P EF t k e.key with
  | none => rw [hq] at h; cases h
  | some b =>
   rw [hq] at h
   cases hs : Instr.sameNow d k' e'.key with
   | none => rw [hs] at h'; cases h'
   | some c =>
    rw [hs] at h'
    have := ACG hu hk h0.1 hs hq
    subst this
    cases c with
    | true => simp only [Option.some.injEq] at h h'; subst h; subst h'; exact ⟨rfl, h0.2.1⟩
    | false => exact gl hu hk es Ax (i + 1) r q hr h h'
theorem gk {ρ : AF} {t : TypeId} {k k' : Value} (hk : VR ρ k k') (w : World) : ∀ (es Ax : List MapEntry) (i : Nat) (r : Option (Nat × Value)), Hq ρ es Ax → Ij P t k es i = some r →
  ∃ q, (Instr.findAsking t k' Ax i).run P w = .ok q w ∧ XC ρ r q
 | [], [], i, r, _, h => by simp [Ij] at h; subst h; exact ⟨none, by simp [Instr.findAsking], trivial⟩
 | [], _ :: _, _, _, he, _ => by simp [Hq] at he
 | _ :: _, [], _, _, he, _ => by simp [Hq] at he
 | e :: es, e' :: Ax, i, r, he, h => by
  have h0 := he.2 0 e e' rfl rfl
  have hr : Hq ρ es Ax := ⟨by simpa using he.1, fun j a b x y => he.2 (j + 1) a b (by simpa using x) (by simpa using y)⟩
  unfold Ij at h
  cases hq : Ci P EF t k e.key with
  | none => rw [hq] at h; cases h
  | some b =>
   rw [hq] at h
   have := Ux EF 10000 t k e.key b k' e'.key w (by decide) hq hk h0.1
   cases b with
   | true =>
    simp only [Option.some.injEq] at h; subst h
    exact ⟨some (i, e'.val), by simp [Instr.findAsking, Op.equal, Op.maxDepth, this], rfl, h0.2.1⟩
   | false =>
    obtain ⟨q, a, b⟩ := gk hk w es Ax (i + 1) r hr h
    exact ⟨q, by simp [Instr.findAsking, Op.equal, Op.maxDepth, this, a], b⟩
theorem Pr {ρ : AF} {t : TypeId} {k k' : Value} (hk : VR ρ k k') (w : World) {es Ax : List MapEntry} {r : Option (Nat × Value)} (he : Hq ρ es Ax) (h : Ij P t k es 0 = some r) {d : TypeDesc} (hu : P.underlying t = some d) :
  ∃ q, (Instr.findKey t k' Ax).run P w = .ok q w ∧ XC ρ r q := by
 unfold Instr.findKey
 simp only [Sem.run_bind, Aj w hu, Result.andThen_ok]
 cases hn : Instr.findNow d k' Ax 0 with
 | some q => exact ⟨q, rfl, gl hu hk es Ax 0 r q he h hn⟩
 | none => exact gk hk w es Ax 0 r he h
theorem Zu {n : Nat} {t : TypeId} {v : Value} (h : G9 P n t v = true) : ∃ d, P.underlying t = some d := by
 cases n with
 | zero => simp [G9] at h
 | succ n =>
  unfold G9 at h
  cases hu : P.underlying t with
  | none => rw [hu] at h; cases h
  | some d => exact ⟨d, rfl⟩
theorem zl {ρ : AF} {S : St} {w : World} (hs : AO P w0 ρ S w) {t : TypeId} {x x' ix ID v : Value} {ok : Bool} (h : Ji P t x ix ok S = some v) (hx : VR ρ x x') (hi : VR ρ ix ID) :
  ∃ v', (Instr.lookup t x' ID ok).run P w = .ok v' w ∧ VR ρ v v' := by
 unfold Ji at h
 split at h
 ·rename_i key elem hu
  split at h
  ·rename_i es MB
   split at h
   ·rename_i hk
    obtain ⟨d, hd⟩ := Zu hk
    have wo : ∃ Ax : List MapEntry, Hq ρ es Ax ∧ ∀ (q : Option (Nat × Value)), (Instr.checkKey Ax.toArray.isEmpty 10000 key ID).run P w = .ok () w → (Instr.findKey key ID Ax).run P w = .ok q w →
      (Instr.lookup t x' ID ok).run P w = ((match q with
       | some (_, v) => (pure (v, true) : Sem (Value × Bool))
       | none => do pure (← zeroValue elem, false)).run P w).andThen fun r w' => .ok (if ok then .tuple #[r.1, .bool r.2] else r.1) w' := by
     unfold mapOf at MB
     split at MB
     ·cases MB; cases hx
      refine ⟨[], ⟨rfl, fun i e e' a => by simp at a⟩, fun q h1 h2 => ?_⟩
      have iM : (Instr.checkKey true 10000 key ID).run P w = .ok () w := h1
      cases q with
      | none => cases hz : (zeroValue elem).run P w <;> simp [Instr.lookup, Aj w hu, iM, h2, hz]
      | some y => simp [Instr.lookup, Aj w hu, iM, h2]
     ·rename_i r
      split at MB
      ·rename_i es0 clock hB
       cases MB
       cases hx with
       | map hb =>
        rename_i L
        obtain ⟨Ax, h1, h2⟩ := hs.CR _ _ _ hb hB
        have hg : (getObj L.r).run P w = .ok (.map Ax.toArray clock) w := by simp [getObj, Sem.run, h1]
        refine ⟨Ax, h2, fun q h3 h4 => ?_⟩
        have JR : (Instr.checkKey Ax.isEmpty 10000 key ID).run P w = .ok () w := by simpa using h3
        cases q with
        | none => cases hz : (zeroValue elem).run P w <;> simp [Instr.lookup, Aj w hu, hg, JR, h4, hz]
        | some y => simp [Instr.lookup, Aj w hu, hg, JR, h4]
      cases MB
     cases MB
    obtain ⟨Ax, he, vN⟩ := wo
    have HY := TK (P := P) (ρ := ρ) (Ax.toArray.isEmpty) 20 10000 key ix ID w (by decide) hk hi
    have base := fun q => vN q HY
    split at h
    ·rename_i i v0 hf
     cases h
     obtain ⟨q, a, b⟩ := Pr hi w he hf hd
     cases q with
     | none => exact b.elim
     | some y =>
      obtain ⟨j, v'⟩ := y
      refine ⟨if ok then .tuple #[v', .bool true] else v', by rw [base _ a]; simp, ?_⟩
      cases ok
      ·exact b.2
      exact VR.tuple' (AI.cons b.2 (AI.cons (.bool true) .nil))
    ·rename_i hf
     split at h
     ·rename_i z hz
      cases h
      obtain ⟨q, a, b⟩ := Pr hi w he hf hd
      cases q with
      | some y => exact b.elim
      | none =>
       obtain ⟨_, _, _, LC⟩ := N4 hz
       refine ⟨if ok then .tuple #[z, .bool false] else z, by rw [base _ a]; simp [Jo w hz], ?_⟩
       cases ok
       ·exact LC.refl ρ
       exact VR.tuple' (AI.cons (LC.refl ρ) (AI.cons (.bool false) .nil))
     cases h
    cases h
   cases h
  cases h
 cases h
theorem ko {ρ : AF} {S : St} {w : World} (hs : AO P w0 ρ S w) {t ty : TypeId} {ts : Array TypeId} {x x' v : Value} (h : G' P t x S = some v) (hx : VR ρ x x') (ht : ts[0]? = some t) :
  (Builtin.len_ ts ty #[x']).run P w = .ok v w ∧ Flat v := by
 unfold G' at h
 split at h
 ·rename_i s hu; cases h; cases hx; exact ⟨by simp [Builtin.len_, ht, Aj w hu, goInt], .int _ _⟩
 ·rename_i n e hu
  cases h
  exact ⟨by cases x' <;> simp [Builtin.len_, ht, Aj w hu, goInt], .int _ _⟩
 ·rename_i arr hu
  split at h
  ·rename_i n e H'
   cases h
   exact ⟨by cases x' <;> simp [Builtin.len_, ht, Aj w hu, Aj w H', goInt], .int _ _⟩
  cases h
 ·rename_i e a n c hu
  cases h
  cases hx <;> exact ⟨by simp [Builtin.len_, ht, Aj w hu, goInt], .int _ _⟩
 ·rename_i k e hu; cases h; cases hx; exact ⟨by simp [Builtin.len_, ht, Aj w hu, goInt], .int _ _⟩
 ·rename_i k e r hu
  split at h
  ·rename_i es clock hB
   cases h
   cases hx with
   | map hb =>
    obtain ⟨Ax, h1, h2⟩ := hs.CR _ _ _ hb hB
    exact ⟨by simp [Builtin.len_, ht, Aj w hu, goInt, getObj, Sem.run, h1, h2.1], .int _ _⟩
  cases h
 cases h
theorem iK {need cap bytes : Nat} (h1 : cap < need) (h2 : need ≤ AQ) (h3 : bytes ≤ 1024) : ¬ (281474976710656 < Builtin.nextslicecap need cap * bytes) := by
 have h4 := nextslicecap_le h1
 have : Builtin.nextslicecap need cap * bytes ≤ (2 * AQ) * 1024 := Nat.mul_le_mul (by omega) h3
 unfold AQ at this
 omega
set_option maxHeartbeats 8000000 in
theorem ABf {ts : Array TypeId} {sT xT ty elem : TypeId} {xd : TypeDesc} {size len n cap : Nat} {x : Value} {new : List Value} {w : World} (h0 : ts[0]? = some sT) (h1 : ts[1]? = some xT) (hu : P.underlying sT = some (.slice elem))
  (hx : P.underlying xT = some xd) (Gn : F3 xd = false) (Ay : A0 P elem = some size) (hlen : (Builtin.lenOf x).run P w = .ok n w) (Bq : (Builtin.firstCells size n x).run P w = .ok new.toArray w) (G4 : len + n ≤ cap) :
  (Builtin.append_ ts ty #[.slice none len cap, x]).run P w = .ok (.slice none (len + n) cap) w := by
 cases xd <;> first
  | (simp [F3] at Gn; done)
  | simp [Builtin.append_, h0, h1, Aj w hu, Aj w hx, Ek w Ay, hlen, Bq, G4]
set_option maxHeartbeats 8000000 in
theorem Te {ts : Array TypeId} {sT xT ty elem : TypeId} {xd : TypeDesc} {size len n cap : Nat} {a : Addr} {x : Value} {new : List Value} {w w' : World} (h0 : ts[0]? = some sT) (h1 : ts[1]? = some xT) (hu : P.underlying sT = some (.slice elem))
  (hx : P.underlying xT = some xd) (Gn : F3 xd = false) (Ay : A0 P elem = some size) (hlen : (Builtin.lenOf x).run P w = .ok n w) (Bq : (Builtin.firstCells size n x).run P w = .ok new.toArray w) (G4 : len + n ≤ cap)
  (Ag : (storeCells (a.add (len * size)) new).run P w = .ok () w') : (Builtin.append_ ts ty #[.slice (some a) len cap, x]).run P w = .ok (.slice (some a) (len + n) cap) w' := by
 cases xd <;> first
  | (simp [F3] at Gn; done)
  | simp [Builtin.append_, h0, h1, Aj w hu, Aj w hx, Ek w Ay, hlen, Bq, G4, Ag]
set_option maxHeartbeats 8000000 in
theorem bM {ts : Array TypeId} {sT xT ty elem : TypeId} {xd : TypeDesc} {size len n cap : Nat} {base : Option Addr} {x : Value} {old new : List Value} {w : World} (h0 : ts[0]? = some sT) (h1 : ts[1]? = some xT) (hu : P.underlying sT = some (.slice elem))
  (hx : P.underlying xT = some xd) (Gn : F3 xd = false) (Ay : A0 P elem = some size) (hlen : (Builtin.lenOf x).run P w = .ok n w) (hold : (Builtin.firstCells size len (.slice base len cap)).run P w.drew = .ok old.toArray w.drew)
  (Bq : (Builtin.firstCells size n x).run P w.drew = .ok new.toArray w.drew) (G4 : ¬ (len + n ≤ cap)) {i : TypeInfo} {z : Value} (hi : P.info? elem = some i) (hz : zeroV P elem = some z) (hb : i.bytes ≤ 1024) (G3 : 0 < i.bytes) (hm : len + n ≤ AQ) :
  ∃ BD, len + n ≤ BD ∧ (Builtin.append_ ts ty #[.slice base len cap, x]).run P w = .ok (.slice (some ⟨w.heap.size, 0, none⟩) (len + n) BD) (w.drew.alloc (.cells (old.toArray ++ new.toArray ++ Builtin.zeroCells z.cells (BD - (len + n))) elem)) := by
 have g1 := iK (bytes := i.bytes) (show cap < len + n by omega) hm hb
 have g2 : ¬ (9223372036854775807 < ((len : Int) + (n : Int))) := by unfold AQ at hm; omega
 have g3 : i.bytes ≠ 0 := by omega
 refine ⟨(Question.appendCap (len + n) cap elem).cut (w.tape w.drawn (.appendCap (len + n) cap elem)), by simp [Question.cut], ?_⟩
 have Oy := Jo w.drew hz
 cases xd <;> first
  | (simp [F3] at Gn; done)
  | (simp [Builtin.append_, h0, h1, Aj w hu, Aj w hx, Ek w Ay, hlen, Bq, hold, G4, LY w hi, LY w.drew hi, g1, g2, Question.forced, Oy, newRow]; congr 2; apply Array.ext'; simp [List.append_assoc])
theorem TR {ρ : AF} {S : St} {w : World} (hs : AO P w0 ρ S w) {c : List Value} {arr : Array Value} (hc : ∀ (i : Nat) v, c[i]? = some v → ∃ v', arr[i]? = some v' ∧ VR ρ v v') {e e' : TypeId} (he : e ≠ 0 → e' = e) {z : Nat} (hz : A0 P e = some z)
  {n k k' : Nat} (hn : n ≤ k) (hk : k ≤ k') (hr : z ≠ 0 → k' * z ≤ arr.size) :
  ∃ ρ', Ext ρ ρ' ∧ AO P w0 ρ' (LQ S c e n k).2 (w.alloc (.cells arr e')) ∧ VR ρ' (LQ S c e n k).1 (.slice (some ⟨w.heap.size, 0, none⟩) n k') := by
 obtain ⟨h1, h2⟩ := aJ (P := P) (e := e) (e' := e') (row := true) (kin := []) (z := z) (arr := arr) hs hc (fun _ => hz) (by simp) he
 refine ⟨_, h1, h2, ?_⟩
 exact VR.slice (L := ⟨w.heap.size, 0, arr.size, z⟩) (JB _ _ _) hn hk (fun AR => by simpa using hr AR) (.inl rfl)
theorem nE {z : List Value} : ∀ (n : Nat) (i : Nat), i < n * z.length → (Dp n z)[i]? = z[i % z.length]?
 | 0, i, h => by simp at h
 | n + 1, i, h => by
  have h2 : i < n * z.length + z.length := by rw [Nat.succ_mul] at h; exact h
  unfold Dp
  by_cases hi : i < z.length
  ·rw [List.getElem?_append_left hi, Nat.mod_eq_of_lt hi]
  rw [List.getElem?_append_right (by omega), nE n _ (by omega)]
  congr 1
  exact (Nat.mod_eq_sub_mod (by omega)).symm
theorem Tj {z : List Value} : ∀ (n : Nat), (Dp n z).length = n * z.length
 | 0 => by simp [Dp]
 | n + 1 => by simp [Dp, Tj n, Nat.add_mul]; omega
theorem AFa {z : Array Value} {n i : Nat} (h : i < n) (hz : 0 < z.size) : ((Array.range n).map (fun i => z[i % z.size]!))[i]? = z[i % z.size]? := by
 have hm : i % z.size < z.size := Nat.mod_lt _ hz
 simp [h, getElem!_pos z (i % z.size) hm, Array.getElem?_eq_getElem hm]
theorem UI {ρ : AF} {t : TypeId} {z : Value} (hz : zeroV P t = some z) (n m : Nat) (hm : m = n * z.cells.size) : AI ρ (Dp n (AP z)) (((Array.range m).map (fun i => z.cells[i % z.cells.size]!)).toList) := by
 obtain ⟨_, _, _, hf⟩ := N4 hz
 have hv := (hf.refl ρ).cells
 have hlen : (AP z).length = z.cells.size := by rw [Ig]; simp
 refine ⟨by rw [Tj, hlen]; simp [hm], fun i v v' h h' => ?_⟩
 have hi : i < n * (AP z).length := by
  have := (List.getElem?_eq_some_iff.1 h).1
  rwa [Tj] at this
 have Oi : 0 < z.cells.size := by
  rcases Nat.eq_zero_or_pos z.cells.size with e | e
  ·rw [hlen, e] at hi; simp at hi
  exact e
 rw [nE n i hi] at h
 rw [Array.getElem?_toList, AFa (by rw [hm, ← hlen]; exact hi) Oi, ← Array.getElem?_toList, ← Ig, ← hlen] at h'
 exact hv.2 _ _ _ h h'
def F6 (P : Program) (w0 : Bn) (ρ : AF) (v : Value) (S' : St) (r : Result Value) : Prop :=
 ∃ ρ' v' w', r = .ok v' w' ∧ Ext ρ ρ' ∧ VR ρ' v v' ∧ AO P w0 ρ' S' w'
theorem qE {ρ : AF} {S : St} {w : World} (hs : AO P w0 ρ S w) {e : TypeId} {z : List Value} (h : zeroOf P e = some z) : F6 P w0 ρ (Nj S z e false).1 (Nj S z e false).2 ((Instr.alloc e true (.tuple #[])).run P w) := by
 obtain ⟨zv, hz, rfl, hf⟩ := di h
 obtain ⟨ρ', w', a, b, c, d⟩ := lq hs (hf.refl ρ) e
 exact ⟨ρ', _, w', by simp [Instr.alloc, Jo w hz, a], b, d, c⟩
theorem sA {ρ : AF} {S : St} {w : World} (hs : AO P w0 ρ S w) {e : TypeId} {v v' : Value} (hv : VR ρ v v') : F6 P w0 ρ (Nj S (AP v) e false).1 (Nj S (AP v) e false).2 ((Instr.box e v').run P w) := by
 obtain ⟨ρ', w', a, b, c, d⟩ := lq hs hv e
 exact ⟨ρ', _, w', by simp [Instr.box, a], b, d, c⟩
theorem lk {ρ : AF} {S : St} {w : World} (hs : AO P w0 ρ S w) :
  ∃ ρ', Ext ρ ρ' ∧ VR ρ' (.map (some S.size)) (.map (some w.heap.size)) ∧ AO P w0 ρ' ⟨S.heap.set S.size (some (.map [] 0)), S.size + 1⟩ (w.alloc (.map #[] 0)) := by
 obtain ⟨a, b⟩ := hs.add (B := .map [] 0) (o := .map #[] 0) (L := ⟨w.heap.size, 0, 0, 0⟩) rfl ⟨[], rfl, rfl, fun i e e' h => by simp at h⟩
 exact ⟨_, a, VR.map (L := ⟨w.heap.size, 0, 0, 0⟩) (JB _ _ _), b⟩
theorem X7 {place : Nat → Option (Nat × Nat)} : ∀ (parts : List (Nat × Value)) (c c1 : List Value), JP place c parts = some c1 → c1.length = c.length
 | [], c, c1, h => by simp [JP] at h; rw [h]
 | (i, v) :: r, c, c1, h => by
  unfold JP at h
  split at h
  ·cases h
  rename_i off size Cr
  cases hg : (Nat.beq (AP v).length size && Nat.ble (off + size) c.length) with
  | false => rw [hg] at h; cases h
  | true =>
   rw [hg] at h
   simp only [cond_true] at h
   split at h
   ·rename_i c2 NH
    rw [X7 r c2 c1 h, (Tw _ _ _ _ NH).1]
   cases h
theorem sI {ρ : AF} {S S' : St} {w : World} (hs : AO P w0 ρ S w) {t : TypeId} {len : Nat} {parts : Array (Nat × Operand)} {f g : Operand → Value} {v : Value} (h : C1 P f (.buildSlice t len parts) S = some (v, S'))
  (hp : JH ρ (Kc f parts.toList) (parts.map fun (i, x) => (i, g x)).toList) : F6 P w0 ρ v S' ((Instr.buildSlice t len (parts.map fun (i, x) => (i, g x))).run P w) := by
 simp only [C1] at h
 split at h
 ·rename_i elem hu
  split at h
  ·rename_i ei EK
   split at h
   ·rename_i z hz
    split at h
    ·rename_i hle
     split at h
     ·rename_i c hc
      cases h
      have Ay : A0 P elem = some ei.size := by simp [A0, EK]
      have QT : z.cells.size = ei.size := by have := hle.2; rw [Ig] at this; simpa using this
      have KS := UI (ρ := ρ) hz len (len * ei.size) (by rw [QT])
      obtain ⟨c', f1, f2⟩ := Rr (place' := fun i => some (i * ei.size, ei.size)) (fun _ => rfl) _ _ _ _ _ hc KS hp
      have Yl : c.length = len * ei.size := by
       have := X7 _ _ _ hc
       rw [this, Tj, hle.2]
      have Ec : c'.size = len * ei.size := by rw [← Yl, f2.1]; simp
      obtain ⟨ρ', a1, a2, a3⟩ := TR hs (c := c) (arr := c') (fun i x hx => by obtain ⟨x', p1, p2⟩ := f2.get hx; exact ⟨x', by rw [← Array.getElem?_toList]; exact p1, p2⟩) (e := elem) (e' := elem) (fun _ => rfl) Ay
       (n := len) (k := len) (k' := len) (Nat.le_refl _) (Nat.le_refl _) (fun _ => by rw [Ec]; exact Nat.le_refl _)
      refine ⟨ρ', _, _, ?_, a1, a3, a2⟩
      unfold Instr.buildSlice
      simp only [Sem.run_bind, Aj w hu, Result.andThen_ok, Ek w Ay]
      rw [if_neg (by omega)]
      by_cases h0 : len * ei.size = 0
      ·rw [if_pos h0]
       have e1 : Array.map (fun x => (#[] : Array Value)[x % (#[] : Array Value).size]!) (Array.range (len * ei.size)) = Array.map (fun i => z.cells[i % z.cells.size]!) (Array.range (len * ei.size)) := by rw [h0]; simp
       simp only [Sem.run_bind, Sem.run_pure, Result.andThen_ok]
       rw [e1, f1]
       simp [newRow]
      rw [if_neg h0]
      simp only [Sem.run_bind, Jo w hz, Sem.run_pure, Result.andThen_ok]
      rw [f1]
      simp [newRow]
     cases h
    cases h
   cases h
  cases h
 cases h
theorem Wg {ρ : AF} {S : St} {w : World} (hs : AO P w0 ρ S w) {size n : Nat} {x x' : Value} {l : List Value} (h : El S size n x = some l) (hx : VR ρ x x') (hn : ∀ k, Gp x = some k → n ≤ k) :
  ∃ l' : List Value, (Builtin.firstCells size n x').run P w = .ok l'.toArray w ∧ AI ρ l l' := by
 unfold El at h
 split at h
 ·cases hb : Nat.beq n 0 with
  | false => rw [hb] at h; cases h
  | true =>
   rw [hb] at h; cases h; cases hx
   exact ⟨[], by simp [Builtin.firstCells], AI.nil⟩
 ·rename_i b o len cap
  unfold Ns at h
  split at h
  ·rename_i c e row own kin hB
   cases hx with
   | slice hb NV hc hr ho =>
    rename_i o' c' L
    obtain ⟨arr, e', fz, h1, h2, h3, h4, h5, h6⟩ := hs.CR _ _ _ hb hB
    have Sa := hn len rfl
    rcases ho with ho | ho
    ·subst ho
     obtain ⟨l', a1, a2⟩ := Zy (P := P) h1 h3 h
     exact ⟨l', by simp [Builtin.firstCells, a1], a2⟩
    have : n = 0 := by omega
    subst this
    simp [takeN] at h
    subst h
    exact ⟨[], by simp [Builtin.firstCells, loadCells, loadCellsFrom], AI.nil⟩
  cases h
 ·cases hb : Nat.beq n 0 with
  | false => rw [hb] at h; cases h
  | true =>
   rw [hb] at h
   simp only [cond_true, Option.some.injEq] at h
   subst h
   have := BV hb
   subst this
   cases hx
   exact ⟨[], by simp [Builtin.firstCells, loadCells, loadCellsFrom], AI.nil⟩
 ·rename_i s
  cases hx
  cases hz : Nat.beq size 1 with
  | false => rw [hz] at h; cases h
  | true =>
  rw [hz] at h
  simp only [cond_true] at h
  obtain ⟨h1, h2, h3⟩ := IS _ _ _ h
  have Sa := hn _ rfl
  refine ⟨l, ?_, ?_⟩
  ·simp only [Builtin.firstCells, Sem.run_pure]
   congr 1
   rw [h3]
   apply Array.ext'
   simp [ByteArray.data_extract, List.extract]
  rw [h3, ← List.map_take]
  exact AI.map _ _ (fun x => .int _ _) _
 cases h
theorem kn {ρ : AF} {x x' : Value} {n : Nat} (h : Gp x = some n) (hx : VR ρ x x') (w : World) : (Builtin.lenOf x').run P w = .ok n w := by
 unfold Gp at h
 split at h
 ·cases h; cases hx <;> simp [Builtin.lenOf]
 ·cases h; cases hx; simp [Builtin.lenOf]
 cases h
theorem AAk {ρ : AF} {S : St} {w : World} (hs : AO P w0 ρ S w) {b o len size : Nat} {L : Loc} (hb : ρ b = some L) {c : List Value} {e : TypeId} {row own : Bool} {kin : List Nat} (hB : S.get b = some (.cells c e row own kin))
  {old : List Value} (h : takeN (len * size) (BW o c) = some old) (o' n cap : Nat) (ho : o' = o + L.d ∨ len = 0) :
  ∃ l' : List Value, (Builtin.firstCells size len (.slice (some ⟨L.r, o', none⟩) n cap)).run P w = .ok l'.toArray w ∧ AI ρ old l' := by
 obtain ⟨arr, e', fz, h1, h2, h3, h4, h5, h6⟩ := hs.CR _ _ _ hb hB
 rcases ho with ho | ho
 ·subst ho
  obtain ⟨l', a1, a2⟩ := Zy (P := P) h1 h3 h
  exact ⟨l', by simp [Builtin.firstCells, a1], a2⟩
 subst ho
 simp [takeN] at h
 subst h
 exact ⟨[], by simp [Builtin.firstCells, loadCells, loadCellsFrom], AI.nil⟩
theorem uU {ρ : AF} {S : St} {w : World} (hs : AO P w0 ρ S w) {b : Nat} {L : Loc} (hb : ρ b = some L) {c : List Value} {e : TypeId} {kin : List Nat} (hB : S.get b = some (.cells c e true true kin)) :
  AO P w0 ρ (S.set b (.cells c e true false kin)) w := by
 have FY : ∀ j, (S.set b (.cells c e true false kin)).get j = if j = b then some (.cells c e true false kin) else S.get j := fun j => Ev _ _ _ _
 refine ⟨hs.size, hs.old, hs.os, hs.out, hs.DC, fun x M C hx hC => ?_, fun x M C hx hC hm => ?_, hs.J', hs.no⟩
 ·rw [FY] at hC
  by_cases LL : x = b
  ·subst LL
   rw [if_pos rfl] at hC
   cases hC
   obtain ⟨arr, e', fz, h1, h2, h3, h4, h5, h6⟩ := hs.CR _ _ _ hx hB
   exact ⟨arr, e', fz, h1, h2, h3, (by simp), h5, h6.1, fun h => h.elim (fun e => by cases e) (fun e => by cases e)⟩
  rw [if_neg LL] at hC
  exact hs.CR x M C hx hC
 rw [FY] at hC
 by_cases LL : x = b
 ·subst LL
  rw [if_pos rfl] at hC
  cases hC
  simp [AD.Qb] at hm
 rw [if_neg LL] at hC
 refine ⟨(hs.own x M C hx hC hm).1, fun y L' B' hy hr DS AR => ?_⟩
 rw [FY] at DS
 by_cases TB : y = b
 ·subst TB
  rw [if_pos rfl] at DS
  cases DS
  have h := (hs.own x M C hx hC hm).2 y L' _ hy hr hB AR
  exact absurd h.2.1 (by simp [AD.Qb])
 rw [if_neg TB] at DS
 exact (hs.own x M C hx hC hm).2 y L' B' hy hr DS AR
theorem yY {ρ : AF} {S : St} {w w' : World} (hs : AO P w0 ρ S w) {b o : Nat} {L : Loc} (hb : ρ b = some L) {c old new : List Value} {e : TypeId} {kin : List Nat} (hB : S.get b = some (.cells c e true true kin)) (hoe : o + old.length = c.length)
  (hold : ∀ (i : Nat) v, old[i]? = some v → c[o + i]? = some v) {Ft : Array Value} {e' : TypeId} {fz : Nat × Nat} (Be : J2 L.r (.cells Ft e' fz) w w') {arr : Array Value} (h1 : w.heap[L.r]? = some (.cells arr e' fz)) (Ay : Ft.size = arr.size)
  {Jk : List Value} (Bq : AI ρ new Jk) (FY : ∀ j, Ft[j]? = if c.length + L.d ≤ j ∧ j < c.length + L.d + Jk.length then Jk[j - (c.length + L.d)]? else arr[j]?) :
  Ext ρ (BB ρ S.size ⟨L.r, L.d + o, L.Kk, L.z⟩) ∧
   AO P w0 (BB ρ S.size ⟨L.r, L.d + o, L.Kk, L.z⟩) ⟨(S.set b (.cells c e true false kin)).heap.set S.size (some (.cells (old ++ new) e true true (b :: kin))), S.size + 1⟩ w' := by
 have Ir : ρ S.size = none := by
  cases hx : ρ S.size with
  | none => rfl
  | some M => exact absurd (hs.DC _ _ hx).1 (Nat.lt_irrefl _)
 have FX := M1 (⟨L.r, L.d + o, L.Kk, L.z⟩ : Loc) Ir
 have hbS := (hs.DC b L hb).1
 have MF := hs.own b L _ hb hB rfl
 obtain ⟨AFg, e0, fz0, g1, g2, g3, g4, g5, g6⟩ := hs.CR _ _ _ hb hB
 rw [h1] at g1
 cases g1
 have VU : ∀ x C, (⟨(S.set b (.cells c e true false kin)).heap.set S.size (some (.cells (old ++ new) e true true (b :: kin))), S.size + 1⟩ : St).get x = some C →
   (x = S.size ∧ C = .cells (old ++ new) e true true (b :: kin)) ∨ (x ≠ S.size ∧ x = b ∧ C = .cells c e true false kin) ∨ (x ≠ S.size ∧ x ≠ b ∧ S.get x = some C) := by
  intro x C hC
  simp only [St.get, St.set, Cf.HQ] at hC
  by_cases hx : x = S.size
  ·left
   refine ⟨hx, ?_⟩
   rw [if_pos hx] at hC; exact (Option.some.inj hC).symm
  right
  rw [if_neg hx] at hC
  by_cases LL : x = b
  ·left
   rw [if_pos LL] at hC
   exact ⟨hx, LL, (Option.some.inj hC).symm⟩
  right
  rw [if_neg LL] at hC
  exact ⟨hx, LL, hC⟩
 have CI : new.length = Jk.length := Bq.1
 -- what a block that lies in this memory reads as
 have AA : ∀ (i : Nat), i < c.length + L.d → Ft[i]? = arr[i]? := fun i hi => by rw [FY, if_neg (by omega)]
 have Zt : ∀ x M C, ρ x = some M → (C.ext + M.d ≤ c.length + L.d ∨ M.r ≠ L.r) → JG P ρ C w.heap[M.r]? M → (∀ c' e' r' o' k', C = .cells c' e' r' o' k' → M.r = L.r → o' = false) → (M.r = L.r → ∃ c' e' r' o' k', C = .cells c' e' r' o' k') → JG P ρ C w'.heap[M.r]? M := by
  intro x M C hx KM hC Gk QA
  by_cases hr : M.r = L.r
  ·obtain ⟨c', e1, r', o', k', rfl⟩ := QA hr
   have Is := Gk _ _ _ _ _ rfl hr
   subst Is
   obtain ⟨a1, a2, a3, b1, b2, b3, b4, b5, b6⟩ := hC
   rw [hr, h1] at b1
   cases b1
   have hle : c'.length + M.d ≤ c.length + L.d := by
    rcases KM with h | h
    ·exact h
    exact absurd hr h
   refine ⟨Ft, e', fz, by rw [hr]; exact Be.now, by rw [Ay]; exact b2, fun i v hv => ?_, (by simp), b5, b6⟩
   obtain ⟨v', p1, p2⟩ := b3 i v hv
   have hi := (List.getElem?_eq_some_iff.1 hv).1
   exact ⟨v', by rw [AA _ (by omega)]; exact p1, p2⟩
  rw [Be.same _ hr]; exact hC
 refine ⟨FX, ⟨by rw [Be.size]; exact hs.size, fun i hi => ?_, Be.os.trans hs.os, Be.out.trans hs.out, fun x M hx => ?_, fun x M C hx hC => ?_, fun x M C hx hC hm => ?_, fun g hg => let ⟨M, a, b⟩ := hs.J' g hg; ⟨M, FX _ _ a, b⟩, fun x hx => ?_⟩⟩
 ·rw [Be.same i (by have := MF.1; omega)]; exact hs.old i hi
 ·rw [Be.size]
  show x < S.size + 1 ∧ _
  unfold BB at hx
  split at hx
  ·cases hx; exact ⟨by omega, (hs.DC b L hb).2⟩
  have := hs.DC x M hx; omega
 ·rcases VU x C hC with ⟨rfl, rfl⟩ | ⟨AR, rfl, rfl⟩ | ⟨AR, NU, H4⟩
  ·have hM : M = ⟨L.r, L.d + o, L.Kk, L.z⟩ := by rw [JB] at hx; exact (Option.some.inj hx).symm
   subst hM
   refine ⟨Ft, e', fz, Be.now, by rw [Ay]; exact g2, fun i v hv => ?_, g4, g5, (fun h => nomatch h), g6.2⟩
   by_cases hi : i < old.length
   ·rw [List.getElem?_append_left hi] at hv
    obtain ⟨v', p1, p2⟩ := g3 _ _ (hold i v hv)
    refine ⟨v', ?_, p2.mono FX⟩
    show Ft[L.d + o + i]? = some v'
    rw [AA _ (by omega), show L.d + o + i = L.d + (o + i) by omega]
    exact p1
   rw [List.getElem?_append_right (by omega)] at hv
   obtain ⟨v', p1, p2⟩ := Bq.get hv
   have C8 := (List.getElem?_eq_some_iff.1 hv).1
   refine ⟨v', ?_, p2.mono FX⟩
   show Ft[L.d + o + i]? = some v'
   rw [FY, if_pos (by omega), show L.d + o + i - (c.length + L.d) = i - old.length by omega]
   exact p1
  ·have hM : ρ x = some M := by unfold BB at hx; rw [if_neg AR] at hx; exact hx
   rw [hb] at hM; cases hM
   refine (Zt x L (.cells c e true false kin) hb (.inl (by simp [AD.ext])) ⟨arr, e', fz, h1, g2, g3, (by simp), g5, g6.1, fun h => h.elim (fun e => by cases e) (fun e => by cases e)⟩ (fun c' e1 r' o' k' h _ => by cases h; rfl) (fun _ => ⟨c, e, true, false, kin, rfl⟩)).mono FX
  have hM : ρ x = some M := by unfold BB at hx; rw [if_neg AR] at hx; exact hx
  have OV := hs.CR x M C hM H4
  by_cases hr : M.r = L.r
  ·have hk := MF.2 x M C hM hr H4 NU
   have QA : ∃ c' e1 r' o' k', C = .cells c' e1 r' o' k' := by
    cases C with
    | cells c' e1 r' o' k' => exact ⟨_, _, _, _, _, rfl⟩
    | map _ _ => obtain ⟨_, q, _⟩ := OV; rw [hr, h1] at q; cases q
    | iter _ _ => have q : w.heap[M.r]? = _ := OV; rw [hr, h1] at q; cases q
    | loop _ _ _ _ _ _ _ _ => obtain ⟨_, _, _, q, _⟩ := OV; rw [hr, h1] at q; cases q
    | defs _ => have q : w.heap[M.r]? = _ := OV; rw [hr, h1] at q; cases q
    | QZ _ => obtain ⟨_, _, _, _, _, q⟩ := OV; rw [hr, h1] at q; cases q
   refine (Zt x M C hM (.inl hk.2.2) OV (fun c' e1 r' o' k' h _ => ?_) (fun _ => QA)).mono FX
   subst h
   exact hk.2.1
  exact (Zt x M C hM (.inr hr) OV (fun _ _ _ _ _ _ h => absurd h hr) (fun h => absurd h hr)).mono FX
 ·rcases VU x C hC with ⟨rfl, rfl⟩ | ⟨AR, rfl, rfl⟩ | ⟨AR, NU, H4⟩
  ·have hM : M = ⟨L.r, L.d + o, L.Kk, L.z⟩ := by rw [JB] at hx; exact (Option.some.inj hx).symm
   subst hM
   refine ⟨MF.1, fun y L' B' hy hr DS Vk => ?_⟩
   have IB : ρ y = some L' := by unfold BB at hy; rw [if_neg Vk] at hy; exact hy
   rcases VU y B' DS with ⟨e1, _⟩ | ⟨_, rfl, rfl⟩ | ⟨_, TB, YP⟩
   ·exact absurd e1 Vk
   ·rw [hb] at IB; cases IB
    refine ⟨by simp [AD.kin], rfl, ?_⟩
    simp only [AD.ext, List.length_append]
    omega
   have hk := MF.2 y L' B' IB hr YP TB
   refine ⟨by simp only [AD.kin, List.mem_cons]; exact .inr hk.1, hk.2.1, ?_⟩
   have := hk.2.2
   simp only [AD.ext, List.length_append] at this ⊢
   omega
  ·simp [AD.Qb] at hm
  have hM : ρ x = some M := by unfold BB at hx; rw [if_neg AR] at hx; exact hx
  have jr := hs.own x M C hM H4 hm
  have j5 : M.r ≠ L.r := by
   intro hr
   have := (MF.2 x M C hM hr H4 NU).2.1
   rw [hm] at this
   cases this
  refine ⟨jr.1, fun y L' B' hy hr DS Vk => ?_⟩
  rcases VU y B' DS with ⟨rfl, _⟩ | ⟨Zj, rfl, _⟩ | ⟨Zj, TB, YP⟩
  ·rw [JB] at hy; cases hy
   exact absurd hr.symm j5
  ·have IB : ρ y = some L' := by unfold BB at hy; rw [if_neg Zj] at hy; exact hy
   rw [hb] at IB; cases IB
   exact absurd hr.symm j5
  have IB : ρ y = some L' := by unfold BB at hy; rw [if_neg Zj] at hy; exact hy
  exact jr.2 y L' B' IB hr YP Vk
 have := hs.no x hx
 refine ⟨?_, by show x < S.size + 1; omega⟩
 unfold BB
 rw [if_neg (by omega)]
 exact this.1
theorem size_zeroCells (z : Array Value) (n : Nat) : (Builtin.zeroCells z n).size = n * z.size := by simp [Builtin.zeroCells]
theorem cJ {S : St} {size n : Nat} {x : Value} {l : List Value} (h : El S size n x = some l) : l.length = n * size := by
 unfold El at h
 split at h
 ·cases hz : Nat.beq n 0 with
  | false => rw [hz] at h; cases h
  | true => rw [hz] at h; cases h; have := BV hz; subst this; simp
 ·unfold Ns at h
  split at h
  ·exact (IS _ _ _ h).1
  cases h
 ·cases hz : Nat.beq n 0 with
  | false => rw [hz] at h; cases h
  | true => rw [hz] at h; cases h; have := BV hz; subst this; simp
 ·cases hz : Nat.beq size 1 with
  | false => rw [hz] at h; cases h
  | true =>
   rw [hz] at h
   have := BV hz; subst this
   rw [(IS _ _ _ h).1]; simp
 cases h
theorem iJ {elem : TypeId} {size need : Nat} (h : KB P elem size need = true) : ∃ ei z, P.info? elem = some ei ∧ zeroV P elem = some z ∧ ei.bytes ≤ 1024 ∧ 0 < ei.bytes ∧ need ≤ AQ ∧ z.cells.size = size ∧ 0 < size := by
 unfold KB at h
 split at h
 ·rename_i ei z EK hz
  simp only [Bool.and_eq_true] at h
  obtain ⟨⟨⟨⟨a, b⟩, c⟩, d⟩, e⟩ := h
  refine ⟨ei, z, EK, hz, Nat.le_of_ble_eq_true a, HA b, Nat.le_of_ble_eq_true c, ?_, HA e⟩
  have := BV d
  rw [Ig] at this
  simpa using this
 cases h
theorem AEg {α : Type} {n o : Nat} {c l : List α} (h : takeN n (BW o c) = some l) : ∀ (i : Nat) v, l[i]? = some v → c[o + i]? = some v := by
 obtain ⟨h1, h2, h3⟩ := IS _ _ _ h
 intro i v hv
 have hi : i < n := by rw [← h1]; exact (List.getElem?_eq_some_iff.1 hv).1
 rw [h3, List.getElem?_take, if_pos hi, HM, List.getElem?_drop] at hv
 exact hv
theorem tk {ρ : AF} {S S' : St} {w : World} (hs : AO P w0 ρ S w) {b o size : Nat} {L : Loc} (hb : ρ b = some L) {vs CU : List Value} (h : X5 P S b o size vs = some S') (hv : AI ρ vs CU)
  (ZV : L.z = size → size ≠ 0 → o + L.d + vs.length ≤ L.Kk) : ∃ w', (storeCells ⟨L.r, o + L.d, none⟩ CU).run P w = .ok () w' ∧ AO P w0 ρ S' w' := by
 unfold X5 at h
 split at h
 ·rename_i c e kin hB
  split at h
  ·rename_i z hz
   cases hg : (vs.all E' && Nat.blt 0 vs.length && Nat.beq o c.length && Nat.beq z size && Nat.blt 0 z) with
   | false => rw [hg] at h; cases h
   | true =>
    rw [hg] at h
    cases h
    simp only [Bool.and_eq_true] at hg
    obtain ⟨⟨⟨⟨g1, g2⟩, g3⟩, g4⟩, g5⟩ := hg
    have g3 := BV g3
    have g4 := BV g4
    have g5 := HA g5
    subst g4
    obtain ⟨arr, e', fz, h1, h2, h3, h4, h5⟩ := hs.CR b L _ hb hB
    have YZ : L.z = z := by
     have := h5.1 rfl
     rw [hz] at this
     exact (Option.some.inj this).symm
    have ht := ZV YZ (by omega)
    have Si : ∀ v, v ∈ CU → v.oneCell' = true := by
     intro v Zb
     obtain ⟨i, hi⟩ := List.getElem?_of_mem Zb
     have G5 : i < vs.length := by rw [hv.1]; exact (List.getElem?_eq_some_iff.1 hi).1
     have Za := List.getElem?_eq_getElem G5
     have hr := hv.2 i _ _ Za hi
     rw [hr.aa, ← Xh]
     exact List.all_eq_true.1 g1 _ (List.getElem_mem G5)
    obtain ⟨Ft, w', a1, a2, a3, a4⟩ := WR (P := P) CU w arr (o + L.d) 0 h1 (by rw [← hv.1]; omega) (fun j hj => h4 rfl j (by omega)) Si
    refine ⟨w', a1, ?_⟩
    refine hs.put (B := .cells c e true true kin) (B' := .cells (c ++ vs) e true true []) hb hB rfl a2 ⟨Ft, e', fz, rfl, by omega, fun i v JY => ?_, h4, h5.1, (fun hr => nomatch hr), h5.2.2⟩
    rw [a4]
    by_cases FE : i < c.length
    ·rw [List.getElem?_append_left FE] at JY
     rw [if_neg (by omega)]
     exact h3 i v JY
    rw [List.getElem?_append_right (by omega)] at JY
    obtain ⟨v', x1, x2⟩ := hv.get JY
    have hi := (List.getElem?_eq_some_iff.1 x1).1
    rw [if_pos (by omega)]
    exact ⟨v', by rw [show L.d + i - (o + L.d + 0) = i - c.length by omega]; exact x1, x2⟩
  cases h
 cases h
theorem qP {ρ : AF} {S S' : St} {w : World} (hs : AO P w0 ρ S w) {ts : Array TypeId} {ty : TypeId} {s s' x x' v : Value} (h : E9 P ts.toList s x S = some (v, S')) (Ix : VR ρ s s') (hx : VR ρ x x') :
  F6 P w0 ρ v S' ((Builtin.append_ ts ty #[s', x']).run P w) := by
 unfold E9 at h
 split at h
 case h_2 => cases h
 rename_i sT xT rest Bv
 have h0 : ts[0]? = some sT := by rw [← Array.getElem?_toList, Bv]; rfl
 have h1 : ts[1]? = some xT := by rw [← Array.getElem?_toList, Bv]; rfl
 split at h
 case h_2 => cases h
 rename_i elem base len cap n xd hu hlen Jc
 cases Gn : F3 xd with
 | true => rw [Gn] at h; cases h
 | false =>
  rw [Gn] at h
  simp only [cond_false] at h
  split at h
  case h_2 => cases h
  rename_i size Ay
  split at h
  case h_2 => cases h
  rename_i new Bq
  have hl := kn (P := P) hlen hx w
  obtain ⟨Jk, H6, FH⟩ := Wg hs Bq hx (fun k hk => by rw [hlen] at hk; cases hk; exact Nat.le_refl _)
  obtain ⟨aI, Sc, QJ⟩ := Wg hs.drew Bq hx (fun k hk => by rw [hlen] at hk; cases hk; exact Nat.le_refl _)
  unfold F9 at h
  cases G4 : Nat.ble (len + n) cap with
  | true =>
   rw [G4] at h
   simp only [cond_true] at h
   have hle := Nat.le_of_ble_eq_true G4
   unfold OD at h
   split at h
   ·cases h
    cases Ix
    exact ⟨ρ, _, w, ABf h0 h1 hu Jc Gn Ay hl H6 hle, Ext.refl _, (by obtain rfl : n = 0 := (by omega); exact .IP), hs⟩
   ·rename_i b o
    cases Ix with
    | slice hb NV hc hr ho =>
     rename_i o' c' L
     cases hz : Nat.beq new.length 0 with
     | true =>
      rw [hz] at h
      simp only [cond_true, Option.some.injEq, Prod.mk.injEq] at h
      obtain ⟨rfl, rfl⟩ := h
      have Sd : Jk = [] := by
       have := FH.1
       rw [BV hz] at this
       exact List.eq_nil_of_length_eq_zero this.symm
      subst Sd
      exact ⟨ρ, _, w, Te h0 h1 hu Jc Gn Ay hl H6 (by omega) (by simp [storeCells]), Ext.refl _, .slice hb (by omega) hc hr ho, hs⟩
     | false =>
      rw [hz] at h
      simp only [cond_false] at h
      split at h
      ·rename_i S1 hw
       cases h
       have Is : o' = o + L.d := by
        rcases ho with ho | ho
        ·exact ho
        exfalso
        have h2 : n = 0 := by omega
        subst h2
        have : new.length = 0 := by rw [cJ Bq]; simp
        rw [this] at hz
        cases hz
       subst Is
       obtain ⟨w', a1, a2⟩ := W4 hs hb hw FH
       have RN : (storeCells (Addr.add ⟨L.r, o + L.d, none⟩ (len * size)) Jk).run P w = .ok () w' := by
        rw [Addr.add_lit, show o + L.d + len * size = o + len * size + L.d by omega]; exact a1
       exact ⟨ρ, _, w', Te h0 h1 hu Jc Gn Ay hl H6 (by omega) RN, Ext.refl _, .slice hb (by omega) hc hr (.inl rfl), a2⟩
      split at h
      ·rename_i S1 hw
       cases h
       have CI := cJ Bq
       have Is : o' = o + L.d := by
        rcases ho with ho | ho
        ·exact ho
        exfalso
        have h2 : n = 0 := by omega
        subst h2
        have : new.length = 0 := by rw [CI]; simp
        rw [this] at hz
        cases hz
       subst Is
       obtain ⟨w', a1, a2⟩ := tk hs hb hw FH (fun QT Zm => by
        have h3 := hr (by rw [QT]; exact Zm)
        rw [QT] at h3
        rw [CI]
        have h4 : (len + n) * size ≤ c' * size := Nat.mul_le_mul_right _ (by omega)
        rw [Nat.add_mul] at h4
        omega)
       have RN : (storeCells (Addr.add ⟨L.r, o + L.d, none⟩ (len * size)) Jk).run P w = .ok () w' := by
        rw [Addr.add_lit, show o + L.d + len * size = o + len * size + L.d by omega]; exact a1
       exact ⟨ρ, _, w', Te h0 h1 hu Jc Gn Ay hl H6 (by omega) RN, Ext.refl _, .slice hb (by omega) hc hr (.inl rfl), a2⟩
      cases h
   rename_i b o k
   cases hz : (Nat.beq new.length 0 && (Nat.beq (len + n) 0 && Nat.beq cap 0)) with
   | false => rw [hz] at h; cases h
   | true =>
    rw [hz] at h
    simp only [cond_true, Option.some.injEq, Prod.mk.injEq] at h
    obtain ⟨rfl, rfl⟩ := h
    simp only [Bool.and_eq_true] at hz
    have Sd : Jk = [] := by
     have := FH.1
     rw [BV hz.1] at this
     exact List.eq_nil_of_length_eq_zero this.symm
    subst Sd
    have QI := BV hz.2.1
    obtain rfl : n = 0 := by omega
    cases Ix
    exact ⟨ρ, _, w, Te h0 h1 hu Jc Gn Ay hl H6 (by omega) (by simp [storeCells]), Ext.refl _, .Ki _ _ _ _, hs⟩
  | false =>
   rw [G4] at h
   simp only [cond_false] at h
   have NN : ¬ (len + n ≤ cap) := fun e => by rw [Nat.ble_eq_true_of_le e] at G4; cases G4
   cases hg : (KB P elem size (len + n) && F9.OG new) with
   | false => rw [hg] at h; cases h
   | true =>
    rw [hg] at h
    simp only [cond_true] at h
    rw [Bool.and_eq_true] at hg
    obtain ⟨ei, z, EK, hz, EJ, CB, G7, TD, Oq⟩ := iJ hg.1
    have CI := cJ Bq
    have Si : ∀ v, v ∈ Jk → v.oneCell' = true := by
     intro v hv
     obtain ⟨i, hi⟩ := List.getElem?_of_mem hv
     have G5 : i < new.length := by rw [FH.1]; exact (List.getElem?_eq_some_iff.1 hi).1
     rw [(FH.2 i _ _ (List.getElem?_eq_getElem G5) hi).aa, ← Xh]
     exact List.all_eq_true.1 hg.2 _ (List.getElem_mem G5)
    unfold OE at h
    split at h
    ·-- nil
     cases F2 : Nat.beq len 0 with
     | false => rw [F2] at h; cases h
     | true =>
      rw [F2] at h
      simp only [cond_true, Option.some.injEq] at h
      cases Ix
      obtain ⟨BD, FV, DH⟩ := bM (P := P) (ty := ty) (base := none) (old := []) (len := 0) (cap := 0) h0 h1 hu Jc Gn Ay hl (by simp [Builtin.firstCells]) Sc NN EK hz EJ CB G7
      have AY := TR hs.drew (c := new) (arr := (#[] ++ aI.toArray ++ Builtin.zeroCells z.cells (BD - (0 + n)))) (e := elem) (e' := elem) (z := size) (fun i y hy => by
       obtain ⟨y', p1, p2⟩ := QJ.get hy
       refine ⟨y', ?_, p2⟩
       have hi := (List.getElem?_eq_some_iff.1 p1).1
       rw [Array.getElem?_append_left (by simpa using hi)]
       simpa using p1) (fun _ => rfl) Ay (n := n) (k := n) (k' := BD) (Nat.le_refl _) (by omega) (fun _ => by
        simp only [Array.size_append, size_zeroCells, TD, List.size_toArray, ← QJ.1, CI]
        have : BD * size = n * size + (BD - n) * size := by rw [← Nat.add_mul]; congr 1; omega
        simp; omega)
      obtain ⟨ρ', b1, b2, b3⟩ := AY
      cases h
      exact ⟨ρ', _, _, DH, b1, (by rw [Nat.zero_add]; exact b3), b2⟩
    ·-- without room
     cases F2 : Nat.beq len 0 with
     | false => rw [F2] at h; cases h
     | true =>
      rw [F2] at h
      simp only [cond_true, Option.some.injEq] at h
      cases Ix
      rename_i a
      obtain ⟨BD, FV, DH⟩ := bM (P := P) (ty := ty) (base := some a) (old := []) (len := 0) (cap := 0) h0 h1 hu Jc Gn Ay hl (by simp [Builtin.firstCells, loadCells, loadCellsFrom]) Sc NN EK hz EJ CB G7
      have AY := TR hs.drew (c := new) (arr := (#[] ++ aI.toArray ++ Builtin.zeroCells z.cells (BD - (0 + n)))) (e := elem) (e' := elem) (z := size) (fun i y hy => by
       obtain ⟨y', p1, p2⟩ := QJ.get hy
       refine ⟨y', ?_, p2⟩
       have hi := (List.getElem?_eq_some_iff.1 p1).1
       rw [Array.getElem?_append_left (by simpa using hi)]
       simpa using p1) (fun _ => rfl) Ay (n := n) (k := n) (k' := BD) (Nat.le_refl _) (by omega) (fun _ => by
        simp only [Array.size_append, size_zeroCells, TD, List.size_toArray, ← QJ.1, CI]
        have : BD * size = n * size + (BD - n) * size := by rw [← Nat.add_mul]; congr 1; omega
        simp; omega)
      obtain ⟨ρ', b1, b2, b3⟩ := AY
      cases h
      exact ⟨ρ', _, _, DH, b1, (by rw [Nat.zero_add]; exact b3), b2⟩
    rename_i b o
    split at h
    case h_2 => cases h
    rename_i c e kin hB
    split at h
    case h_2 => cases h
    rename_i old hold
    cases HW : (Nat.beq e elem && Nat.beq (o + len * size) c.length) with
    | false => rw [HW] at h; cases h
    | true =>
     rw [HW] at h
     simp only [cond_true] at h
     rw [Bool.and_eq_true] at HW
     have he := BV HW.1
     subst he
     have QD := BV HW.2
     cases Ix with
     | slice hb NV vX hr ho =>
      rename_i o' c' L
      have xE := (IS _ _ _ hold).1
      have YZ : L.z = size := by
       obtain ⟨_, _, _, _, _, _, _, g5, _⟩ := hs.CR _ _ _ hb hB
       have := g5 rfl
       rw [Ay] at this
       exact (Option.some.inj this).symm
      cases h
      by_cases hf : len + n ≤ c'
      ·have Is : o' = o + L.d := by
        rcases ho with ho | ho
        ·exact ho
        omega
       subst Is
       obtain ⟨arr, e', fz, g1, g2, g3, g4, g5, g6⟩ := hs.CR _ _ _ hb hB
       have Vc : o + L.d + len * size + Jk.length ≤ arr.size := by
        have h3 := hr (by omega)
        rw [YZ] at h3
        have h4 : (len + n) * size ≤ c' * size := Nat.mul_le_mul_right _ hf
        rw [Nat.add_mul] at h4
        rw [g2, ← FH.1, CI]
        omega
       obtain ⟨Ft, w', a1, a2, a3, a4⟩ := WR (P := P) Jk w arr (o + L.d + len * size) 0 g1 (by omega) (fun j hj => g4 rfl j (by omega)) Si
       have FE := yY hs hb hB (o := o) (old := old) (new := new) (by omega) (AEg hold) a2 g1 a3 FH (fun j => by
        rw [a4 j, show o + L.d + len * size + 0 = c.length + L.d by omega])
       refine ⟨_, _, w', Te h0 h1 hu Jc Gn Ay hl H6 hf (by rw [Addr.add_lit]; exact a1), FE.1, ?_, FE.2⟩
       exact VR.slice (L := ⟨L.r, L.d + o, L.Kk, L.z⟩) (JB _ _ _) (Nat.le_refl _) hf hr (.inl (by show o + L.d = 0 + (L.d + o); omega))
      obtain ⟨AAj, p1, p2⟩ := AAk (P := P) hs.drew hb hB hold o' len c' (by
       rcases ho with ho | ho
       ·exact .inl ho
       exact .inr (by omega))
      obtain ⟨BD, FV, DH⟩ := bM (P := P) (ty := ty) h0 h1 hu Jc Gn Ay hl p1 Sc hf EK hz EJ CB G7
      have NM := uU hs.drew hb hB
      have QA := aJ (P := P) (e := e) (e' := e) (row := true) (kin := b :: kin) (z := size) (c := old ++ new) (arr := AAj.toArray ++ aI.toArray ++ Builtin.zeroCells z.cells (BD - (len + n))) NM (fun i y hy => by
       obtain ⟨y', q1, q2⟩ := (p2.append QJ).get hy
       refine ⟨y', ?_, q2⟩
       have hi := (List.getElem?_eq_some_iff.1 q1).1
       rw [Array.getElem?_append_left (by simpa using hi)]
       simpa using q1) (fun _ => Ay) (by simp) (fun _ => rfl)
      refine ⟨_, _, _, DH, QA.1, ?_, QA.2⟩
      refine VR.slice (L := ⟨w.drew.heap.size, 0, _, size⟩) (JB _ _ _) (Nat.le_refl _) FV (fun _ => ?_) (.inl rfl)
      simp only [Array.size_append, size_zeroCells, TD, List.size_toArray, ← QJ.1, ← p2.1, CI, xE]
      have : BD * size = len * size + n * size + (BD - (len + n)) * size := by rw [← Nat.add_mul, ← Nat.add_mul]; congr 1; omega
      omega
theorem F6.same {ρ : AF} {S : St} {w : World} (hs : AO P w0 ρ S w) {v v' : Value} {r : Result Value} (h : r = .ok v' w) (hv : VR ρ v v') : F6 P w0 ρ v S r := ⟨ρ, v', w, h, Ext.refl _, hv, hs⟩
theorem wrap_small {n : Int} (h0 : 0 ≤ n) (h1 : n < 9223372036854775808) : IntKind.i64.wrap n = n := by
 have e : n % (2 ^ IntKind.i64.bits : Int) = n := Int.emod_eq_of_lt h0 (by show n < 18446744073709551616; omega)
 simp only [IntKind.wrap, e]
 rw [if_neg]
 simp only [Bool.and_eq_true, decide_eq_true_eq, not_and]
 intro _
 show ¬ (9223372036854775808 ≤ n)
 omega
theorem z7 {ρ : AF} {S S' : St} {w : World} (hs : AO P w0 ρ S w) {t : TypeId} {l c l' c' v : Value} (h : QY P t l c S = some (v, S')) (hl : VR ρ l l') (hc : VR ρ c c') : F6 P w0 ρ v S' ((Instr.makeSlice t l' c').run P w) := by
 unfold QY at h
 split at h
 case h_2 => cases h
 rename_i elem k1 ln k2 cp hu
 cases hl; cases hc
 split at h
 case h_2 => cases h
 rename_i ei EK
 split at h
 case h_2 => cases h
 rename_i z hz
 split at h
 case isFalse => cases h
 rename_i hle
 obtain ⟨a1, a2, a3, a4, a5⟩ := hle
 have TC : z.cells.size = ei.size := by rw [Ig] at a5; simpa using a5
 have Ay : A0 P elem = some ei.size := by unfold A0; rw [EK]
 have w1 : IntKind.i64.wrap ln = ln := wrap_small (by omega) (by have h9 := a3; simp only [AQ, Nat.reducePow] at h9; omega)
 have w2 : IntKind.i64.wrap cp = cp := wrap_small (by omega) (by have h9 := a3; simp only [AQ, Nat.reducePow] at h9; omega)
 have b1 : (ei.bytes : Int) * cp ≤ 1024 * 1073741824 := by
  have h1 : (ei.bytes : Int) ≤ 1024 := by omega
  have h2 : cp ≤ 1073741824 := by have h9 := a3; simp only [AQ, Nat.reducePow] at h9; omega
  exact Int.mul_le_mul h1 h2 (by omega) (by omega)
 have CI : (decide (cp < 0) || decide ((ei.bytes : Int) * cp > 2 ^ 48)) = false :=
  Bool.or_eq_false_iff.2 ⟨decide_eq_false (by omega), decide_eq_false (by omega)⟩
 have KS := UI (ρ := ρ) hz cp.toNat (cp.toNat * ei.size) (by rw [TC])
 obtain ⟨ρ', d1, d2, d3⟩ := TR hs (c := Dp cp.toNat (AP z)) (arr := (Array.range (cp.toNat * ei.size)).map (fun i => z.cells[i % z.cells.size]!)) (e := elem) (e' := elem) (z := ei.size)
  (fun i y hy => by obtain ⟨y', p1, p2⟩ := KS.get hy; exact ⟨y', by rw [← Array.getElem?_toList]; exact p1, p2⟩) (fun _ => rfl) Ay (n := ln.toNat) (k := cp.toNat) (k' := cp.toNat) (by omega) (Nat.le_refl _) (fun _ => by simp)
 cases h
 refine ⟨ρ', _, _, ?_, d1, d3, d2⟩
 have vc : (decide (cp < 0) || decide ((ei.bytes : Int) * cp > 2 ^ 48) || decide (ln < 0) || decide (ln > cp)) = false := by
  rw [CI]
  exact Bool.or_eq_false_iff.2 ⟨Bool.or_eq_false_iff.2 ⟨rfl, decide_eq_false (by omega)⟩, decide_eq_false (by omega)⟩
 unfold Instr.makeSlice
 simp only [Sem.run_bind, Aj w hu, Result.andThen_ok, asInt, asIntOf, Sem.run_pure, LY w EK, w1, w2]
 rw [if_neg (by rw [vc]; simp)]
 simp only [Sem.run_bind, Result.andThen_ok, run_askRoom, Ek w Ay]
 by_cases h0 : cp.toNat * ei.size = 0
 ·rw [if_pos h0]
  have e1 : Array.map (fun x => (#[] : Array Value)[x % (#[] : Array Value).size]!) (Array.range (cp.toNat * ei.size)) = Array.map (fun i => z.cells[i % z.cells.size]!) (Array.range (cp.toNat * ei.size)) := by rw [h0]; simp
  simp only [Sem.run_bind, Sem.run_pure, Result.andThen_ok]
  rw [e1]
  simp [newRow]
 rw [if_neg h0]
 simp only [Sem.run_bind, Jo w hz, Sem.run_pure, Result.andThen_ok]
 simp [newRow]
mutual
theorem PE : ∀ (n : Nat) (a b : Value), CO n a b = true → a = b
 | 0, a, b, h => by simp [CO] at h
 | n + 1, a, b, h => by
  cases a <;> cases b <;> first
   | rfl
   | (simp [CO] at h; done)
   | (simp [CO] at h; simp [h]; done)
   | (simp only [CO, Bool.and_eq_true, decide_eq_true_eq] at h; obtain ⟨rfl, rfl⟩ := h; rfl)
   | (rename_i x y; simp only [CO, Tq, beq_iff_eq] at h; congr 1; apply ByteArray.ext; apply Array.ext'; exact h)
   | (rename_i x n1 c1 y n2 c2; simp only [CO, Bool.and_eq_true, decide_eq_true_eq] at h; obtain ⟨⟨rfl, h2⟩, h3⟩ := h; rw [BV h2, BV h3])
   | (rename_i x y; simp only [CO] at h; congr 1; apply Array.ext'; exact Qu n _ _ h)
   | (rename_i t x u y; simp only [CO, Bool.and_eq_true] at h; rw [BV h.1, PE n _ _ h.2])
   | (rename_i f x1 x2 g y1 y2; simp only [CO, Bool.and_eq_true, decide_eq_true_eq] at h; obtain ⟨⟨rfl, h2⟩, h3⟩ := h; congr 1; exact Array.ext' (Qu n _ _ h2); exact Array.ext' (Qu n _ _ h3))
theorem Qu : ∀ (n : Nat) (a b : List Value), GN n a b = true → a = b
 | 0, a, b, h => by simp [GN] at h
 | n + 1, [], [], _ => rfl
 | n + 1, [], _ :: _, h => by simp [GN] at h
 | n + 1, _ :: _, [], h => by simp [GN] at h
 | n + 1, x :: a, y :: b, h => by
  simp only [GN, Bool.and_eq_true] at h
  rw [PE n _ _ h.1, Qu n _ _ h.2]
end
theorem Tx {w : World} {r : Nat} {o o' : Obj} (h : w.heap[r]? = some o) (NV : ∀ c e f, o ≠ .cells c e f) : ∃ w', (setObj r o').run P w = .ok () w' ∧ J2 r o' w w' := by
 have hr : r < w.heap.size := (Array.getElem?_eq_some_iff.1 h).1
 refine ⟨{ w with heap := w.heap.setIfInBounds r o' }, ?_, ⟨fun k hk => ?_, ?_, by simp, rfl, rfl⟩⟩
 ·cases o <;> first
   | exact absurd rfl (NV _ _ _)
   | simp [setObj, Sem.run, h]
 ·show (w.heap.setIfInBounds r o')[k]? = _
  rw [Array.getElem?_setIfInBounds, if_neg (fun e => hk e.symm)]
 show (w.heap.setIfInBounds r o')[r]? = _
 rw [Array.getElem?_setIfInBounds, if_pos rfl, if_pos hr]
theorem TY {ρ : AF} : ∀ (n : Nat) (k v' : Value), plainKey n k = true → VR ρ k v' → v' = k
 | n, .bool _, _, _, h => by cases h; rfl
 | n, .int _ _, _, _, h => by cases h; rfl
 | n, .string _, _, _, h => by cases h; rfl
 | n + 1, .agg ⟨cs⟩, v', hp, h => by
  obtain ⟨a', rfl, hr⟩ := h.Lg
  congr 1
  apply Array.ext'
  simp only [plainKey] at hp
  apply List.ext_getElem?
  intro i
  have Oh : ∀ x, x ∈ cs → plainKey n x = true := by simpa using hp
  by_cases hi : i < cs.length
  ·have hx := List.getElem?_eq_getElem hi
   obtain ⟨x', h1, h2⟩ := hr.get (i := i) (v := cs[i]) hx
   rw [h1, hx, TY n _ _ (Oh _ (List.getElem_mem hi)) h2]
  have hl := hr.1
  rw [List.getElem?_eq_none (by rw [← hl]; exact Nat.le_of_not_lt hi), List.getElem?_eq_none (Nat.le_of_not_lt hi)]
 | 0, .agg _, _, hp, _ => by simp [plainKey] at hp
 | n, .float _ _, _, hp, _ => by cases n <;> simp [plainKey] at hp
 | n, .complex _ _ _, _, hp, _ => by cases n <;> simp [plainKey] at hp
 | n, .pointer _, _, hp, _ => by cases n <;> simp [plainKey] at hp
 | n, .slice _ _ _, _, hp, _ => by cases n <;> simp [plainKey] at hp
 | n, .map _, _, hp, _ => by cases n <;> simp [plainKey] at hp
 | n, .chan _, _, hp, _ => by cases n <;> simp [plainKey] at hp
 | n, .func _ _ _, _, hp, _ => by cases n <;> simp [plainKey] at hp
 | n, .nilFunc, _, hp, _ => by cases n <;> simp [plainKey] at hp
 | n, .iface _ _, _, hp, _ => by cases n <;> simp [plainKey] at hp
 | n, .nilIface, _, hp, _ => by cases n <;> simp [plainKey] at hp
 | n, .tuple _, _, hp, _ => by cases n <;> simp [plainKey] at hp
theorem ba : ∀ (n N : Nat) (k : Value), n ≤ N → plainKey n k = true → Instr.sameBits N k k = true
 | n, N, .bool _, _, _ => by simp [Instr.sameBits]
 | n, N, .int _ _, _, _ => by simp [Instr.sameBits]
 | n, N, .string _, _, _ => by simp [Instr.sameBits, beq_toListBytes]
 | n + 1, N, .agg ⟨cs⟩, hN, hp => by
  obtain ⟨N, rfl⟩ : ∃ M, N = M + 1 := ⟨N - 1, by omega⟩
  have Oh : ∀ x, x ∈ cs → plainKey n x = true := by simpa [plainKey] using hp
  have : ∀ l : List Value, (∀ x, x ∈ l → plainKey n x = true) → (l.zip l).all (fun x => Instr.sameBits N x.1 x.2) = true := by
   intro l
   induction l with
   | nil => simp
   | cons x l ih =>
    intro hl
    simp only [List.zip_cons_cons, List.all_cons, Bool.and_eq_true]
    exact ⟨ba n N x (by omega) (hl x (by simp)), ih fun y hy => hl y (by simp [hy])⟩
  simp only [Instr.sameBits, beq_self_eq_true, Bool.true_and]
  exact this cs Oh
 | 0, N, .agg _, _, hp => by simp [plainKey] at hp
 | n, N, .float _ _, _, hp => by cases n <;> simp [plainKey] at hp
 | n, N, .complex _ _ _, _, hp => by cases n <;> simp [plainKey] at hp
 | n, N, .pointer _, _, hp => by cases n <;> simp [plainKey] at hp
 | n, N, .slice _ _ _, _, hp => by cases n <;> simp [plainKey] at hp
 | n, N, .map _, _, hp => by cases n <;> simp [plainKey] at hp
 | n, N, .chan _, _, hp => by cases n <;> simp [plainKey] at hp
 | n, N, .func _ _ _, _, hp => by cases n <;> simp [plainKey] at hp
 | n, N, .nilFunc, _, hp => by cases n <;> simp [plainKey] at hp
 | n, N, .iface _ _, _, hp => by cases n <;> simp [plainKey] at hp
 | n, N, .nilIface, _, hp => by cases n <;> simp [plainKey] at hp
 | n, N, .tuple _, _, hp => by cases n <;> simp [plainKey] at hp
theorem bo : ∀ (es : List MapEntry) (i : Nat) (k v : Value) (j : Nat), (Gu es i k v)[j]? = if i = j then (es[j]?).map (fun e => { e with key := k, val := v }) else es[j]?
 | [], i, k, v, j => by simp [Gu]
 | e :: es, 0, k, v, 0 => by simp [Gu]
 | e :: es, 0, k, v, j + 1 => by simp [Gu]
 | e :: es, i + 1, k, v, 0 => by simp [Gu]
 | e :: es, i + 1, k, v, j + 1 => by simp [Gu, bo es i k v j]
theorem bq : ∀ (es : List MapEntry) (i : Nat) (k v : Value), (Gu es i k v).length = es.length
 | [], i, k, v => by simp [Gu]
 | e :: es, 0, k, v => by simp [Gu]
 | e :: es, i + 1, k, v => by simp [Gu, bq es i k v]
theorem lM {ρ : AF} {S S' : St} {w : World} (hs : AO P w0 ρ S w) {t : TypeId} {m k v m' k' v' : Value} (h : Qa P t m k v S = some S') (hm : VR ρ m m') (hk : VR ρ k k') (hv : VR ρ v v') :
  ∃ w', (Instr.mapUpdate t m' k' v').run P w = .ok () w' ∧ AO P w0 ρ S' w' := by
 unfold Qa at h
 split at h
 case h_2 => cases h
 rename_i key elem r hu
 split at h
 case h_2 => cases h
 rename_i es clock hB
 split at h
 case isFalse => cases h
 rename_i Bl
 rw [Bool.and_eq_true] at Bl
 cases hm with
 | map hb =>
  rename_i L
  obtain ⟨Ax, h1, h2⟩ := hs.CR _ _ _ hb hB
  have hg : (getObj L.r).run P w = .ok (.map Ax.toArray clock) w := by simp [getObj, Sem.run, h1]
  have HY := TK (P := P) (ρ := ρ) false 20 10000 key k k' w (by decide) Bl.1 hk
  obtain ⟨d, hd⟩ := Zu Bl.1
  have Y2 := TY 20 k k' Bl.2 hk
  subst Y2
  split at h
  ·rename_i i v0 hf
   split at h
   case h_2 => cases h
   rename_i e EK
   cases Iw : CO 1000 e.key k' with
   | false => rw [Iw] at h; cases h
   | true =>
    rw [Iw] at h
    simp only [cond_true, Option.some.injEq] at h
    subst h
    obtain ⟨q, a, b⟩ := Pr hk w h2 hf hd
    cases q with
    | none => exact b.elim
    | some y =>
     obtain ⟨j, vj⟩ := y
     obtain ⟨rfl, kL⟩ := b
     rw [CD] at EK
     have G5 := (List.getElem?_eq_some_iff.1 EK).1
     obtain ⟨e2, JX⟩ : ∃ e2, Ax[i]? = some e2 := ⟨_, List.getElem?_eq_getElem (by rw [← h2.1]; exact G5)⟩
     have KF := h2.2 i e _ EK JX
     have Yp : e2.key = k' := by
      have h3 := PE _ _ _ Iw
      have h4 := KF.1
      rw [h3] at h4
      exact TY 20 k' _ Bl.2 h4
     obtain ⟨w', p1, p2⟩ := Tx (P := P) (o' := .map (Ax.toArray.modify i fun e => { e with key := k', val := v' }) clock) h1 (by simp)
     refine ⟨w', ?_, ?_⟩
     ·have Ip : (Instr.keyThatStays k' k').run P w = .ok k' w := by simp [Instr.keyThatStays, ba 20 10000 k' (by decide) Bl.2]
      have SR : ((Ax.toArray[i]?).map (·.key)).getD k' = k' := by
       have : Ax.toArray[i]? = some e2 := by simpa using JX
       rw [this]; exact Yp
      simp only [Instr.mapUpdate, Sem.run_bind, Aj w hu, Result.andThen_ok, hg, HY, a, SR, Ip, p1]
     have Be := hs.put (B := .map es clock) (B' := .map (Gu es i k' v) clock) hb hB rfl p2 ⟨(Ax.toArray.modify i fun e => { e with key := k', val := v' }).toList, by simp, by
       refine ⟨by rw [bq]; simpa using h2.1, fun x a a' hx BZ => ?_⟩
       rw [bo] at hx
       rw [Array.getElem?_toList, Array.getElem?_modify] at BZ
       have MJ : Ax.toArray[x]? = Ax[x]? := by simp
       rw [MJ] at BZ
       by_cases NO : i = x
       ·subst NO
        rw [if_pos rfl, EK] at hx
        rw [if_pos rfl, JX] at BZ
        cases hx; cases BZ
        exact ⟨hk, hv, KF.2.2⟩
       rw [if_neg NO] at hx BZ
       exact h2.2 x a a' hx BZ⟩
     exact Be
  ·rename_i hf
   cases h
   obtain ⟨q, a, b⟩ := Pr hk w h2 hf hd
   cases q with
   | some y => exact b.elim
   | none =>
    obtain ⟨w', p1, p2⟩ := Tx (P := P) (o' := .map (Ax.toArray.push { key := k', val := v', born := clock }) (clock + 1)) h1 (by simp)
    refine ⟨w', by simp only [Instr.mapUpdate, Sem.run_bind, Aj w hu, Result.andThen_ok, hg, HY, a, p1], ?_⟩
    have Be := hs.put (B := .map es clock) (B' := .map (es ++ [{ key := k', val := v, born := clock }]) (clock + 1)) hb hB rfl p2 ⟨Ax ++ [{ key := k', val := v', born := clock }], by simp, by
     refine ⟨by simp [h2.1], fun x a a' hx BZ => ?_⟩
     by_cases Jd : x < es.length
     ·rw [List.getElem?_append_left Jd] at hx
      rw [List.getElem?_append_left (by rw [← h2.1]; exact Jd)] at BZ
      exact h2.2 x a a' hx BZ
     rw [List.getElem?_append_right (by omega)] at hx
     rw [List.getElem?_append_right (by rw [← h2.1]; omega), ← h2.1] at BZ
     have : x - es.length = 0 := by
      have := (List.getElem?_eq_some_iff.1 hx).1
      simp at this; omega
     rw [this] at hx BZ
     simp at hx BZ
     subst hx; subst BZ
     exact ⟨hk, hv, rfl⟩⟩
    exact Be
  cases h
theorem z' {ρ : AF} {S S' : St} {w : World} (hs : AO P w0 ρ S w) {t : TypeId} {m k m' k' x : Value} (h : Z5 P t m k S = some (x, S')) (hm : VR ρ m m') (hk : VR ρ k k') :
  F6 P w0 ρ x S' ((Instr.mapEntry t m' k').run P w) := by
 unfold Z5 at h
 split at h
 case h_2 => cases h
 rename_i key elem r hu
 split at h
 case h_2 => cases h
 rename_i es clock hB
 split at h
 case isFalse => cases h
 rename_i Bl
 rw [Bool.and_eq_true] at Bl
 cases hm with
 | map hb =>
  rename_i L
  obtain ⟨Ax, h1, h2⟩ := hs.CR _ _ _ hb hB
  have hg : (getObj L.r).run P w = .ok (.map Ax.toArray clock) w := by simp [getObj, Sem.run, h1]
  have HY := TK (P := P) (ρ := ρ) false 20 10000 key k k' w (by decide) Bl.1 hk
  obtain ⟨d, hd⟩ := Zu Bl.1
  have Y2 := TY 20 k k' Bl.2 hk
  subst Y2
  split at h
  ·rename_i i v0 hf
   split at h
   case h_2 => cases h
   rename_i e EK
   cases Iw : CO 1000 e.key k' with
   | false => rw [Iw] at h; cases h
   | true =>
    rw [Iw] at h
    simp only [cond_true, Option.some.injEq, Prod.mk.injEq] at h
    obtain ⟨rfl, rfl⟩ := h
    obtain ⟨q, a, b⟩ := Pr hk w h2 hf hd
    cases q with
    | none => exact b.elim
    | some y =>
     obtain ⟨j, vj⟩ := y
     obtain ⟨rfl, kL⟩ := b
     rw [CD] at EK
     have G5 := (List.getElem?_eq_some_iff.1 EK).1
     obtain ⟨e2, JX⟩ : ∃ e2, Ax[i]? = some e2 := ⟨_, List.getElem?_eq_getElem (by rw [← h2.1]; exact G5)⟩
     have KF := h2.2 i e _ EK JX
     have Yp : e2.key = k' := by
      have h3 := PE _ _ _ Iw
      have h4 := KF.1
      rw [h3] at h4
      exact TY 20 k' _ Bl.2 h4
     obtain ⟨w', p1, p2⟩ := Tx (P := P) (o' := .map (Ax.toArray.modify i fun e => { e with key := k' }) clock) h1 (by simp)
     refine ⟨ρ, .tuple #[vj, goInt e2.born], w', ?_, Ext.refl _, VR.tuple' (AI.cons kL (AI.cons ?_ .nil)), ?_⟩
     ·have Ip : (Instr.keyThatStays k' k').run P w = .ok k' w := by simp [Instr.keyThatStays, ba 20 10000 k' (by decide) Bl.2]
      have h6 : Ax.toArray[i]? = some e2 := by simpa using JX
      have SR : ((Ax.toArray[i]?).map (·.key)).getD k' = k' := by
       rw [h6]; exact Yp
      have Yi : ((Ax.toArray[i]?).map (fun x : MapEntry => (x.born : Int))).getD 0 = (e2.born : Int) := by
       rw [h6]; rfl
      simp only [Instr.mapEntry, Sem.run_bind, Aj w hu, Result.andThen_ok, hg, HY, a, SR, Ip, p1, Yi, Sem.run_pure]
     ·rw [KF.2.2]
      exact .int _ _
     have Be := hs.put (B := .map es clock) (B' := .map (Gu es i k' e.val) clock) hb hB rfl p2 ⟨(Ax.toArray.modify i fun e => { e with key := k' }).toList, by simp, by
       refine ⟨by rw [bq]; simpa using h2.1, fun x a a' hx BZ => ?_⟩
       rw [bo] at hx
       rw [Array.getElem?_toList, Array.getElem?_modify] at BZ
       have MJ : Ax.toArray[x]? = Ax[x]? := by simp
       rw [MJ] at BZ
       by_cases NO : i = x
       ·subst NO
        rw [if_pos rfl, EK] at hx
        rw [if_pos rfl, JX] at BZ
        cases hx; cases BZ
        exact ⟨hk, KF.2.1, KF.2.2⟩
       rw [if_neg NO] at hx BZ
       exact h2.2 x a a' hx BZ⟩
     exact Be
  ·rename_i hf
   split at h
   case h_2 => cases h
   rename_i z hz
   cases h
   obtain ⟨q, a, b⟩ := Pr hk w h2 hf hd
   cases q with
   | some y => exact b.elim
   | none =>
    obtain ⟨_, _, _, LC⟩ := N4 hz
    have hv := LC.refl ρ
    obtain ⟨w', p1, p2⟩ := Tx (P := P) (o' := .map (Ax.toArray.push { key := k', val := z, born := clock }) (clock + 1)) h1 (by simp)
    refine ⟨ρ, _, w', by simp only [Instr.mapEntry, Sem.run_bind, Aj w hu, Result.andThen_ok, hg, HY, a, Jo w hz, p1, Sem.run_pure]; rfl, Ext.refl _, VR.tuple' (AI.cons hv (AI.cons (.int _ _) .nil)), ?_⟩
    have Be := hs.put (B := .map es clock) (B' := .map (es ++ [{ key := k', val := z, born := clock }]) (clock + 1)) hb hB rfl p2 ⟨Ax ++ [{ key := k', val := z, born := clock }], by simp, by
     refine ⟨by simp [h2.1], fun x a a' hx BZ => ?_⟩
     by_cases Jd : x < es.length
     ·rw [List.getElem?_append_left Jd] at hx
      rw [List.getElem?_append_left (by rw [← h2.1]; exact Jd)] at BZ
      exact h2.2 x a a' hx BZ
     rw [List.getElem?_append_right (by omega)] at hx
     rw [List.getElem?_append_right (by rw [← h2.1]; omega), ← h2.1] at BZ
     have : x - es.length = 0 := by
      have := (List.getElem?_eq_some_iff.1 hx).1
      simp at this; omega
     rw [this] at hx BZ
     simp at hx BZ
     subst hx; subst BZ
     exact ⟨hk, hv, rfl⟩⟩
    exact Be
  cases h
theorem oX {born : Int} {v : Value} : ∀ (es My : List MapEntry), Wv born v es = some My → ∃ (i : Nat) (e : MapEntry), es[i]? = some e ∧ (e.born : Int) = born ∧ (∀ (j : Nat) (e' : MapEntry), j < i → es[j]? = some e' → (e'.born : Int) ≠ born) ∧
  My.length = es.length ∧ ∀ (j : Nat), My[j]? = if i = j then some { e with val := v } else es[j]?
 | [], My, h => by cases h
 | e :: es, My, h => by
  unfold Wv at h
  split at h
  ·rename_i hb
   cases h
   refine ⟨0, e, rfl, hb, fun j e' hj => by omega, rfl, fun j => ?_⟩
   cases j with
   | zero => simp
   | succ j => simp
  rename_i hb
  split at h
  ·rename_i r hr
   cases h
   obtain ⟨i, e0, a1, a2, a3, a4, a5⟩ := oX es r hr
   refine ⟨i + 1, e0, by simpa using a1, a2, fun j e' hj he => ?_, by simp [a4], fun j => ?_⟩
   ·cases j with
    | zero => simp at he; subst he; exact hb
    | succ j => exact a3 j e' (by omega) (by simpa using he)
   cases j with
   | zero => simp
   | succ j => simpa using a5 j
  cases h
theorem tY {ρ : AF} {S S' : St} {w : World} (hs : AO P w0 ρ S w) {t : TypeId} {m s v m' s' v' : Value} (h : Xx m s v S = some S') (hm : VR ρ m m') (QN : VR ρ s s') (hv : VR ρ v v') :
  ∃ w', (Instr.entryStore t m' s' v').run P w = .ok () w' ∧ AO P w0 ρ S' w' := by
 unfold Xx at h
 split at h
 case h_2 => cases h
 rename_i r k born
 split at h
 case h_2 => cases h
 rename_i es clock hB
 split at h
 case h_2 => cases h
 rename_i My Ag
 cases h
 cases QN
 cases hm with
 | map hb =>
  rename_i L
  obtain ⟨Ax, h1, h2⟩ := hs.CR _ _ _ hb hB
  have hg : (getObj L.r).run P w = .ok (.map Ax.toArray clock) w := by simp [getObj, Sem.run, h1]
  obtain ⟨i, e, a1, a2, a3, a4, a5⟩ := oX es My Ag
  have G5 := (List.getElem?_eq_some_iff.1 a1).1
  obtain ⟨e2, JX⟩ : ∃ e2, Ax[i]? = some e2 := ⟨_, List.getElem?_eq_getElem (by rw [← h2.1]; exact G5)⟩
  have KF := h2.2 i e _ a1 JX
  have wI : Ax.toArray.findIdx? (fun e : MapEntry => (e.born : Int) == born) = some i := by
   rw [List.findIdx?_toArray, List.findIdx?_eq_some_iff_getElem]
   have jX : i < Ax.length := (List.getElem?_eq_some_iff.1 JX).1
   refine ⟨jX, ?_, fun j hj => ?_⟩
   ·have : Ax[i] = e2 := by
     have := List.getElem?_eq_getElem jX
     rw [JX] at this
     exact (Option.some.inj this).symm
    rw [this]
    have CB : e2.born = e.born := KF.2.2
    simp [CB, a2]
   have Y0 : j < es.length := by omega
   have VV := List.getElem?_eq_getElem Y0
   have FF := List.getElem?_eq_getElem (show j < Ax.length by omega)
   have CB := (h2.2 j _ _ VV FF).2.2
   have := a3 j _ hj VV
   rw [← CB] at this
   simpa using this
  obtain ⟨w', p1, p2⟩ := Tx (P := P) (o' := .map (Ax.toArray.modify i fun e => { e with val := v' }) clock) h1 (by simp)
  refine ⟨w', by simp only [Instr.entryStore, Sem.run_bind, hg, Result.andThen_ok, asInt, asIntOf, Sem.run_pure, wI, p1], ?_⟩
  have Be := hs.put (B := .map es clock) (B' := .map My clock) hb hB rfl p2 ⟨(Ax.toArray.modify i fun e => { e with val := v' }).toList, by simp, by
   refine ⟨by rw [a4]; simpa using h2.1, fun x a a' hx BZ => ?_⟩
   rw [a5] at hx
   rw [Array.getElem?_toList, Array.getElem?_modify] at BZ
   have MJ : Ax.toArray[x]? = Ax[x]? := by simp
   rw [MJ] at BZ
   by_cases NO : i = x
   ·subst NO
    rw [if_pos rfl] at hx
    rw [if_pos rfl, JX] at BZ
    cases hx; cases BZ
    exact ⟨KF.1, hv, KF.2.2⟩
   rw [if_neg NO] at hx BZ
   exact h2.2 x a a' hx BZ⟩
  exact Be
theorem Z' {ρ : AF} {isMax : Bool} {ty : TypeId} {ts : Array TypeId} : ∀ (r r' : List Value) (x x' v : Value), Nh isMax x r = some v → VR ρ x x' → AI ρ r r' → ∀ w : World,
  ∃ v', (r'.foldlM (if isMax then Builtin.max2 else Builtin.min2) x').run P w = .ok v' w ∧ VR ρ v v'
 | [], r', x, x', v, h, hx, hr, w => by
  cases hr.Hd
  simp [Nh] at h; subst h
  exact ⟨x', by simp, hx⟩
 | y :: r, r', x, x', v, h, hx, hr, w => by
  obtain ⟨y', WB, rfl, hy, EL⟩ := hr.cons_inv
  cases x <;> cases y <;> simp only [Nh] at h <;> try (cases h; done)
  cases hx; cases hy
  obtain ⟨v', a, b⟩ := Z' (ty := ty) (ts := ts) r WB _ _ v h (.int _ _) EL w
  refine ⟨v', ?_, b⟩
  rw [List.foldlM_cons, Sem.run_bind]
  cases isMax <;> simp only [Builtin.min2, Builtin.max2, Bool.false_eq_true, if_true, if_false, Sem.run_pure, Result.andThen_ok] at a ⊢ <;> exact a
theorem Xf {ρ : AF} : ∀ (l l' : List Value) (bs : List UInt8), Pj l = some bs → AI ρ l l' → ∃ ns : List Int, l' = ns.map (Value.int .u8) ∧ bs = ns.map (fun n => UInt8.ofNat n.toNat)
 | [], l', bs, h, hv => by
  simp only [Pj, Option.some.injEq] at h
  subst h
  cases hv.Hd
  exact ⟨[], rfl, rfl⟩
 | v :: l, l', bs, h, hv => by
  obtain ⟨v', l2, rfl, h1, h2⟩ := hv.cons_inv
  unfold Pj at h
  split at h
  ·rename_i he; cases he
  ·rename_i n r he
   cases he
   split at h
   ·rename_i bs2 hb
    cases h
    cases h1
    obtain ⟨ns, rfl, rfl⟩ := Xf _ _ _ hb h2
    exact ⟨n :: ns, rfl, rfl⟩
   cases h
  cases h
theorem AA' (ns : List Int) : ∀ acc : ByteArray, ns.foldl (fun r n => r.push (UInt8.ofNat n.toNat)) acc = ⟨acc.data ++ (ns.map (fun n => UInt8.ofNat n.toNat)).toArray⟩ := by
 induction ns with
 | nil => intro acc; simp
 | cons n ns ih =>
  intro acc
  rw [List.foldl_cons, ih]
  have : (acc.push (UInt8.ofNat n.toNat)).data = acc.data.push (UInt8.ofNat n.toNat) := rfl
  rw [this]
  congr 1
  simp
theorem uA {size n : Nat} {a : Addr} {k c : Nat} {w : World} {l : List Value} (h : (Builtin.firstCells size n (.slice (some a) k c)).run P w = .ok l.toArray w) : (loadCells a (n * size)).run P w = .ok l.toArray w := h
theorem cE {w : World} {r : Nat} {arr : Array Value} {e : TypeId} {fz : Nat × Nat} (h : w.heap[r]? = some (.cells arr e fz)) : w.shape? r = some (e, arr.size) := by
 simp [World.shape?, h]
theorem zY {e : TypeId} (hc : P.cellsOf e = 1) (count off n : Nat) (hn : off + n ≤ count) : liesAt P P.depth e count off e n = true := by
 have hd : P.depth = (2 * (P.types.size + Made.depth) + 1) + 1 := rfl
 rw [hd]
 simp only [liesAt, Bool.or_eq_true]
 left
 rw [hd]
 simp [rowAt, hc, hn, sameLayout, Nat.mod_one]
theorem tD {ρ : AF} {S S' : St} {w : World} (hs : AO P w0 ρ S w) {s d : TypeId} {x x' v : Value} (h : Uu P S s d x = some (v, S')) (hx : VR ρ x x') : F6 P w0 ρ v S' ((convert s d x').run P w) := by
 unfold Uu at h
 split at h
 ·rename_i d1 k k' n Fb H'
  cases h; cases hx
  refine .same hs ?_ (.int _ _)
  simp only [convert, Sem.run_bind, Aj w Fb, Aj w H', Result.andThen_ok]
  cases d1 <;> simp [Conv.intToInt]
 ·rename_i d1 b Fb H'
  cases h; cases hx
  refine .same hs ?_ (.string _)
  simp only [convert, Sem.run_bind, Aj w Fb, Aj w H', Result.andThen_ok]
  cases d1 <;> simp
 ·rename_i e n c Fb H'
  split at h
  ·rename_i ZW
   cases h; cases hx
   exact .same hs (by simp [convert, Aj w Fb, Aj w H', Aj w ZW, Conv.bytesToString]; rfl) (.string _)
  cases h
 ·rename_i e a n c Fb H'
  split at h
  ·rename_i l ZW hl
   split at h
   ·rename_i bs hb
    cases h
    obtain ⟨l', p, q⟩ := Wg hs hl hx (fun k hk => by simp only [Gp, Option.some.injEq] at hk; omega)
    obtain ⟨ns, rfl, rfl⟩ := Xf _ _ _ hb q
    cases hx with
    | slice EJ NV hc hr ho =>
     rename_i bb oo o2 c2 L
     have p2 := uA p
     rw [Nat.mul_one] at p2
     refine .same hs ?_ (.string _)
     have := run_bytesToString (P := P) w ⟨L.r, o2, none⟩ n c2 ns p2
     simp only [convert, Sem.run_bind, Aj w Fb, Aj w H', Aj w ZW, Result.andThen_ok]
     rw [this, AA']
     show Result.ok (Value.string ⟨#[] ++ _⟩) w = _
     rw [Array.empty_append]
   cases h
  cases h
 ·rename_i t b o Fb H'
  split at h
  ·rename_i n c e row own kin hn hB
   cases AJ : Nat.blt o c.length with
   | false => rw [AJ] at h; cases h
   | true =>
    rw [AJ] at h
    simp only [cond_true, Option.some.injEq, Prod.mk.injEq] at h
    obtain ⟨rfl, rfl⟩ := h
    have AJ := HA AJ
    cases hx with
    | ptr hb =>
     rename_i L
     obtain ⟨arr, e', fz, h1, h2, h3, h4, h5⟩ := hs.CR _ _ _ hb hB
     obtain ⟨i, hi, Ay⟩ := T9 hn
     obtain ⟨v', F0, _⟩ := h3 o _ (List.getElem?_eq_getElem AJ)
     have AF1 := (Array.getElem?_eq_some_iff.1 F0).1
     exact .same hs (Lib.run_to_unsafe w ⟨L.r, o + L.d, none⟩ Fb H' hi (by rw [Ay]; exact Nat.succ_ne_zero _) (cE h1) (by show o + L.d < arr.size; omega)) (.ptr hb)
  cases h
 ·rename_i u b o Fb H'
  split at h
  ·rename_i n c e own kin hn hB
   cases AJ : (!(Nat.beq e 0) && liesAt P P.depth e (c.length / P.cellsOf e) o u 1) with
   | false => rw [AJ] at h; cases h
   | true =>
    rw [AJ] at h
    simp only [cond_true, Option.some.injEq, Prod.mk.injEq] at h
    obtain ⟨rfl, rfl⟩ := h
    simp only [Bool.and_eq_true, Bool.not_eq_true'] at AJ
    have NL : e ≠ 0 := fun e0 => by rw [e0] at AJ; exact absurd AJ.1 (by simp [Nat.beq_refl])
    cases hx with
    | ptr hb =>
     rename_i L
     obtain ⟨arr, e', fz, h1, h2, h3, h4, h5, h6, h7⟩ := hs.CR _ _ _ hb hB
     obtain ⟨i, hi, Ay⟩ := T9 hn
     obtain ⟨_, hd, ZV⟩ := h6 rfl
     have he := h7 (.inr rfl) NL
     subst he
     exact .same hs (Lib.run_from_unsafe w ⟨L.r, o + L.d, none⟩ Fb H' hi (cE h1) (by rw [hd, h2, ZV, Nat.add_zero]; exact AJ.2)) (.ptr hb)
  cases h
 cases h
theorem su {ρ : AF} {S S' : St} {w : World} (hs : AO P w0 ρ S w) {ty : TypeId} {ts : Array TypeId} {x x' v : Value} (h : RX P ts.toList x S = some (v, S')) (hx : VR ρ x x') :
  F6 P w0 ρ v S' ((Builtin.clear_ ts ty #[x']).run P w) := by
 unfold RX at h
 split at h
 case h_2 => cases h
 rename_i t rest Bv
 have Gm : ts[0]? = some t := by rw [← Array.getElem?_toList, Bv]; rfl
 split at h
 case h_2 => cases h
 rename_i elem base n c hu
 cases hn : Nat.beq n 0 with
 | true =>
  rw [hn] at h
  simp only [cond_true, Option.some.injEq, Prod.mk.injEq] at h
  obtain ⟨rfl, rfl⟩ := h
  have D6 := BV hn
  subst D6
  refine .same hs ?_ (VR.tuple' (l := []) (l' := []) AI.nil)
  cases hx <;> simp [Builtin.clear_, Gm, Aj w hu]
 | false =>
  rw [hn] at h
  simp only [cond_false] at h
  split at h
  case h_2 => cases h
  rename_i b o z hz
  split at h
  case h_2 => cases h
  rename_i S1 hw
  simp only [Option.some.injEq, Prod.mk.injEq] at h
  obtain ⟨rfl, rfl⟩ := h
  cases hx with
  | slice hb NV hc hr ho =>
   rename_i o' c' L
   have hnz : n ≠ 0 := fun e => by subst e; cases hn
   have Is : o' = o + L.d := by
    rcases ho with ho | ho
    ·exact ho
    omega
   subst Is
   have KS := UI (ρ := ρ) hz n (n * z.cells.size) rfl
   obtain ⟨w', a1, a2⟩ := W4 hs hb hw KS
   refine ⟨ρ, _, w', ?_, Ext.refl _, VR.tuple' (l := []) (l' := []) AI.nil, a2⟩
   obtain ⟨m, rfl⟩ : ∃ m, n = m + 1 := ⟨n - 1, by omega⟩
   have RN : (storeCells ⟨L.r, o + L.d, none⟩ (Builtin.zeroCells z.cells (m + 1)).toList).run P w = .ok () w' := a1
   simp [Builtin.clear_, Gm, Aj w hu, Jo w hz, RN]
theorem tF {ρ : AF} {S S' : St} {w : World} (hs : AO P w0 ρ S w) {ty : TypeId} {ts : Array TypeId} {d d' x x' v : Value} (h : copyV P ts.toList d x S = some (v, S')) (hd : VR ρ d d') (hx : VR ρ x x') :
  F6 P w0 ρ v S' ((Builtin.copy_ ts ty #[d', x']).run P w) := by
 unfold copyV at h
 split at h
 ·rename_i dT rest Bv
  have Gm : ts[0]? = some dT := by rw [← Array.getElem?_toList, Bv]; rfl
  split at h
  ·rename_i elem base OJ AFi xn hu hlen
   split at h
   ·rename_i size Ay
    split at h
    ·rename_i new Bq
     have hl := kn hlen hx w (P := P)
     obtain ⟨l', p, q⟩ := Wg hs Bq hx (fun k hk => by rw [hlen] at hk; cases hk; exact Nat.min_le_left _ _)
     cases hd with
     | IP =>
      simp only [Option.some.injEq, Prod.mk.injEq] at h
      obtain ⟨rfl, rfl⟩ := h
      refine .same hs ?_ (.int _ _)
      have e0 : Nat.min xn 0 = 0 := Nat.min_zero xn
      rw [e0] at p
      simp [Builtin.copy_, Gm, Aj w hu, hl, Ek w Ay, p, goInt]
     | Ki b o k a => cases h
     | slice hb NV vX hr ho =>
      rename_i b o c' o' L
      simp only at h
      cases hz : Nat.beq new.length 0 with
      | true =>
       rw [hz] at h
       simp only [cond_true, Option.some.injEq, Prod.mk.injEq] at h
       obtain ⟨rfl, rfl⟩ := h
       have D6 : new = [] := List.length_eq_zero_iff.1 (BV hz)
       subst D6
       cases q.Hd
       refine .same hs ?_ (.int _ _)
       simp [Builtin.copy_, Gm, Aj w hu, hl, Ek w Ay, p, goInt, storeCells]
      | false =>
       rw [hz] at h
       simp only [cond_false] at h
       split at h
       ·rename_i S1 hw
        simp only [Option.some.injEq, Prod.mk.injEq] at h
        obtain ⟨rfl, rfl⟩ := h
        have Oi : 0 < OJ := by
         rcases Nat.eq_zero_or_pos OJ with e0 | e0
         ·subst e0
          exfalso
          have : new.length = 0 := by
           unfold El at Bq
           have e0 : Nat.min xn 0 = 0 := Nat.min_zero xn
           rw [e0] at Bq
           split at Bq
           ·simp [Nat.beq] at Bq; simp [Bq]
           ·unfold Ns at Bq
            split at Bq
            ·rw [Nat.zero_mul] at Bq; simp [takeN] at Bq; simp [← Bq]
            cases Bq
           ·simp [Nat.beq] at Bq; simp [Bq]
           ·cases EJ : Nat.beq size 1 with
            | false => rw [EJ] at Bq; cases Bq
            | true => rw [EJ] at Bq; simp [takeN] at Bq; simp [← Bq]
           cases Bq
          rw [this] at hz
          cases hz
         exact e0
        rcases ho with ho | ho
        ·subst ho
         obtain ⟨w', a1, a2⟩ := W4 hs hb hw q
         refine ⟨ρ, _, w', ?_, Ext.refl _, .int .i64 _, a2⟩
         simp [Builtin.copy_, Gm, Aj w hu, hl, Ek w Ay, p, goInt, a1]
        omega
       cases h
     | _ => cases h
    cases h
   cases h
  cases h
 cases h
theorem uJ {w : World} {r o n : Nat} {arr : Array Value} {e : TypeId} {fz : Nat × Nat} (h : w.heap[r]? = some (.cells arr e fz)) (hn : n ≠ 0) : ∃ YG, J2 r (.cells arr e YG) w (w.freeze ⟨r, o, none⟩ n) := by
 have AJ := (Array.getElem?_eq_some_iff.1 h).1
 obtain ⟨lo, hi⟩ := fz
 refine ⟨(if lo == hi then (o, o + n) else (min lo o, max hi (o + n))), ?_⟩
 unfold World.freeze
 rw [if_neg hn]
 refine ⟨fun k hk => ?_, ?_, by simp, rfl, rfl⟩
 ·simp only [Array.getElem?_modify]
  rw [if_neg (fun e => hk e.symm)]
 simp only [Array.getElem?_modify, h, Option.map_some, if_true]
theorem lE {w : World} {g : Nat} : ∀ (ns : List Int) (o : Nat) (acc : ByteArray), (∀ j n, ns[j]? = some n → w.cell? ⟨g, o + j, none⟩ = some (.int .u8 n)) → (loadBytes ⟨g, o, none⟩ acc ns.length).run P w = .ok ⟨acc.data ++ (ns.map (fun n => UInt8.ofNat n.toNat)).toArray⟩ w
 | [], o, acc, _ => by simp [loadBytes]
 | n :: ns, o, acc, h => by
  have h0 : w.cell? ⟨g, o, none⟩ = some (.int .u8 n) := h 0 n rfl
  have ih := lE ns (o + 1) (acc.push n.toNat.toUInt8) (fun j y hy => by
   have := h (j + 1) y (by simpa using hy)
   rw [show o + 1 + j = o + (j + 1) by omega]
   exact this)
  have hd : (acc.push n.toNat.toUInt8).data = acc.data.push n.toNat.toUInt8 := rfl
  rw [hd] at ih
  have hl : (load ⟨g, o, none⟩).run P w = .ok (.int .u8 n) w := by simp [load, Sem.run, h0]
  simp only [List.length_cons, loadBytes, Sem.run_bind, hl, Result.andThen_ok, Addr.add_lit]
  rw [ih]
  congr 2
  simp [Nat.toUInt8]
theorem ACE (w : World) (pt it ty e : TypeId) (hp : P.underlying pt = some (.pointer e)) (hc : P.cellsOf e = 1) (g o cells : Nat) (Ve : w.shape? g = some (e, cells)) (ns : List Int) (h0 : ns ≠ []) (hn : o + ns.length ≤ cells) (Lx : ns.length ≤ 9223372036854775807)
  (SM : ∀ j n, ns[j]? = some n → w.cell? ⟨g, o + j, none⟩ = some (.int .u8 n)) :
  (Builtin.unsafeString_ #[pt, it] ty #[.pointer (some ⟨g, o, none⟩), .int .i64 ns.length]).run P w = .ok (.string ⟨(ns.map (fun n => UInt8.ofNat n.toNat)).toArray⟩) (w.freeze ⟨g, o, none⟩ ns.length) := by
 have hl : ns.length ≠ 0 := by simpa using h0
 have wa := lE (P := P) ns o .empty SM
 have wg := zY (P := P) hc (cells / P.cellsOf e) o ns.length (by rw [hc]; simpa using hn)
 have uW : ¬ (9223372036854775807 : Int) < (ns.length : Int) := by omega
 have vk : Builtin.unsafeString_ #[pt, it] ty #[.pointer (some ⟨g, o, none⟩), .int .i64 ns.length] =
   (do
    let n ← asInt (.int .i64 ns.length)
    if n < 0 then runtimePanic (.error "unsafe.String: len out of range")
    if n > IntKind.i64.max then unsupported (.unsafePointer "String: a length above the largest int")
    if n = 0 then pure (.string .empty)
    else if ← variablesAt ⟨g, o, none⟩ (← elemOf pt) n.toNat then do
     let s ← loadBytes ⟨g, o, none⟩ .empty n.toNat
     freeze ⟨g, o, none⟩ n.toNat
     pure (.string s)
    else unsupported (.unsafePointer "String: not so many bytes at ptr")) := rfl
 rw [vk]
 have wq : IntKind.i64.max = 9223372036854775807 := rfl
 have w7 : ¬ (ns.length : Int) < 0 := by omega
 simp [asInt, asIntOf, wq, uW, w7, hl, variablesAt, Ve, elemOf, Aj w hp, wg, wa]
theorem AE8 {ρ : AF} {S S' : St} {w : World} (hs : AO P w0 ρ S w) {ty : TypeId} {ts : Array TypeId} {p p' v : Value} {i : Int} (h : dN P ts.toList p i S = some (v, S')) (hp : VR ρ p p') :
  F6 P w0 ρ v S' ((Builtin.unsafeString_ ts ty #[p', .int .i64 i]).run P w) := by
 unfold dN at h
 split at h
 ·rename_i pt it a Bv
  have ht : ts = #[pt, it] := by apply Array.ext'; simpa using Bv
  subst ht
  split at h
  ·cases h
   have xH : ∃ a', p' = .pointer a' := by cases hp <;> exact ⟨_, rfl⟩
   obtain ⟨a', rfl⟩ := xH
   exact .same hs (Lib.run_unsafeString_none w pt it ty a') (.string _)
  ·rename_i m
   split at h
   ·rename_i b o
    split at h
    ·rename_i t c e kin hu hB
     cases hc : (Nat.beq t e && !(Nat.beq e 0) && Nat.beq (P.cellsOf e) 1 && Nat.blt m 1000000) with
     | false => rw [hc] at h; cases h
     | true =>
      rw [hc] at h
      simp only [cond_true] at h
      simp only [Bool.and_eq_true, Bool.not_eq_true'] at hc
      obtain ⟨⟨⟨h1, h2⟩, h3⟩, h4⟩ := hc
      have xz := BV h1
      subst xz
      have NL : t ≠ 0 := fun e0 => by rw [e0] at h2; exact absurd h2 (by simp [Nat.beq_refl])
      have hm := HA h4
      split at h
      ·rename_i l hl
       split at h
       ·rename_i bs H5
        cases h
        cases hp with
        | ptr hb =>
         rename_i L
         obtain ⟨arr, e', fz, g1, g2, g3, g4, g5⟩ := hs.CR _ _ _ hb hB
         have vt := g5.2.2 (.inl rfl) NL
         subst vt
         obtain ⟨l1, l2, l3⟩ := IS _ _ _ hl
         rw [HM] at l2 l3
         have Dm : ∀ j v, l[j]? = some v → ∃ v', arr[L.d + o + j]? = some v' ∧ VR ρ v v' := by
          intro j v hv
          rw [l3, List.getElem?_take, List.getElem?_drop] at hv
          split at hv
          ·obtain ⟨v', x1, x2⟩ := g3 _ _ hv
           exact ⟨v', by rw [Nat.add_assoc]; exact x1, x2⟩
          cases hv
         have Nb : AI ρ l ((arr.toList.drop (L.d + o)).take (m + 1)) := by
          have hlen : L.d + o + (m + 1) ≤ arr.size := by
           obtain ⟨v', x1, _⟩ := Dm m _ (List.getElem?_eq_getElem (by omega))
           have := (Array.getElem?_eq_some_iff.1 x1).1
           omega
          refine ⟨by simp; omega, fun j v v' hv F0 => ?_⟩
          obtain ⟨u, x1, x2⟩ := Dm j v hv
          rw [List.getElem?_take, List.getElem?_drop, Array.getElem?_toList] at F0
          split at F0
          ·rw [x1] at F0; cases F0; exact x2
          cases F0
         obtain ⟨ns, e1, e2⟩ := Xf _ _ _ H5 Nb
         have CI : ns.length = m + 1 := by
          have := congrArg List.length e1
          rw [← Nb.1] at this
          simp at this; omega
         have SM : ∀ j n, ns[j]? = some n → w.cell? ⟨L.r, o + L.d + j, none⟩ = some (.int .u8 n) := by
          intro j n hj
          have : ((arr.toList.drop (L.d + o)).take (m + 1))[j]? = some (.int .u8 n) := by rw [e1]; simp [hj]
          rw [List.getElem?_take, List.getElem?_drop, Array.getElem?_toList] at this
          split at this
          ·unfold World.cell?
           simp only [g1]
           rw [show o + L.d + j = L.d + o + j by omega]
           exact this
          cases this
         have Ay : o + L.d + ns.length ≤ arr.size := by
          obtain ⟨v', x1, _⟩ := Dm m _ (List.getElem?_eq_getElem (by omega))
          have := (Array.getElem?_eq_some_iff.1 x1).1
          omega
         have DH := ACE (P := P) w pt it ty _ hu (BV h3) L.r (o + L.d) arr.size (cE g1) ns (by intro e; rw [e] at CI; simp at CI) Ay (by omega) SM
         obtain ⟨YG, Be⟩ := uJ (o := o + L.d) (n := ns.length) g1 (by omega)
         have H7 := hs.put (B := .cells c _ true true kin) (B' := .cells c _ true false []) hb hB rfl Be ⟨arr, _, YG, rfl, g2, g3, (fun h => nomatch h), g5.1, g5.2.1, fun _ _ => rfl⟩
         rw [CI] at DH
         refine ⟨ρ, _, _, DH, Ext.refl _, ?_, ?_⟩
         ·rw [← e2]; exact .string _
         rw [CI] at H7
         exact H7
       cases h
      cases h
    cases h
   cases h
  cases h
 cases h
set_option maxHeartbeats 8000000 in
theorem ABg {ts : Array TypeId} {sT xT ty elem : TypeId} {k kx : IntKind} {size n : Nat} {w : World} (h0 : ts[0]? = some sT) (h1 : ts[1]? = some xT) (hu : P.underlying sT = some (.slice elem))
  (hx : P.underlying xT = some (.int kx)) (Ay : A0 P elem = some size) {i : TypeInfo} {z : Value} (hi : P.info? elem = some i) (hz : zeroV P elem = some z) (hb : i.bytes ≤ 1024) (G3 : 0 < i.bytes) (hm : n ≤ AQ) (hn : 0 < n) (j7 : 0 < size) :
  ∃ BD, n ≤ BD ∧ (Builtin.append_ ts ty #[.slice none 0 0, .int k (Int.ofNat n)]).run P w =
   .ok (.slice (some ⟨w.heap.size, 0, none⟩) n BD) (w.drew.alloc (.cells (Builtin.zeroCells z.cells n ++ Builtin.zeroCells z.cells (BD - n)) elem)) := by
 have g1 := iK (need := n) (cap := 0) (bytes := i.bytes) hn hm hb
 have jh : n ≤ 1073741824 := hm
 have g2 : ¬ (9223372036854775807 < (n : Int)) := by omega
 have g3 : i.bytes ≠ 0 := by omega
 have g4 : IntKind.i64.wrap ((n : Nat) : Int) = (n : Int) := by
  rw [IntKind.wrap_i64]
  omega
 have g5 : ¬ (n : Int) < 0 := by omega
 have g6 : ¬ (281474976710656 < (n : Int) * (i.bytes : Int)) := by
  have : n * i.bytes ≤ 1073741824 * 1024 := Nat.mul_le_mul jh hb
  have h2 : (n : Int) * (i.bytes : Int) = ((n * i.bytes : Nat) : Int) := by rw [Int.natCast_mul]
  omega
 have g7 : ¬ (n = 0 ∨ size = 0) := by omega
 have g8 : n ≠ 0 := by omega
 refine ⟨(Question.appendCap n 0 elem).cut (w.tape w.drawn (.appendCap n 0 elem)), by simp [Question.cut], ?_⟩
 have Oy := Jo w.drew hz
 simp [Builtin.append_, h0, h1, Aj w hu, Aj w hx, Ek w Ay, asInt, asIntOf, g4, g5, g6, g8, LY w hi, LY w.drew hi, g1, g2, Question.forced, Oy, newRow, Builtin.firstCells]
 intro h9
 exact absurd (Nat.mul_eq_zero.1 h9) g7
theorem qN {ρ : AF} {S S' : St} {w : World} (hs : AO P w0 ρ S w) {ts : Array TypeId} {ty : TypeId} {s s' x x' v : Value} (h : Ub P ts.toList s x S = some (v, S')) (Ix : VR ρ s s') (hx : VR ρ x x') :
  F6 P w0 ρ v S' ((Builtin.append_ ts ty #[s', x']).run P w) := by
 unfold Ub at h
 split at h
 ·rename_i sT xT rest k n Bv
  have Gm : ts[0]? = some sT := by rw [← Array.getElem?_toList, Bv]; rfl
  have Vf : ts[1]? = some xT := by rw [← Array.getElem?_toList, Bv]; rfl
  split at h
  ·rename_i elem kx hu TA
   split at h
   ·rename_i size z0 Ay F2
    cases hg : (Nat.blt 0 n && KB P elem size n) with
    | false => rw [hg] at h; cases h
    | true =>
     rw [hg] at h
     simp only [cond_true, Option.some.injEq] at h
     rw [Bool.and_eq_true] at hg
     obtain ⟨ei, z, EK, hz, EJ, CB, G7, TD, Oq⟩ := iJ hg.2
     rw [F2] at hz
     cases hz
     cases Ix; cases hx
     have hn := HA hg.1
     obtain ⟨BD, FV, DH⟩ := ABg (P := P) (ty := ty) (k := k) (w := w) Gm Vf hu TA Ay EK F2 EJ CB G7 hn Oq
     have KS := UI (ρ := ρ) F2 n (n * z0.cells.size) rfl
     have TC : z0.cells.size = size := TD
     have e1 : LQ S (Dp n (AP z0)) elem n n = (v, S') := h
     obtain ⟨ρ', b1, b2, b3⟩ := TR hs.drew (c := Dp n (AP z0)) (arr := (Builtin.zeroCells z0.cells n ++ Builtin.zeroCells z0.cells (BD - n))) (e := elem) (e' := elem) (z := size) (fun i y hy => by
      obtain ⟨y', p1, p2⟩ := KS.get hy
      refine ⟨y', ?_, p2⟩
      have hi := (List.getElem?_eq_some_iff.1 p1).1
      have h3 : (Builtin.zeroCells z0.cells n)[i]? = some y' := by rw [← Array.getElem?_toList]; exact p1
      rw [Array.getElem?_append_left (Array.getElem?_eq_some_iff.1 h3).1]
      exact h3) (fun _ => rfl) Ay (n := n) (k := n) (k' := BD) (Nat.le_refl _) FV (fun _ => by
       simp only [Array.size_append, size_zeroCells, TC]
       have : BD * size = n * size + (BD - n) * size := by rw [← Nat.add_mul]; congr 1; omega
       omega)
     rw [e1] at b2 b3
     exact ⟨ρ', _, _, DH, b1, b3, b2⟩
   cases h
  cases h
 cases h
theorem tj {ρ : AF} {S : St} {w : World} (hs : AO P w0 ρ S w) {b : Nat} {L M : Loc} (hb : ρ b = some L) : BB ρ S.size M b = some L := by
 unfold BB
 have := (hs.DC b L hb).1
 rw [if_neg (by omega)]
 exact hb
theorem ABE {ρ : AF} {S S' : St} {w : World} (hs : AO P w0 ρ S w) {t : TypeId} {x x' v : Value} (h : bD P t x S = some (v, S')) (hx : VR ρ x x') : F6 P w0 ρ v S' ((Instr.range t x').run P w) := by
 unfold bD at h
 split at h
 ·rename_i key elem r hu
  split at h
  ·rename_i clock hB
   cases h
   cases hx with
   | map hb =>
    rename_i L
    obtain ⟨Ax, h1, h2⟩ := hs.CR _ _ _ hb hB
    obtain ⟨a, b⟩ := hs.add (B := .QZ r) (o := .mapIter (some L.r) clock #[] clock) (L := ⟨w.heap.size, 0, 0, 0⟩) rfl ⟨L, clock, clock, tj hs hb, rfl, rfl⟩
    refine ⟨_, .pointer (some ⟨w.heap.size, 0, none⟩), _, ?_, a, VR.ptr (L := ⟨w.heap.size, 0, 0, 0⟩) (JB _ _ _), b⟩
    have hg : (getObj L.r).run P w = .ok (.map Ax.toArray clock) w := by simp [getObj, Sem.run, h1]
    simp [Instr.range, Aj w hu, hg]
  cases h
 cases h
theorem AAY {ρ : AF} {S S' : St} {w : World} (hs : AO P w0 ρ S w) {ty : TypeId} {b : Bool} {x x' v : Value} (h : aK x b S = some (v, S')) (hx : VR ρ x x') : F6 P w0 ρ v S' ((Instr.next x' b ty).run P w) := by
 unfold aK at h
 split at h
 ·rename_i r
  split at h
  ·rename_i m hB
   split at h
   ·rename_i clock hM
    cases h
    cases hx with
    | ptr hb =>
     rename_i L
     obtain ⟨M, since, last, hm, uq, ho⟩ := hs.CR _ _ _ hb hB
     obtain ⟨Ax, h1, h2⟩ := hs.CR _ _ _ hm hM
     have he : Ax = [] := List.length_eq_zero_iff.1 h2.1.symm
     subst he
     have Yu : (getObj L.r).run P w = .ok (.mapIter (some M.r) since #[] last) w := by simp [getObj, Sem.run, ho]
     have SQ : (getObj M.r).run P w = .ok (.map #[] clock) w := by simp [getObj, Sem.run, h1]
     refine ⟨ρ, .tuple #[.bool false], w, ?_, Ext.refl _, VR.tuple' (AI.cons (.bool false) AI.nil), hs⟩
     rw [uq]
     have hf : (Question.mapNext 1).forced = true := rfl
     simp [Instr.next, Yu, SQ, hf]
   cases h
  cases h
 cases h
theorem bY {o : Oper} (g : Operand → Value) {b : Builtin} {args : Array Operand} {ts : Array TypeId} (ho : o.op = .call { callee := .builtin b, args := args, argTypes := ts }) (w : World) :
  ∃ cs, (execOp g o).run P w = (builtin b ts o.type cs (args.map g)).run P w := by
 simp only [execOp, ho, resolve, invoke, Sem.run_bind, Sem.run_pure]
 exact ⟨_, rfl⟩
theorem qS {args : Array Operand} {x : Operand} (h : args.toList = [x]) : args = #[x] := by
 apply Array.ext'; simpa using h
theorem m6 {ρ : AF} {S : St} {w : World} (hs : AO P w0 ρ S w) {o : Oper} {f g : Operand → Value} (Aa : ∀ x, x ∈ o.op.operands → VR ρ (f x) (g x)) {v : Value} (h : Cl P f o.op S = some v) :
  ∃ v', (execOp g o).run P w = .ok (.value v') w ∧ VR ρ v v' := by
 generalize ho : o.op = op at h Aa
 unfold Cl at h
 split at h
 ·rename_i t a
  obtain ⟨v', p, q⟩ := Zz hs h (Aa a (by simp [Op.operands]))
  exact ⟨v', by simp [execOp, ho, p], q⟩
 ·rename_i t x lo hi mx
  obtain ⟨v', p, q⟩ := ACV hs h (Aa x (by simp [Op.operands])) (Jy.map fun o e => Aa o (by subst e; simp [Op.operands])) (Jy.map fun o e => Aa o (by subst e; simp [Op.operands])) (Jy.map fun o e => Aa o (by subst e; simp [Op.operands]))
  exact ⟨v', by simp [execOp, ho, p], q⟩
 ·rename_i t x i ok
  obtain ⟨v', p, q⟩ := zl hs h (Aa x (by simp [Op.operands])) (Aa i (by simp [Op.operands]))
  exact ⟨v', by simp [execOp, ho, p], q⟩
 ·rename_i args ts
  split at h
  ·rename_i x t rest ha ht
   have vF := qS ha
   subst vF
   have Gm : ts[0]? = some t := by rw [← Array.getElem?_toList, ht]; rfl
   obtain ⟨p, q⟩ := ko (ty := o.type) hs h (Aa x (by simp [Op.operands, Call.operands])) Gm
   refine ⟨v, ?_, q.refl ρ⟩
   obtain ⟨cs, e⟩ := bY (P := P) g ho w
   rw [e]
   simp [builtin, p]
  cases h
 subst ho
 exact AA9 Aa h w
def La (P : Program) (w0 : Bn) (ρ : AF) (v : Value) (S' : St) (r : Result Next) : Prop :=
 ∃ ρ' v' w', (r = .ok (.value v') w' ∨ (r = .ok .skip w' ∧ v' = undef)) ∧ Ext ρ ρ' ∧ VR ρ' v v' ∧ AO P w0 ρ' S' w'
theorem La.F5 {ρ : AF} {v : Value} {S' : St} {s : Sem Value} {w : World} (h : F6 P w0 ρ v S' (s.run P w)) {r : Result Next} (hr : r = ((do pure (Next.value (← s)) : Sem Next)).run P w) : La P w0 ρ v S' r := by
 obtain ⟨ρ', v', w', a, b, c, d⟩ := h
 refine ⟨ρ', v', w', .inl ?_, b, c, d⟩
 rw [hr, Sem.run_bind, a]; rfl
theorem La.V1 {ρ : AF} {S' : St} {s : Sem Unit} {w w' : World} (h : s.run P w = .ok () w') (hs : AO P w0 ρ S' w') {r : Result Next} (hr : r = ((do s; pure Next.skip : Sem Next)).run P w) : La P w0 ρ undef S' r := by
 refine ⟨ρ, undef, w', .inr ⟨?_, rfl⟩, Ext.refl _, VR.undef _, hs⟩
 rw [hr, Sem.run_bind, h]; rfl
theorem mK {ρ : AF} {f g : Operand → Value} {parts : Array (Nat × Operand)} (h : ∀ x, x ∈ (parts.toList.map (·.2)).toArray → VR ρ (f x) (g x)) : JH ρ (Kc f parts.toList) (parts.map fun (i, x) => (i, g x)).toList := by
 refine ⟨by simp [Kc], ?_⟩
 simp only [Kc, List.map_map, Array.toList_map]
 have := AI.Ng (ρ := ρ) (f := f) (g := g) (parts.toList.map (·.2)) (fun x hx => h x (by simpa using hx))
 simpa [List.map_map, Function.comp_def] using this
theorem ll {ρ : AF} {S S' : St} {w : World} (hs : AO P w0 ρ S w) {o : Oper} {f g : Operand → Value} (Aa : ∀ x, x ∈ o.op.operands → VR ρ (f x) (g x)) {v : Value} (h : C1 P f o.op S = some (v, S')) :
  La P w0 ρ v S' ((execOp g o).run P w) := by
 cases ho : o.op <;> rw [ho] at h Aa
 case alloc e =>
  simp only [C1] at h
  split at h
  ·rename_i z hz
   cases h
   exact .F5 (qE hs hz) (by simp only [execOp, ho])
  cases h
 case box e x =>
  simp only [C1] at h
  cases h
  exact .F5 (sA hs (Aa x (by simp [Op.operands]))) (by simp only [execOp, ho])
 case buildSlice t len parts =>
  exact .F5 (sI hs h (mK (by simpa [Op.operands] using Aa))) (by simp only [execOp, ho])
 case makeMap t r =>
  cases r with
  | some x => simp [C1] at h
  | none =>
   simp only [C1] at h
   cases h
   obtain ⟨ρ', a, b, c⟩ := lk hs
   exact ⟨ρ', _, _, .inl (by simp [execOp, ho, Instr.makeMap]), a, b, c⟩
 all_goals simp [C1] at h
theorem F6.of_same {ρ : AF} {S : St} {w : World} {v v' : Value} {s : Sem Value} (hs : AO P w0 ρ S w) (h : s.run P w = .ok v' w) (hv : VR ρ v v') : F6 P w0 ρ v S (s.run P w) :=
 ⟨ρ, v', w, h, Ext.refl _, hv, hs⟩
theorem ep {ρ : AF} {f g : Operand → Value} {args : Array Operand} (h : ∀ x, x ∈ args → VR ρ (f x) (g x)) : AI ρ (args.toList.map f) (args.map g).toList := by
 rw [Array.toList_map]
 exact AI.Ng args.toList fun x hx => h x (by simpa using hx)
theorem fN {ρ : AF} {S S' : St} {w : World} (hs : AO P w0 ρ S w) {o : Oper} {f g : Operand → Value} {b : Builtin} {args : Array Operand} {ts : Array TypeId}
  (ho : o.op = .call { callee := .builtin b, args := args, argTypes := ts }) (Aa : ∀ x, x ∈ args → VR ρ (f x) (g x)) {v : Value} (h : Dj P b ts.toList (args.toList.map f) S = some (v, S')) :
  La P w0 ρ v S' ((execOp g o).run P w) := by
 obtain ⟨cs, e⟩ := bY (P := P) g ho w
 rw [e]
 have hv := ep Aa
 generalize ha : args.toList.map f = l at h hv
 generalize hg : args.map g = ga at hv e ⊢
 unfold Dj at h
 split at h
 ·rename_i x
  split at h
  ·rename_i t rest Bv
   obtain ⟨x', r', Ey, hx, hr⟩ := hv.cons_inv
   cases hr.Hd
   have HZ : ga = #[x'] := by apply Array.ext'; simpa using Ey
   subst HZ
   have Gm : ts[0]? = some t := by rw [← Array.getElem?_toList, Bv]; rfl
   cases hl : G' P t x S with
   | none => rw [hl] at h; cases h
   | some u =>
    rw [hl] at h
    cases h
    obtain ⟨p, q⟩ := ko (ty := o.type) hs hl hx Gm
    exact .F5 (.of_same hs p (q.refl ρ)) (by simp [builtin])
  cases h
 ·rename_i s x
  obtain ⟨s', r', Ey, Ix, hr⟩ := hv.cons_inv
  obtain ⟨x', WB, rfl, hx, EL⟩ := hr.cons_inv
  cases EL.Hd
  have HZ : ga = #[s', x'] := by apply Array.ext'; simpa using Ey
  subst HZ
  split at h
  ·rename_i r NW
   obtain ⟨v1, S1⟩ := r
   cases h
   exact .F5 (qP (ty := o.type) hs NW Ix hx) (by simp [builtin])
  exact .F5 (qN (ty := o.type) hs h Ix hx) (by simp [builtin])
 ·rename_i x r
  obtain ⟨x', r', Ey, hx, hr⟩ := hv.cons_inv
  cases hm : Nh false x r with
  | none => rw [hm] at h; cases h
  | some u =>
   rw [hm] at h
   cases h
   obtain ⟨v', p, q⟩ := Z' (P := P) (ty := o.type) (ts := ts) r r' x x' _ hm hx hr w
   exact .F5 (s := Builtin.min_ ts o.type ga) (.of_same hs (by unfold Builtin.min_; rw [Ey]; simpa using p) q) (by simp [builtin])
 ·rename_i x r
  obtain ⟨x', r', Ey, hx, hr⟩ := hv.cons_inv
  cases hm : Nh true x r with
  | none => rw [hm] at h; cases h
  | some u =>
   rw [hm] at h
   cases h
   obtain ⟨v', p, q⟩ := Z' (P := P) (ty := o.type) (ts := ts) r r' x x' _ hm hx hr w
   exact .F5 (s := Builtin.max_ ts o.type ga) (.of_same hs (by unfold Builtin.max_; rw [Ey]; simpa using p) q) (by simp [builtin])
 ·rename_i s x
  obtain ⟨s', r', Ey, Ix, hr⟩ := hv.cons_inv
  obtain ⟨x', WB, rfl, hx, EL⟩ := hr.cons_inv
  cases EL.Hd
  have HZ : ga = #[s', x'] := by apply Array.ext'; simpa using Ey
  subst HZ
  exact .F5 (tF (ty := o.type) hs h Ix hx) (by simp [builtin])
 ·rename_i x
  obtain ⟨x', r', Ey, hx, hr⟩ := hv.cons_inv
  cases hr.Hd
  have HZ : ga = #[x'] := by apply Array.ext'; simpa using Ey
  subst HZ
  exact .F5 (su (ty := o.type) hs h hx) (by simp [builtin])
 ·rename_i x
  split at h
  ·rename_i t rest Bv
   split at h
   ·rename_i e hu
    cases h
    obtain ⟨x', r', Ey, hx, hr⟩ := hv.cons_inv
    cases hr.Hd
    have HZ : ga = #[x'] := by apply Array.ext'; simpa using Ey
    subst HZ
    have Gm : ts[0]? = some t := by rw [← Array.getElem?_toList, Bv]; rfl
    cases hx
    exact .F5 (s := Builtin.cap_ ts o.type #[.slice none 0 0]) (.of_same hs (by simp [Builtin.cap_, Gm, Aj w hu, goInt]) (.int _ _)) (by simp [builtin])
   cases h
  cases h
 ·rename_i x
  split at h
  ·cases h
   obtain ⟨x', r', Ey, hx, hr⟩ := hv.cons_inv
   cases hr.Hd
   have HZ : ga = #[x'] := by apply Array.ext'; simpa using Ey
   subst HZ
   cases hx
   exact .F5 (s := Builtin.unsafeSliceData_ ts o.type #[.slice none 0 0]) (.of_same hs rfl .LU) (by simp [builtin])
  ·rename_i b oo n c
   cases h
   obtain ⟨x', r', Ey, hx, hr⟩ := hv.cons_inv
   cases hr.Hd
   have HZ : ga = #[x'] := by apply Array.ext'; simpa using Ey
   subst HZ
   cases hx with
   | slice hb hn hc hr ho =>
    rename_i o' c' L
    have FV : c' ≠ 0 := by omega
    rcases ho with ho | ho
    ·subst ho
     refine .F5 (s := Builtin.unsafeSliceData_ ts o.type #[.slice (some ⟨L.r, oo + L.d, none⟩) n c']) (.of_same hs ?_ (.ptr hb)) (by simp [builtin])
     have : Builtin.unsafeSliceData_ ts o.type #[.slice (some ⟨L.r, oo + L.d, none⟩) n c'] = (do
      if c' ≠ 0 then pure (.pointer (some ⟨L.r, oo + L.d, none⟩))
      else if (← viewAt L.r).isSome then pure (.pointer (some ⟨L.r, oo + L.d, none⟩))
      else pure (.pointer (some ⟨← newObj (.view ⟨L.r, oo + L.d, none⟩ (← elemOf o.type)), 0, none⟩))) := rfl
     rw [this, if_pos FV]
     rfl
    exact absurd ho FV
  cases h
 ·rename_i p n
  split at h
  ·rename_i i
   obtain ⟨p', r', Ey, hp, hr⟩ := hv.cons_inv
   obtain ⟨n', WB, rfl, hn, EL⟩ := hr.cons_inv
   cases EL.Hd
   cases hn
   have HZ : ga = #[p', .int .i64 i] := by apply Array.ext'; simpa using Ey
   subst HZ
   exact .F5 (AE8 (ty := o.type) hs h hp) (by simp [builtin])
  cases h
 cases h
theorem jN {ρ : AF} {S S' : St} {w : World} (hs : AO P w0 ρ S w) {o : Oper} {f g : Operand → Value} (Aa : ∀ x, x ∈ o.op.operands → VR ρ (f x) (g x)) {v : Value} (h : JW P f o.op S = some (v, S')) :
  La P w0 ρ v S' ((execOp g o).run P w) := by
 generalize ho : o.op = op at h Aa
 unfold JW at h
 split at h
 ·rename_i t a x
  split at h
  ·rename_i S1 Ag
   cases h
   obtain ⟨w', p, q⟩ := AEZ hs Ag (Aa a (by simp [Op.operands])) (Aa x (by simp [Op.operands]))
   exact .V1 p q (by simp only [execOp, ho])
  cases h
 ·rename_i s d x
  exact .F5 (tD hs h (Aa x (by simp [Op.operands]))) (by simp only [execOp, ho])
 ·rename_i t r
  split at h
  ·rename_i key elem k n hu hr
   cases h
   have hx := Aa r (by simp [Op.operands])
   rw [hr] at hx
   generalize NM : g r = gr at hx
   cases hx
   obtain ⟨ρ', a, b, c⟩ := lk hs
   exact ⟨ρ', _, _, .inl (by simp [execOp, ho, Instr.makeMap, NM, Aj w hu, asInt, asIntOf]), a, b, c⟩
  cases h
 ·rename_i t l c
  exact .F5 (z7 hs h (Aa l (by simp [Op.operands])) (Aa c (by simp [Op.operands]))) (by simp only [execOp, ho])
 ·rename_i t x
  exact .F5 (ABE hs h (Aa x (by simp [Op.operands]))) (by simp only [execOp, ho])
 ·rename_i it s
  exact .F5 (AAY (ty := o.type) hs h (Aa it (by simp [Op.operands]))) (by simp only [execOp, ho])
 ·rename_i t m k x
  split at h
  ·rename_i S1 Ag
   cases h
   obtain ⟨w', p, q⟩ := lM hs Ag (Aa m (by simp [Op.operands])) (Aa k (by simp [Op.operands])) (Aa x (by simp [Op.operands]))
   exact .V1 p q (by simp only [execOp, ho])
  cases h
 ·rename_i t m k x
  split at h
  ·rename_i S1 Ag
   cases h
   obtain ⟨w', p, q⟩ := lM hs Ag (Aa m (by simp [Op.operands])) (Aa k (by simp [Op.operands])) (Aa x (by simp [Op.operands]))
   exact .V1 p q (by simp only [execOp, ho])
  cases h
 ·rename_i t m k
  exact .F5 (z' hs h (Aa m (by simp [Op.operands])) (Aa k (by simp [Op.operands]))) (by simp only [execOp, ho])
 ·rename_i t m s x
  split at h
  ·rename_i S1 Ag
   cases h
   obtain ⟨w', p, q⟩ := tY (t := t) hs Ag (Aa m (by simp [Op.operands])) (Aa s (by simp [Op.operands])) (Aa x (by simp [Op.operands]))
   exact .V1 p q (by simp only [execOp, ho])
  cases h
 ·rename_i b args ts
  exact fN hs ho (fun x hx => Aa x (by simp [Op.operands, Call.operands]; exact hx)) h
 cases h
end Go.Cm
namespace Go.Cm
open Go
variable {P : Program} {w0 : Bn} {K : A1}
def UO (ρ : AF) (d d' : Deferred) : Prop :=
 (∃ r L, d.target = .collected r ∧ ρ r = some L ∧ d'.target = .collected L.r) ∨
 (∃ f cap BD, d.target = .fn (.func f) cap ∧ d'.target = .fn (.func f) BD ∧ AI ρ cap.toList BD.toList ∧ AI ρ d.args.toList d'.args.toList)
theorem UO.mono {ρ ρ' : AF} (e : Ext ρ ρ') {d d' : Deferred} (h : UO ρ d d') : UO ρ' d d' := by
 rcases h with ⟨r, L, a, b, c⟩ | ⟨f, c, c', a, b, p, q⟩
 ·exact .inl ⟨r, L, a, e _ _ b, c⟩
 exact .inr ⟨f, c, c', a, b, p.mono e, q.mono e⟩
inductive Ho (ρ : AF) : List Deferred → List Deferred → Prop
 | nil : Ho ρ [] []
 | cons {d d' : Deferred} {l l' : List Deferred} (h : UO ρ d d') (k : Ho ρ l l') : Ho ρ (d :: l) (d' :: l')
theorem Ho.mono {ρ ρ' : AF} (e : Ext ρ ρ') {l l' : List Deferred} (h : Ho ρ l l') : Ho ρ' l l' := by
 induction h with
 | nil => exact .nil
 | cons h _ ih => exact .cons (h.mono e) ih
theorem Ho.append {ρ : AF} {a a' b b' : List Deferred} (h : Ho ρ a a') (k : Ho ρ b b') : Ho ρ (a ++ b) (a' ++ b') := by
 induction h with
 | nil => exact k
 | cons h _ ih => exact .cons h ih
structure CP (ρ : AF) (a : Ca) (ar : Act) : Prop where
 le : a.n ≤ 256
 tm : Kv ρ a.n a.t ar.tmps
 df : Ho ρ a.defers ar.defers
theorem CP.mono {ρ ρ' : AF} (e : Ext ρ ρ') {a : Ca} {ar : Act} (h : CP ρ a ar) : CP ρ' a ar := ⟨h.le, h.tm.mono e, h.df.mono e⟩
theorem get_eq (a : Ca) (i : Nat) : a.get i = M6 a.t i := rfl
theorem CP.get {ρ : AF} {a : Ca} {ar : Act} (h : CP ρ a ar) (i : Nat) : VR ρ (a.get i) (ar.tmps.getD i undef) := h.tm.2 i
theorem Kv.set {ρ : AF} {n : Nat} {t : Tm} {tmps : Array Value} (h : Kv ρ n t tmps) {d : Nat} (hd : d < n) (hn : n ≤ 256) {v v' : Value} (hv : VR ρ v v') : Kv ρ n (PT.set t d (some v)) (tmps.setIfInBounds d v') := by
 refine ⟨by simpa using h.1, fun i => ?_⟩
 have hg : M6 (PT.set t d (some v)) i = if i = d then v else M6 t i := by
  unfold M6
  rw [PT.U8 _ _ _ (by omega)]
  by_cases e : i = d
  ·simp [e]
  simp [e]
 rw [hg, Array.getD_eq_getD_getElem?, Array.getElem?_setIfInBounds]
 by_cases e : i = d
 ·subst e
  simp [h.1, hd, hv]
 rw [if_neg e, if_neg (fun h => e h.symm), ← Array.getD_eq_getD_getElem?]
 exact h.2 i
theorem CP.put {ρ : AF} {a a' : Ca} {ar : Act} (h : CP ρ a ar) {dst : Option Tmp} {v v' : Value} (hp : a.put dst v = some a') (hv : VR ρ v v') : CP ρ a' (ar.put dst v') := by
 unfold Ca.put at hp
 cases dst with
 | none => simp at hp; subst hp; exact h
 | some d =>
  simp only at hp
  cases hb : Nat.blt d a.n with
  | false => rw [hb] at hp; cases hp
  | true =>
   rw [hb] at hp
   simp only [cond_true, Option.some.injEq] at hp
   subst hp
   exact ⟨h.le, h.tm.set (HA hb) h.le hv, h.df⟩
theorem tb {ρ : AF} {S : St} {w : World} (hs : AO P w0 ρ S w) {a : Ca} {ar : Act} (h : CP ρ a ar) {x : Operand} (hx : (match x with
  | .const v => DM Lu v
  | .global g => Nat.blt g P.globals.size
  | _ => true) = true) : VR ρ (a.ev x) (ar.eval x) := by
 cases x with
 | tmp t => exact h.get t
 | const v => exact (Lv _ _ hx).refl ρ
 | func f => exact (Flat.func f).refl ρ
 | global g =>
  obtain ⟨L, h1, h2, h3⟩ := hs.J' g (HA hx)
  have := VR.ptr (o := 0) h1
  rw [h2, h3] at this
  exact this
theorem UF {ρ : AF} {a : Ca} {ar : Act} (h : CP ρ a ar) {ops : Array Oper} {o : Oper} : CY ops.toList a o = Region.wanted o (yielded ops ar.tmps) := by
 cases hg : o.guard with
 | none => simp [CY, Region.wanted, hg]
 | some q =>
  obtain ⟨j, wnt⟩ := q
  simp only [CY, Region.wanted, hg, CD, Array.getElem?_toList, yielded]
  cases hj : ops[j]? with
  | none => simp
  | some oj =>
   simp only [Option.bind_some]
   cases hd : oj.dst with
   | none => simp
   | some d =>
    simp only [Option.bind_some]
    have hv := h.get d
    unfold Ca.get at hv
    cases hc : a.t.get d with
    | none =>
     rw [hc] at hv
     simp only at hv ⊢
     cases hr : ar.tmps[d]? with
     | none => simp
     | some x =>
      rw [Array.getD_eq_getD_getElem?, hr] at hv
      simp only [Option.getD_some] at hv
      cases x <;> first | rfl | (cases hv)
    | some v =>
     rw [hc] at hv
     simp only at hv
     cases hr : ar.tmps[d]? with
     | none =>
      rw [Array.getD_eq_getD_getElem?, hr] at hv
      simp only [Option.getD_none] at hv
      cases v <;> first | rfl | (cases hv)
     | some x =>
      rw [Array.getD_eq_getD_getElem?, hr] at hv
      simp only [Option.getD_some] at hv
      cases hv <;> first
       | rfl
       | (rename_i b; cases wnt <;> cases b <;> rfl)
end Go.Cm
