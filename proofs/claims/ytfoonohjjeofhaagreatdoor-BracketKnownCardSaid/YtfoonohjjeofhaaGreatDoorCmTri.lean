/-
  CM, part 24: runs in any number of stages, also within a region.
-/
import Derived.Test.YtfoonohjjeofhaaGreatDoorCmChunk
namespace Go.Cm
open Go
variable {P : Program} {w0 : Base} {K : Known}

/-- from a state on the code ends normally, at a state that L writes out -/
def Tri (P : Program) (w0 : Base) (c : Code) (a : Ca) (S : St) (L : Stg) : Prop :=
  ∀ (ρ : Rmap) (w : World) (ar : Act), Sim P w0 ρ S w → ActR ρ a ar → c.wpIn (FW none) 0 P (fun e ar1 w1 => e = .normal ∧ ∃ ρ1, Ext ρ ρ1 ∧ ActR ρ1 L.act ar1 ∧ Sim P w0 ρ1 L.st w1) ar w
/-- the same of operations of a region -/
def TriOps (P : Program) (w0 : Base) (ops : Array Oper) (l : List Oper) (a : Ca) (S : St) (L : Stg) : Prop :=
  ∀ (ρ : Rmap) (w : World) (ar : Act), Sim P w0 ρ S w → ActR ρ a ar → ∀ (Q : Exit → Act → World → Prop), (∀ ρ1 ar1 w1, Ext ρ ρ1 → ActR ρ1 L.act ar1 → Sim P w0 ρ1 L.st w1 → Q .normal ar1 w1) → wpListIn (FW none) 0 P ops Q l ar w

theorem tri_code {ih : Fns} (hih : FnsSound P w0 ih) {c : Code} {a : Ca} {S : St} {L : Stg} (h : litOk L (ih.exec none c a S) = true) : Tri P w0 c a S L := by
  obtain ⟨a1, S1, e, A, B⟩ := lit_sound (P := P) h
  intro ρ w ar hs ha
  refine wpIn_mono (hih.exec none c _ _ _ _ _ e ρ w ar none hs ha (.inl ⟨rfl, rfl⟩)) ?_
  rintro e2 ar2 w2 ⟨ρ2, h1, h2, h3, h4⟩
  cases h2
  exact ⟨rfl, ρ2, h1, A _ _ h3, B _ _ _ h4⟩

theorem tri_seq {x y : Code} {a : Ca} {S : St} {L1 L2 : Stg} (h : Tri P w0 x a S L1) (k : Tri P w0 y L1.act L1.st L2) : Tri P w0 (.seq x y) a S L2 := by
  intro ρ w ar hs ha
  refine wpIn_seq (wpIn_mono (h ρ w ar hs ha) ?_)
  rintro e ar1 w1 ⟨rfl, ρ1, h1, h2, h3⟩
  refine wpIn_mono (k ρ1 w1 ar1 h3 h2) ?_
  rintro e2 ar2 w2 ⟨rfl, ρ2, k1, k2, k3⟩
  exact ⟨rfl, ρ2, h1.trans k1, k2, k3⟩

/-- runOps_sound, with more operations behind -/
theorem runOps_more {ih : Fns} (hih : FnsSound P w0 ih) {ops : Array Oper} {ro : Option Nat} {a1 : Ca} {S1 : St} {Q : Exit → Act → World → Prop} {more : List Oper} :
    ∀ (l : List Oper) (a : Ca) (S : St), runOps P ih ops.toList l a S = some (.normal, a1, S1) → (∀ o, o ∈ l → OpC P o) → ∀ (ρ : Rmap) (w : World) (ar : Act), Sim P w0 ρ S w → ActR ρ a ar →
      (∀ ρ1 ar1 w1, Ext ρ ρ1 → ActR ρ1 a1 ar1 → Sim P w0 ρ1 S1 w1 → wpListIn (FW ro) 0 P ops Q more ar1 w1) → wpListIn (FW ro) 0 P ops Q (l ++ more) ar w
  | [], a, S, h, _, ρ, w, ar, hs, ha, hQ => by
    simp only [runOps, Option.some.injEq, Prod.mk.injEq, true_and] at h
    obtain ⟨rfl, rfl⟩ := h
    exact hQ ρ ar w (Ext.refl _) ha hs
  | o :: rest, a, S, h, hc, ρ, w, ar, hs, ha, hQ => by
    unfold runOps at h
    have hwant := wanted_sound ha (ops := ops) (o := o)
    rw [List.cons_append]
    unfold wpListIn
    rw [← hwant]
    cases hw : wantedC ops.toList a o with
    | false =>
      rw [hw] at h
      simp only [cond_false] at h
      split at h
      · rename_i a2 hp
        simp only [Bool.false_eq_true, if_false]
        exact ⟨about_wide, runOps_more hih rest a2 S h (fun o ho => hc o (by simp [ho])) ρ w _ hs (ha.put hp (VR.undef _)) hQ⟩
      · cases h
    | true =>
      rw [hw] at h
      simp only [cond_true] at h
      simp only [if_true]
      refine ⟨about_wide, ?_⟩
      split at h
      · rename_i v S2 hst
        split at h
        · rename_i a2 hp
          refine step_sound hih hs (ha.evs hs (hc o (by simp))) hst ⟨?_, ?_⟩
          · intro v2 e2 ρ' v' w' h1 h2 h3
            cases e2
            exact runOps_more hih rest a2 S2 h (fun o ho => hc o (by simp [ho])) ρ' w' _ h3 ((ha.mono h1).put hp h2) (fun ρ1 ar1 w1 x y z => hQ ρ1 ar1 w1 (h1.trans x) y z)
          · intro c e2; cases e2
        · cases h
      · cases h
      · cases h

theorem triOps_nil {ops : Array Oper} {L : Stg} : TriOps P w0 ops [] L.act L.st L := fun ρ w ar hs ha _ hQ => hQ ρ ar w (Ext.refl _) ha hs

theorem triOps_app {ih : Fns} (hih : FnsSound P w0 ih) {ops : Array Oper} {l m : List Oper} {a : Ca} {S : St} {L1 L2 : Stg} (h : litOk L1 (runOps P ih ops.toList l a S) = true) (hc : constsOk P l = true)
    (k : TriOps P w0 ops m L1.act L1.st L2) : TriOps P w0 ops (l ++ m) a S L2 := by
  obtain ⟨a1, S1, e, A, B⟩ := lit_sound (P := P) h
  intro ρ w ar hs ha Q hQ
  refine runOps_more hih l a S e (constsOk_spec hc) ρ w ar hs ha fun ρ1 ar1 w1 x y z => ?_
  exact k ρ1 w1 ar1 (B _ _ _ z) (A _ _ y) Q fun ρ2 ar2 w2 p q r => hQ ρ2 ar2 w2 (x.trans p) q r

theorem tri_region {id : Nat} {ops : Array Oper} {a : Ca} {S : St} {L : Stg} (h : TriOps P w0 ops ops.toList a S L) : Tri P w0 (.region id ops false) a S L := by
  intro ρ w ar hs ha
  exact wpIn_region_list (h ρ w ar hs ha _ fun ρ1 ar1 w1 x y z => ⟨rfl, ρ1, x, y, z⟩)

/-- a function's end that returns true -/
def TriEnd (P : Program) (w0 : Base) (fn : Func) (c : Code) (a : Ca) (S : St) : Prop :=
  ∀ (ρ : Rmap) (w : World) (ar : Act), Sim P w0 ρ S w → ActR ρ a ar → c.wpIn (FW none) 0 P (fun e ar w => e = .ret ∧ LeavesInM Fence.wide 0 P fn ar.tmps (fun e w => e = .returned (.bool true) ∧ Kept w0.toWorld w) ar.defers .returning w) ar w

theorem triEnd_seq {fn : Func} {x y : Code} {a : Ca} {S : St} {L1 : Stg} (h : Tri P w0 x a S L1) (k : TriEnd P w0 fn y L1.act L1.st) : TriEnd P w0 fn (.seq x y) a S := by
  intro ρ w ar hs ha
  refine wpIn_seq (wpIn_mono (h ρ w ar hs ha) ?_)
  rintro e ar1 w1 ⟨rfl, ρ1, h1, h2, h3⟩
  exact k ρ1 w1 ar1 h3 h2

theorem triEnd_code {ih : Fns} (hih : FnsSound P w0 ih) {fn : Func} {c : Code} {a : Ca} {S : St} (h : endTrue P fn.results.toList (ih.exec none c a S) = true) : TriEnd P w0 fn c a S := by
  intro ρ w ar hs ha
  unfold endTrue at h
  split at h
  · rename_i a3 S3 hx
    refine wpIn_mono (hih.exec none c _ _ _ _ _ hx ρ w ar none hs ha (.inl ⟨rfl, rfl⟩)) ?_
    rintro e3 ar3 w3 ⟨ρ3, p1, p2, p3, p4⟩
    cases p2
    refine ⟨rfl, ?_⟩
    split at h
    · rename_i S4 htm
      split at h
      · rename_i hres
        refine takeMarks_sound (ρ := ρ3) (S2 := S4) (by simp) (fun w4 hw4 => ?_) a3.defers S3 ar3.defers w3 htm p3.df p4
        obtain ⟨vs', hv, hr⟩ := results_sound hw4 p3 hres
        obtain ⟨v', l', rfl, hv1, hv2⟩ := hv.cons_inv
        cases hv2.nil_inv
        cases hv1
        exact ⟨_, hr, rfl, hw4.kept⟩
      · cases h
    · cases h
  · cases h

/-- a function of no arguments, run in stages, that returns true -/
theorem tri_true {W : World} {f : FuncId} {fn : Func} {c : Code} (hf : P.funcs[f]? = some fn) (hb : fn.body = some c) (hnt : maxN fn.ntmps 0 ≤ 256) {G : List (Nat × List Value)}
    (h : TriEnd P ⟨W, fun _ => false⟩ fn c { n := maxN fn.ntmps 0, t := PT.nil 8, defers := [] } (startS G P.globals.size)) (hn : P.globals.size ≤ W.heap.size)
    (hG : ∀ g l, (g, l) ∈ G → ∃ (arr : Array Value) (e : TypeId) (fz : Nat × Nat), W.heap[g]? = some (.cells arr e fz) ∧ arr.toList = l) (hfl : ∀ g l, (g, l) ∈ G → ∀ v ∈ l, flatV flatN v = true) :
    Calls P f #[] W fun e w => e = .returned (.bool true) ∧ Kept W w := by
  have hsim := start_sim (P := P) hn hG hfl
  refine callsIn_wide.1 (callsIn_of_wp_marks (n := 0) hf hb trivial ?_)
  have hact := enter_act (ρ := startR P.globals.size W) (args := []) (args' := #[]) VRs.nil (n := fn.ntmps) hnt
  refine wpIn_mono (h _ W _ hsim hact) ?_
  rintro e ar w ⟨rfl, hl⟩
  exact hl

theorem fnsG_sound {W : World} (hm : P.follows .mixedOrders = true) (hK : KnownSound P K W) (n : Nat) : FnsSound P ⟨W, fun _ => false⟩ (fnsG P K n) := by
  rw [fnsG_eq]
  exact fns_sound hm hK n n (Nat.le_refl _) (fun _ => false)

/-! names for parts of a code -/
def hd : Code → Code
  | .seq a _ => a
  | c => c
def tl : Code → Code
  | .seq _ b => b
  | c => c
def rops : Code → Array Oper
  | .region _ ops _ => ops
  | _ => #[]
def rid : Code → Nat
  | .region i _ _ => i
  | _ => 0
def isSeq : Code → Bool
  | .seq _ _ => true
  | _ => false
theorem tri_hdtl {c : Code} (hs : isSeq c = true) {a : Ca} {S : St} {L1 L2 : Stg} (h : Tri P w0 (hd c) a S L1) (k : Tri P w0 (tl c) L1.act L1.st L2) : Tri P w0 c a S L2 := by
  cases c with
  | seq x y => exact tri_seq h k
  | _ => cases hs
theorem triEnd_hdtl {fn : Func} {c : Code} (hs : isSeq c = true) {a : Ca} {S : St} {L1 : Stg} (h : Tri P w0 (hd c) a S L1) (k : TriEnd P w0 fn (tl c) L1.act L1.st) : TriEnd P w0 fn c a S := by
  cases c with
  | seq x y => exact triEnd_seq h k
  | _ => cases hs
def tlN : Nat → Code → Code
  | 0, c => c
  | n + 1, c => tlN n (tl c)
def hds : Nat → Code → List Code
  | 0, _ => []
  | n + 1, c => hd c :: hds n (tl c)
def isSeqN : Nat → Code → Bool
  | 0, _ => true
  | n + 1, c => isSeq c && isSeqN n (tl c)
theorem tri_run {ih : Fns} (hih : FnsSound P w0 ih) {a1 : Ca} {S1 : St} {Q : Exit → Act → World → Prop} : ∀ (k : Nat) (c : Code), isSeqN k c = true → ∀ (a : Ca) (S : St), runSeq ih.exec (hds k c) a S = some (.normal, a1, S1) → ∀ (ρ : Rmap) (w : World) (ar : Act),
    Sim P w0 ρ S w → ActR ρ a ar → (∀ ρ1 ar1 w1, Ext ρ ρ1 → ActR ρ1 a1 ar1 → Sim P w0 ρ1 S1 w1 → (tlN k c).wpIn (FW none) 0 P Q ar1 w1) → c.wpIn (FW none) 0 P Q ar w
  | 0, c, _, a, S, h, ρ, w, ar, hs, ha, hk => by
    simp only [hds, runSeq, Option.some.injEq, Prod.mk.injEq, true_and] at h
    obtain ⟨rfl, rfl⟩ := h
    exact hk ρ ar w (Ext.refl _) ha hs
  | k + 1, c, hc, a, S, h, ρ, w, ar, hs, ha, hk => by
    simp only [isSeqN, Bool.and_eq_true] at hc
    cases c with
    | seq x y =>
      simp only [hds, hd, tl] at h
      unfold runSeq at h
      split at h
      · rename_i a2 S2 hx
        refine wpIn_seq (wpIn_mono (hih.exec none x _ _ _ _ _ hx ρ w ar none hs ha (.inl ⟨rfl, rfl⟩)) ?_)
        rintro e2 ar2 w2 ⟨ρ2, h1, h2, h3, h4⟩
        cases h2
        exact tri_run hih k y hc.2 a2 S2 h ρ2 w2 ar2 h4 h3 fun ρ1 ar1 w1 p q r => hk ρ1 ar1 w1 (h1.trans p) q r
      · rename_i hne
        exact absurd h (hne a1 S1)
    | _ => cases hc.1
theorem tri_hds {ih : Fns} (hih : FnsSound P w0 ih) {k : Nat} {c : Code} (hs : isSeqN k c = true) {a : Ca} {S : St} {L1 L2 : Stg} (h : litOk L1 (runSeq ih.exec (hds k c) a S) = true) (kk : Tri P w0 (tlN k c) L1.act L1.st L2) : Tri P w0 c a S L2 := by
  obtain ⟨a1, S1, e, A, B⟩ := lit_sound (P := P) h
  intro ρ w ar hsim ha
  refine tri_run hih k c hs a S e ρ w ar hsim ha fun ρ1 ar1 w1 x y z => wpIn_mono (kk ρ1 w1 ar1 (B _ _ _ z) (A _ _ y)) ?_
  rintro e2 ar2 w2 ⟨rfl, ρ2, k1, k2, k3⟩
  exact ⟨rfl, ρ2, x.trans k1, k2, k3⟩
theorem triEnd_hds {ih : Fns} (hih : FnsSound P w0 ih) {fn : Func} {k : Nat} {c : Code} (hs : isSeqN k c = true) {a : Ca} {S : St} {L1 : Stg} (h : litOk L1 (runSeq ih.exec (hds k c) a S) = true) (kk : TriEnd P w0 fn (tlN k c) L1.act L1.st) : TriEnd P w0 fn c a S := by
  obtain ⟨a1, S1, e, A, B⟩ := lit_sound (P := P) h
  intro ρ w ar hsim ha
  exact tri_run hih k c hs a S e ρ w ar hsim ha fun ρ1 ar1 w1 x y z => kk ρ1 w1 ar1 (B _ _ _ z) (A _ _ y)
def isText : Code → Bool
  | .region _ _ false => true
  | _ => false
theorem tri_rops {c : Code} (hs : isText c = true) {a : Ca} {S : St} {L : Stg} (h : TriOps P w0 (rops c) (rops c).toList a S L) : Tri P w0 c a S L := by
  cases c with
  | region id ops d =>
    cases d with
    | false => exact tri_region h
    | true => cases hs
  | _ => cases hs
/-- the operations from place i up to place j -/
def cutOps (c : Code) (i j : Nat) : List Oper := ((rops c).toList.drop i).take (j - i)
theorem triOps_cut {ih : Fns} (hih : FnsSound P w0 ih) {c : Code} {i j : Nat} (hij : Nat.ble i j = true) {a : Ca} {S : St} {L1 L2 : Stg} (h : litOk L1 (runOps P ih (rops c).toList (cutOps c i j) a S) = true) (hc : constsOk P (cutOps c i j) = true)
    (k : TriOps P w0 (rops c) ((rops c).toList.drop j) L1.act L1.st L2) : TriOps P w0 (rops c) ((rops c).toList.drop i) a S L2 := by
  have e : (rops c).toList.drop i = cutOps c i j ++ (rops c).toList.drop j := by
    have hij := Nat.le_of_ble_eq_true hij
    unfold cutOps
    conv => lhs; rw [← List.take_append_drop (j - i) ((rops c).toList.drop i)]
    rw [List.drop_drop]
    congr 2
    omega
  rw [e]
  exact triOps_app hih h hc k
theorem triOps_end {ih : Fns} (hih : FnsSound P w0 ih) {c : Code} {i : Nat} {a : Ca} {S : St} {L1 : Stg} (h : litOk L1 (runOps P ih (rops c).toList ((rops c).toList.drop i) a S) = true) (hc : constsOk P ((rops c).toList.drop i) = true) :
    TriOps P w0 (rops c) ((rops c).toList.drop i) a S L1 := by
  have := triOps_app hih h hc triOps_nil
  rw [List.append_nil] at this
  exact this
end Go.Cm
