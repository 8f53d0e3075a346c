/-
  The evaluator of the model, and that it is sound: part 5.
-/
import Derived.Test.YtblhfojaiipboaaGreatDoorCm4
namespace Go.Cm
open Go
variable {P : Program} {w0 : Base} {K : Known}
structure Stg where
 n : Nat
 vals : List Value
 blks : List (Nat × Blk)
 size : Nat
def Stg.act (L : Stg) : Ca := ⟨L.n, PT.ofList 0 (PT.nil 8) L.vals, []⟩
def litH : List (Nat × Blk) → Heap
 | [] => Heap.nil
 | (b, B) :: r => (litH r).set b (some B)
def Stg.st (L : Stg) : St := ⟨litH L.blks, L.size⟩
def sameNats : List Nat → List Nat → Bool
 | [], [] => true
 | a :: l, b :: r => Nat.beq a b && sameNats l r
 | _, _ => false
theorem sameNats_eq : ∀ a b : List Nat, sameNats a b = true → a = b
 | [], [], _ => rfl
 | [], _ :: _, h => by cases h
 | _ :: _, [], h => by cases h
 | a :: l, b :: r, h => by
  simp only [sameNats, Bool.and_eq_true] at h
  rw [of_nbeq h.1, sameNats_eq l r h.2]
def sameBlk : Blk → Blk → Bool
 | .cells c e r o k, .cells c' e' r' o' k' => sameL 100000 c c' && (Nat.beq e e' && ((r == r') && ((o == o') && sameNats k k')))
 | .map [] c, .map [] c' => Nat.beq c c'
 | _, _ => false
theorem sameBlk_eq (a b : Blk) (h : sameBlk a b = true) : a = b := by
 unfold sameBlk at h
 split at h
 ·simp only [Bool.and_eq_true] at h
  rw [sameL_eq _ _ _ h.1, of_nbeq h.2.1, eq_of_beq h.2.2.1, eq_of_beq h.2.2.2.1, sameNats_eq _ _ h.2.2.2.2]
 ·rw [of_nbeq h]
 ·cases h
def litOk (L : Stg) (r : Res3) : Bool := match r with
 | some (.normal, ⟨n, t, []⟩, S) => Nat.beq n L.n && ((List.range 256).all (fun i => sameV 100000 (Ca.get ⟨n, t, []⟩ i) (L.act.get i)) && (L.blks.all (fun x => match S.get x.1 with
  | some B => sameBlk x.2 B
  | none => false) && Nat.beq S.size L.size))
 | _ => false
theorem Sim.sub {ρ : Rmap} {S T : St} {w : World} (h : Sim P w0 ρ S w) (hs : ∀ b B, T.get b = some B → S.get b = some B) (hz : T.size = S.size) : Sim P w0 ρ T w :=
 ⟨h.size, h.old, h.os, h.out, fun b L hb => by rw [hz]; exact h.dom b L hb, fun b L B hb hB => h.blk b L B hb (hs b B hB),
  fun b L B hb hB hm => ⟨(h.own b L B hb (hs b B hB) hm).1, fun b' L' B' hb' hr hB' hne => (h.own b L B hb (hs b B hB) hm).2 b' L' B' hb' hr (hs b' B' hB') hne⟩, h.glob, fun b hb => by rw [hz]; exact h.no b hb⟩
theorem litH_get : ∀ (l : List (Nat × Blk)) (b : Nat) (B : Blk), (litH l).get b = some B → (b, B) ∈ l
 | [], b, B, h => by simp only [litH, Heap.get_nil] at h; cases h
 | (c, C) :: l, b, B, h => by
  simp only [litH, Heap.get_set_any] at h
  split at h
  ·rename_i he
   cases h
   rw [he]; simp
  ·exact List.mem_cons_of_mem _ (litH_get l b B h)
theorem lit_sound {L : Stg} {r : Res3} (h : litOk L r = true) : ∃ a S, r = some (.normal, a, S) ∧ (∀ ρ ar, ActR ρ a ar → ActR ρ L.act ar) ∧ (∀ (w0 : Base) (ρ : Rmap) (w : World), Sim P w0 ρ S w → Sim P w0 ρ L.st w) := by
 unfold litOk at h
 split at h
 ·rename_i n t S
  simp only [Bool.and_eq_true, List.all_eq_true] at h
  obtain ⟨h1, h2, h3, h4⟩ := h
  have h1 := of_nbeq h1
  have h4 := of_nbeq h4
  refine ⟨_, _, rfl, fun ρ ar ha => ?_, fun w0 ρ w hs => ?_⟩
  ·have hget : ∀ i, Ca.get ⟨n, t, []⟩ i = L.act.get i := by
    intro i
    rcases Nat.lt_or_ge i 256 with hi | hi
    ·exact sameV_eq _ _ _ (h2 i (List.mem_range.2 hi))
    ·have hb : ¬ i < 2 ^ 8 := Nat.not_lt.2 hi
     unfold Ca.get
     rw [PT.get_big _ hb, PT.get_big _ hb]
   refine ⟨by have := ha.le; simp only at this; rw [h1] at this; exact this, ⟨by have := ha.tm.1; rw [h1] at this; exact this, fun i => ?_⟩, ha.df⟩
   have := ha.tm.2 i
   rw [← get_eq ⟨n, t, []⟩, hget, get_eq] at this
   exact this
  ·refine hs.sub (fun b B hB => ?_) h4.symm
   have hm := litH_get _ _ _ hB
   have := h3 (b, B) hm
   simp only at this
   split at this
   ·rename_i C hC
    rw [sameBlk_eq _ _ this]; exact hC
   ·cases this
 ·cases h
def runSeq (ex : Option Nat → Code → Ca → St → Res3) : List Code → Ca → St → Res3
 | [], a, S => some (.normal, a, S)
 | c :: r, a, S => match ex none c a S with
  | some (.normal, a', S') => runSeq ex r a' S'
  | r => r
end Go.Cm

namespace Go.Cm
open Go
variable {P : Program} {w0 : Base} {K : Known}
def TriOps (P : Program) (w0 : Base) (ops : Array Oper) (l : List Oper) (a : Ca) (S : St) (L : Stg) : Prop :=
 ∀ (ρ : Rmap) (w : World) (ar : Act), Sim P w0 ρ S w → ActR ρ a ar → ∀ (Q : Exit → Act → World → Prop), (∀ ρ1 ar1 w1, Ext ρ ρ1 → ActR ρ1 L.act ar1 → Sim P w0 ρ1 L.st w1 → Q .normal ar1 w1) → wpListIn (FW none) 0 P ops Q l ar w
theorem runOps_more {ih : Fns} (hih : FnsSound P w0 ih) {ops : Array Oper} {ro : Option Nat} {a1 : Ca} {S1 : St} {Q : Exit → Act → World → Prop} {more : List Oper} :
  ∀ (l : List Oper) (a : Ca) (S : St), runOps P ih ops.toList l a S = some (.normal, a1, S1) → (∀ o, o ∈ l → OpC P o) → ∀ (ρ : Rmap) (w : World) (ar : Act), Sim P w0 ρ S w → ActR ρ a ar →
   (∀ ρ1 ar1 w1, Ext ρ ρ1 → ActR ρ1 a1 ar1 → Sim P w0 ρ1 S1 w1 → wpListIn (FW ro) 0 P ops Q more ar1 w1) → wpListIn (FW ro) 0 P ops Q (l ++ more) ar w
 | [], a, S, h, _, ρ, w, ar, hs, ha, hQ => by
  simp only [runOps, Option.some.injEq, Prod.mk.injEq, true_and] at h
  obtain ⟨rfl, rfl⟩ := h
  exact hQ ρ ar w (Ext.refl _) ha hs
 | o :: rest, a, S, h, hc, ρ, w, ar, hs, ha, hQ => by
  unfold runOps at h
  have hwant := wanted_sound ha (ops := ops) (o := o)
  rw [List.cons_append]
  unfold wpListIn
  rw [← hwant]
  cases hw : wantedC ops.toList a o with
  | false =>
   rw [hw] at h
   simp only [cond_false] at h
   split at h
   ·rename_i a2 hp
    simp only [Bool.false_eq_true, if_false]
    exact ⟨about_wide, runOps_more hih rest a2 S h (fun o ho => hc o (by simp [ho])) ρ w _ hs (ha.put hp (VR.undef _)) hQ⟩
   ·cases h
  | true =>
   rw [hw] at h
   simp only [cond_true] at h
   simp only [if_true]
   refine ⟨about_wide, ?_⟩
   split at h
   ·rename_i v S2 hst
    split at h
    ·rename_i a2 hp
     refine step_sound hih hs (ha.evs hs (hc o (by simp))) hst ⟨?_, ?_⟩
     ·intro v2 e2 ρ' v' w' h1 h2 h3
      cases e2
      exact runOps_more hih rest a2 S2 h (fun o ho => hc o (by simp [ho])) ρ' w' _ h3 ((ha.mono h1).put hp h2) (fun ρ1 ar1 w1 x y z => hQ ρ1 ar1 w1 (h1.trans x) y z)
     ·intro c e2; cases e2
    ·cases h
   ·cases h
   ·cases h
theorem triOps_nil {ops : Array Oper} {L : Stg} : TriOps P w0 ops [] L.act L.st L := fun ρ w ar hs ha _ hQ => hQ ρ ar w (Ext.refl _) ha hs
theorem triOps_app {ih : Fns} (hih : FnsSound P w0 ih) {ops : Array Oper} {l m : List Oper} {a : Ca} {S : St} {L1 L2 : Stg} (h : litOk L1 (runOps P ih ops.toList l a S) = true) (hc : constsOk P l = true)
  (k : TriOps P w0 ops m L1.act L1.st L2) : TriOps P w0 ops (l ++ m) a S L2 := by
 obtain ⟨a1, S1, e, A, B⟩ := lit_sound (P := P) h
 intro ρ w ar hs ha Q hQ
 refine runOps_more hih l a S e (constsOk_spec hc) ρ w ar hs ha fun ρ1 ar1 w1 x y z => ?_
 exact k ρ1 w1 ar1 (B _ _ _ z) (A _ _ y) Q fun ρ2 ar2 w2 p q r => hQ ρ2 ar2 w2 (x.trans p) q r
theorem fnsG_sound {W : World} (hm : P.follows .mixedOrders = true) (hK : KnownSound P K W) (n : Nat) : FnsSound P ⟨W, fun _ => false⟩ (fnsG P K n) := by
 rw [fnsG_eq]
 exact fns_sound hm hK n n (Nat.le_refl _) (fun _ => false)
def hd : Code → Code
 | .seq a _ => a
 | c => c
def tl : Code → Code
 | .seq _ b => b
 | c => c
def rops : Code → Array Oper
 | .region _ ops _ => ops
 | _ => #[]
def isSeq : Code → Bool
 | .seq _ _ => true
 | _ => false
def tlN : Nat → Code → Code
 | 0, c => c
 | n + 1, c => tlN n (tl c)
def hds : Nat → Code → List Code
 | 0, _ => []
 | n + 1, c => hd c :: hds n (tl c)
def isSeqN : Nat → Code → Bool
 | 0, _ => true
 | n + 1, c => isSeq c && isSeqN n (tl c)
theorem tri_run {ih : Fns} (hih : FnsSound P w0 ih) {a1 : Ca} {S1 : St} {Q : Exit → Act → World → Prop} : ∀ (k : Nat) (c : Code), isSeqN k c = true → ∀ (a : Ca) (S : St), runSeq ih.exec (hds k c) a S = some (.normal, a1, S1) → ∀ (ρ : Rmap) (w : World) (ar : Act),
  Sim P w0 ρ S w → ActR ρ a ar → (∀ ρ1 ar1 w1, Ext ρ ρ1 → ActR ρ1 a1 ar1 → Sim P w0 ρ1 S1 w1 → (tlN k c).wpIn (FW none) 0 P Q ar1 w1) → c.wpIn (FW none) 0 P Q ar w
 | 0, c, _, a, S, h, ρ, w, ar, hs, ha, hk => by
  simp only [hds, runSeq, Option.some.injEq, Prod.mk.injEq, true_and] at h
  obtain ⟨rfl, rfl⟩ := h
  exact hk ρ ar w (Ext.refl _) ha hs
 | k + 1, c, hc, a, S, h, ρ, w, ar, hs, ha, hk => by
  simp only [isSeqN, Bool.and_eq_true] at hc
  cases c with
  | seq x y =>
   simp only [hds, hd, tl] at h
   unfold runSeq at h
   split at h
   ·rename_i a2 S2 hx
    refine wpIn_seq (wpIn_mono (hih.exec none x _ _ _ _ _ hx ρ w ar none hs ha (.inl ⟨rfl, rfl⟩)) ?_)
    rintro e2 ar2 w2 ⟨ρ2, h1, h2, h3, h4⟩
    cases h2
    exact tri_run hih k y hc.2 a2 S2 h ρ2 w2 ar2 h4 h3 fun ρ1 ar1 w1 p q r => hk ρ1 ar1 w1 (h1.trans p) q r
   ·rename_i hne
    exact absurd h (hne a1 S1)
  | _ => cases hc.1
def cutOps (c : Code) (i j : Nat) : List Oper := ((rops c).toList.drop i).take (j - i)
theorem triOps_cut {ih : Fns} (hih : FnsSound P w0 ih) {c : Code} {i j : Nat} (hij : Nat.ble i j = true) {a : Ca} {S : St} {L1 L2 : Stg} (h : litOk L1 (runOps P ih (rops c).toList (cutOps c i j) a S) = true) (hc : constsOk P (cutOps c i j) = true)
  (k : TriOps P w0 (rops c) ((rops c).toList.drop j) L1.act L1.st L2) : TriOps P w0 (rops c) ((rops c).toList.drop i) a S L2 := by
 have e : (rops c).toList.drop i = cutOps c i j ++ (rops c).toList.drop j := by
  have hij := Nat.le_of_ble_eq_true hij
  unfold cutOps
  conv => lhs; rw [← List.take_append_drop (j - i) ((rops c).toList.drop i)]
  rw [List.drop_drop]
  congr 2
  omega
 rw [e]
 exact triOps_app hih h hc k
theorem triOps_end {ih : Fns} (hih : FnsSound P w0 ih) {c : Code} {i : Nat} {a : Ca} {S : St} {L1 : Stg} (h : litOk L1 (runOps P ih (rops c).toList ((rops c).toList.drop i) a S) = true) (hc : constsOk P ((rops c).toList.drop i) = true) :
  TriOps P w0 (rops c) ((rops c).toList.drop i) a S L1 := by
 have := triOps_app hih h hc triOps_nil
 rw [List.append_nil] at this
 exact this
end Go.Cm

namespace Go.Cm
open Go
variable {P : Program} {w0 : Base} {K : Known}
def TriX (P : Program) (w0 : Base) (c : Code) (a : Ca) (S : St) (e : Exit) (L : Stg) : Prop :=
 ∀ (ρ : Rmap) (w : World) (ar : Act), Sim P w0 ρ S w → ActR ρ a ar → c.wpIn (FW none) 0 P (fun e1 ar1 w1 => e1 = e ∧ ∃ ρ1, Ext ρ ρ1 ∧ ActR ρ1 L.act ar1 ∧ Sim P w0 ρ1 L.st w1) ar w
def litX (e : Exit) (L : Stg) (r : Res3) : Bool := match e, r with
 | .normal, some (.normal, a, S) => litOk L (some (.normal, a, S))
 | .ret, some (.ret, a, S) => litOk L (some (.normal, a, S))
 | .exit i, some (.exit j, a, S) => Nat.beq i j && litOk L (some (.normal, a, S))
 | _, _ => false
theorem litX_sound {e : Exit} {L : Stg} {r : Res3} (h : litX e L r = true) : ∃ a S, r = some (e, a, S) ∧ (∀ ρ ar, ActR ρ a ar → ActR ρ L.act ar) ∧ (∀ (w0 : Base) (ρ : Rmap) (w : World), Sim P w0 ρ S w → Sim P w0 ρ L.st w) := by
 unfold litX at h
 split at h
 ·obtain ⟨a1, S1, e1, A, B⟩ := lit_sound (P := P) h
  cases e1
  exact ⟨_, _, rfl, A, B⟩
 ·obtain ⟨a1, S1, e1, A, B⟩ := lit_sound (P := P) h
  cases e1
  exact ⟨_, _, rfl, A, B⟩
 ·rw [Bool.and_eq_true] at h
  obtain ⟨a1, S1, e1, A, B⟩ := lit_sound (P := P) h.2
  cases e1
  rw [of_nbeq h.1]
  exact ⟨_, _, rfl, A, B⟩
 ·cases h
theorem triX_code {ih : Fns} (hih : FnsSound P w0 ih) {c : Code} {a : Ca} {S : St} {e : Exit} {L : Stg} (h : litX e L (ih.exec none c a S) = true) : TriX P w0 c a S e L := by
 obtain ⟨a1, S1, e1, A, B⟩ := litX_sound (P := P) h
 intro ρ w ar hs ha
 refine wpIn_mono (hih.exec none c _ _ _ _ _ e1 ρ w ar none hs ha (.inl ⟨rfl, rfl⟩)) ?_
 rintro e2 ar2 w2 ⟨ρ2, h1, h2, h3, h4⟩
 cases h2 with
 | normal => exact ⟨rfl, ρ2, h1, A _ _ h3, B _ _ _ h4⟩
 | exit id => exact ⟨rfl, ρ2, h1, A _ _ h3, B _ _ _ h4⟩
 | ret => exact ⟨rfl, ρ2, h1, A _ _ h3, B _ _ _ h4⟩
 | pan hp =>
  exfalso
  unfold litX at h
  rw [e1] at h
  cases h
theorem triX_seq {x y : Code} {a : Ca} {S : St} {e : Exit} {L1 L2 : Stg} (h : TriX P w0 x a S .normal L1) (k : TriX P w0 y L1.act L1.st e L2) : TriX P w0 (.seq x y) a S e L2 := by
 intro ρ w ar hs ha
 refine wpIn_seq (wpIn_mono (h ρ w ar hs ha) ?_)
 rintro e1 ar1 w1 ⟨rfl, ρ1, h1, h2, h3⟩
 refine wpIn_mono (k ρ1 w1 ar1 h3 h2) ?_
 rintro e2 ar2 w2 ⟨rfl, ρ2, k1, k2, k3⟩
 exact ⟨rfl, ρ2, h1.trans k1, k2, k3⟩
def leaves : Exit → Bool
 | .ret => true
 | .exit _ => true
 | _ => false
theorem triX_block {i : Nat} {c : Code} {a : Ca} {S : St} {L : Stg} (h : TriX P w0 c a S (.exit i) L) : TriX P w0 (.block i c) a S .normal L := by
 intro ρ w ar hs ha
 refine wpIn_block (wpIn_mono (h ρ w ar hs ha) ?_)
 rintro e1 ar1 w1 ⟨rfl, hx⟩
 simp only [Exit.inBlock, if_true]
 exact ⟨trivial, hx⟩
theorem triX_through {i : Nat} {c : Code} {a : Ca} {S : St} {e : Exit} {L : Stg} (he : (match e with | .exit j => !(Nat.beq j i) | .normal => true | .ret => true | _ => false) = true) (h : TriX P w0 c a S e L) : TriX P w0 (.block i c) a S e L := by
 intro ρ w ar hs ha
 refine wpIn_block (wpIn_mono (h ρ w ar hs ha) ?_)
 rintro e1 ar1 w1 ⟨rfl, hx⟩
 cases e1 with
 | normal => exact ⟨rfl, hx⟩
 | ret => exact ⟨rfl, hx⟩
 | exit j =>
  have hj : j ≠ i := fun e => by subst e; simp at he
  simp only [Exit.inBlock, hj, if_false]
  exact ⟨trivial, hx⟩
 | _ => cases he
def TriS (P : Program) (w0 : Base) (c : Code) (a : Ca) (S : St) (a1 : Ca) (S1 : St) : Prop :=
 ∀ (ρ : Rmap) (w : World) (ar : Act), Sim P w0 ρ S w → ActR ρ a ar → c.wpIn (FW none) 0 P (fun e1 ar1 w1 => e1 = .normal ∧ ∃ ρ1, Ext ρ ρ1 ∧ ActR ρ1 a1 ar1 ∧ Sim P w0 ρ1 S1 w1) ar w
inductive Rounds (P : Program) (w0 : Base) (c : Code) (e : Exit) (L : Stg) : Nat → Ca → St → Prop
 | last {a : Ca} {S : St} (h : TriX P w0 c a S e L) : Rounds P w0 c e L 0 a S
 | next {m : Nat} {a : Ca} {S : St} {L1 : Stg} (h : TriX P w0 c a S .normal L1) (k : Rounds P w0 c e L m L1.act L1.st) : Rounds P w0 c e L (m + 1) a S
 | step {m : Nat} {a : Ca} {S : St} {a1 : Ca} {S1 : St} (h : TriS P w0 c a S a1 S1) (k : Rounds P w0 c e L m a1 S1) : Rounds P w0 c e L (m + 1) a S
 | cut {m : Nat} {a : Ca} {S : St} {L1 : Stg} (ha : ∀ ρ ar, ActR ρ a ar → ActR ρ L1.act ar) (hs : ∀ (ρ : Rmap) (w : World), Sim P w0 ρ S w → Sim P w0 ρ L1.st w) (k : Rounds P w0 c e L m L1.act L1.st) : Rounds P w0 c e L m a S
theorem rounds_go {c : Code} {e : Exit} {L : Stg} {m : Nat} {a : Ca} {S : St} (hr : Rounds P w0 c e L m a S) : ∀ (ρ : Rmap) (w : World) (ar : Act), Sim P w0 ρ S w → ActR ρ a ar →
  c.wpIn (FW none) 0 P (fun e1 ar1 w1 => (e1 = e ∧ ∃ ρ1, Ext ρ ρ1 ∧ ActR ρ1 L.act ar1 ∧ Sim P w0 ρ1 L.st w1) ∨ (e1 = .normal ∧ ∃ k, k < m ∧ ∃ a1 S1 ρ1, Ext ρ ρ1 ∧ Rounds P w0 c e L k a1 S1 ∧ Sim P w0 ρ1 S1 w1 ∧ ActR ρ1 a1 ar1)) ar w := by
 induction hr with
 | last h =>
  intro ρ w ar hs ha
  exact wpIn_mono (h ρ w ar hs ha) fun _ _ _ hq => .inl hq
 | next h k _ =>
  intro ρ w ar hs ha
  refine wpIn_mono (h ρ w ar hs ha) ?_
  rintro e1 ar1 w1 ⟨rfl, ρ2, h1, h2, h3⟩
  exact .inr ⟨rfl, _, Nat.lt_succ_self _, _, _, ρ2, h1, k, h3, h2⟩
 | step h k _ =>
  intro ρ w ar hs ha
  refine wpIn_mono (h ρ w ar hs ha) ?_
  rintro e1 ar1 w1 ⟨rfl, ρ2, h1, h2, h3⟩
  exact .inr ⟨rfl, _, Nat.lt_succ_self _, _, _, ρ2, h1, k, h3, h2⟩
 | cut ha' hs' _ ih =>
  intro ρ w ar hs ha
  exact ih ρ w ar (hs' _ _ hs) (ha' _ _ ha)
theorem triX_loop {c : Code} {a : Ca} {S : St} {e : Exit} {L : Stg} {m : Nat} (he : leaves e = true) (h : Rounds P w0 c e L m a S) : TriX P w0 (.loop c) a S e L := by
 intro ρ w ar hs ha
 refine wpIn_loop_ghost (fun m ar w => ∃ a S ρ1, Ext ρ ρ1 ∧ Rounds P w0 c e L m a S ∧ Sim P w0 ρ1 S w ∧ ActR ρ1 a ar) m ⟨a, S, ρ, Ext.refl _, h, hs, ha⟩ ?_
 rintro m ar w ⟨a, S, ρ1, hx, hr, hs, ha⟩
 refine wpIn_mono (rounds_go hr ρ1 w ar hs ha) ?_
 rintro e1 ar1 w1 (⟨rfl, ρ2, h1, h2, h3⟩ | ⟨rfl, k, hk, a1, S1, ρ2, h1, h2, h3, h4⟩)
 ·cases e1 with
  | ret => exact ⟨rfl, ρ2, hx.trans h1, h2, h3⟩
  | exit i => exact ⟨rfl, ρ2, hx.trans h1, h2, h3⟩
  | _ => cases he
 ·exact ⟨k, hk, a1, S1, ρ2, hx.trans h1, h2, h3, h4⟩
theorem rounds_seq {ih : Fns} (hih : FnsSound P w0 ih) {c : Code} {e : Exit} {L : Stg} {m : Nat} {a1 : Ca} {S1 : St} (k0 : Rounds P w0 c e L m a1 S1) : ∀ (k : Nat) (a : Ca) (S : St), runSeq ih.exec (List.replicate k c) a S = some (.normal, a1, S1) → Rounds P w0 c e L (m + k) a S
 | 0, a, S, h => by
  simp only [List.replicate, runSeq, Option.some.injEq, Prod.mk.injEq, true_and] at h
  obtain ⟨rfl, rfl⟩ := h
  exact k0
 | k + 1, a, S, h => by
  rw [List.replicate_succ] at h
  unfold runSeq at h
  split at h
  ·rename_i a2 S2 hx
   refine .step (a1 := a2) (S1 := S2) ?_ (rounds_seq hih k0 k a2 S2 h)
   intro ρ w ar hs ha
   refine wpIn_mono (hih.exec none c _ _ _ _ _ hx ρ w ar none hs ha (.inl ⟨rfl, rfl⟩)) ?_
   rintro e2 ar2 w2 ⟨ρ2, h1, h2, h3, h4⟩
   cases h2
   exact ⟨rfl, ρ2, h1, h3, h4⟩
  ·rename_i hne
   exact absurd h (hne a1 S1)
theorem rounds_run {ih : Fns} (hih : FnsSound P w0 ih) {c : Code} {e : Exit} {L L1 : Stg} {m k : Nat} {a : Ca} {S : St} (h : litOk L1 (runSeq ih.exec (List.replicate k c) a S) = true) (k0 : Rounds P w0 c e L m L1.act L1.st) : Rounds P w0 c e L (m + k) a S := by
 obtain ⟨a1, S1, e1, A, B⟩ := lit_sound (P := P) h
 exact rounds_seq hih (.cut A (fun ρ w => B w0 ρ w) k0) k a S e1
theorem triX_region {id : Nat} {ops : Array Oper} {a : Ca} {S : St} {L : Stg} (h : TriOps P w0 ops ops.toList a S L) : TriX P w0 (.region id ops false) a S .normal L := by
 intro ρ w ar hs ha
 exact wpIn_region_list (h ρ w ar hs ha _ fun ρ1 ar1 w1 x y z => ⟨rfl, ρ1, x, y, z⟩)
theorem triX_hds {ih : Fns} (hih : FnsSound P w0 ih) {k : Nat} {c : Code} (hs : isSeqN k c = true) {a : Ca} {S : St} {e : Exit} {L1 L2 : Stg} (h : litOk L1 (runSeq ih.exec (hds k c) a S) = true) (kk : TriX P w0 (tlN k c) L1.act L1.st e L2) : TriX P w0 c a S e L2 := by
 obtain ⟨a1, S1, e1, A, B⟩ := lit_sound (P := P) h
 intro ρ w ar hsim ha
 refine tri_run hih k c hs a S e1 ρ w ar hsim ha fun ρ1 ar1 w1 x y z => wpIn_mono (kk ρ1 w1 ar1 (B _ _ _ z) (A _ _ y)) ?_
 rintro e2 ar2 w2 ⟨rfl, ρ2, k1, k2, k3⟩
 exact ⟨rfl, ρ2, x.trans k1, k2, k3⟩
def CallT (P : Program) (w0 : Base) (f : FuncId) (vs : List Value) (S : St) (v : Value) (T : St) : Prop :=
 ∀ (ρ : Rmap) (w : World) (args' : Array Value), Sim P w0 ρ S w → VRs ρ vs args'.toList → NextUp P (EndGood P w0 ρ (.returned v) T) ((callFunc f args').run P w)
def TriFin (P : Program) (w0 : Base) (fn : Func) (c : Code) (a : Ca) (S : St) (v : Value) (T : St) : Prop :=
 ∀ (ρ : Rmap) (w : World) (ar : Act), Sim P w0 ρ S w → ActR ρ a ar → ∀ (R : Ending → World → Prop), (∀ e w, EndGood P w0 ρ (.returned v) T e w → R e w) → c.wpIn (FW none) 0 P (bodyPostM Fence.wide 0 P fn R) ar w
theorem endGood_mono {ρ ρ1 : Rmap} (hx : Ext ρ ρ1) {e : Ending} {T : St} {e' : Ending} {w : World} (h : EndGood P w0 ρ1 e T e' w) : EndGood P w0 ρ e T e' w := by
 obtain ⟨ρ2, a, b, c⟩ := h
 exact ⟨ρ2, hx.trans a, b, c⟩
theorem triFin_seq {fn : Func} {x y : Code} {a : Ca} {S : St} {L1 : Stg} {v : Value} {T : St} (h : TriX P w0 x a S .normal L1) (k : TriFin P w0 fn y L1.act L1.st v T) : TriFin P w0 fn (.seq x y) a S v T := by
 intro ρ w ar hs ha R hR
 refine wpIn_seq (wpIn_mono (h ρ w ar hs ha) ?_)
 rintro e1 ar1 w1 ⟨rfl, ρ1, h1, h2, h3⟩
 exact k ρ1 w1 ar1 h3 h2 R fun e w h => hR e w (endGood_mono h1 h)
theorem triFin_hds {ih : Fns} (hih : FnsSound P w0 ih) {fn : Func} {k : Nat} {c : Code} (hs : isSeqN k c = true) {a : Ca} {S : St} {L1 : Stg} {v : Value} {T : St} (h : litOk L1 (runSeq ih.exec (hds k c) a S) = true) (kk : TriFin P w0 fn (tlN k c) L1.act L1.st v T) : TriFin P w0 fn c a S v T := by
 obtain ⟨a1, S1, e1, A, B⟩ := lit_sound (P := P) h
 intro ρ w ar hsim ha R hR
 exact tri_run hih k c hs a S e1 ρ w ar hsim ha fun ρ1 ar1 w1 x y z => kk ρ1 w1 ar1 (B _ _ _ z) (A _ _ y) R fun e w h => hR e w (endGood_mono x h)
def tupF : List Value → Value
 | [v] => v
 | vs => .tuple vs.toArray
def finOk (P : Program) (rs : List ResultVar) (v : Value) (L : Stg) (r : Res3) : Bool := match r with
 | some (e, a, S) => (match e with | .normal => true | .ret => true | _ => false) && (match takeMarks a.defers S with
  | some T => match resultsL P a T rs with
   | some vs => sameV 100000 (tupF vs) v && (L.blks.all (fun x => match T.get x.1 with
    | some B => sameBlk x.2 B
    | none => false) && Nat.beq T.size L.size)
   | none => false
  | none => false)
 | none => false
theorem blks_sub {L : Stg} {T : St} (h1 : (L.blks.all (fun x => match T.get x.1 with
    | some B => sameBlk x.2 B
    | none => false)) = true) (h2 : Nat.beq T.size L.size = true) {ρ : Rmap} {w : World} (hs : Sim P w0 ρ T w) : Sim P w0 ρ L.st w := by
 refine hs.sub (fun b B hB => ?_) (of_nbeq h2).symm
 have hm := litH_get _ _ _ hB
 have := List.all_eq_true.1 h1 (b, B) hm
 simp only at this
 split at this
 ·rename_i C hC
  rw [sameBlk_eq _ _ this]; exact hC
 ·cases this
theorem triFin_code {ih : Fns} (hih : FnsSound P w0 ih) {fn : Func} {c : Code} {a : Ca} {S : St} {v : Value} {L : Stg} (h : finOk P fn.results.toList v L (ih.exec none c a S) = true) : TriFin P w0 fn c a S v L.st := by
 intro ρ w ar hs ha R hR
 unfold finOk at h
 split at h
 ·rename_i e a3 S3 hx
  rw [Bool.and_eq_true] at h
  obtain ⟨he, h⟩ := h
  split at h
  ·rename_i T htm
   split at h
   ·rename_i vs hres
    simp only [Bool.and_eq_true] at h
    obtain ⟨hv, hb, hz⟩ := h
    refine wpIn_mono (hih.exec none c _ _ _ _ _ hx ρ w ar none hs ha (.inl ⟨rfl, rfl⟩)) ?_
    rintro e3 ar3 w3 ⟨ρ3, p1, p2, p3, p4⟩
    have key : LeavesInM Fence.wide 0 P fn ar3.tmps R ar3.defers .returning w3 := by
     refine takeMarks_sound (ρ := ρ3) (S2 := T) (by simp) (fun w4 hw4 => ?_) a3.defers S3 ar3.defers w3 htm p3.df p4
     obtain ⟨vs', hvs, hr⟩ := results_sound hw4 p3 hres
     refine ⟨_, hr, hR _ _ ⟨ρ3, p1, .ret ?_, blks_sub hb hz hw4⟩⟩
     rw [← sameV_eq _ _ _ hv]
     have hl := hvs.1
     cases vs with
     | nil =>
      cases vs' with
      | nil => exact VR.tuple' VRs.nil
      | cons y r => simp at hl
     | cons x r =>
      cases vs' with
      | nil => simp at hl
      | cons y r' =>
       cases r with
       | nil =>
        cases r' with
        | nil => exact hvs.head
        | cons _ _ => simp at hl
       | cons x2 r2 =>
        cases r' with
        | nil => simp at hl
        | cons y2 r2' => exact VR.tuple' hvs
    cases p2 with
    | normal => exact key
    | ret => exact key
    | exit id => cases he
    | pan hp => cases he
   ·cases h
  ·cases h
 ·cases h
theorem callT_fin {f : FuncId} {fn : Func} {c : Code} (hf : P.funcs[f]? = some fn) (hb : fn.body = some c) (hnm : (fn.name == "runtime.NumGoroutine") = false) {vs : List Value} {n : Nat} (hn : maxN fn.ntmps vs.length = n) (hle : Nat.ble n 256 = true)
  {S : St} {v : Value} {T : St} (h : TriFin P w0 fn c { n := n, t := PT.ofList 0 (PT.nil 8) vs, defers := [] } S v T) : CallT P w0 f vs S v T := by
 intro ρ w args' hs hv
 rw [run_callFunc hf hb hnm]
 subst hn
 exact callsIn_of_wp_marks (n := 0) hf hb trivial (h ρ w _ hs (enter_act hv (Nat.le_of_ble_eq_true hle)) _ fun _ _ h => h)
theorem triOps_call {c : Code} {i : Nat} {o : Oper} {x : Operand} {as : Array Operand} {ts : Array TypeId} {f : FuncId} {fi ca : Array Value} {vs : List Value} {v : Value} {L0 Lc L1 L2 : Stg}
  (ho : nth (rops c).toList i = some o) (hop : o.op = .call ⟨.value x, as, ts⟩) (hw : wantedC (rops c).toList L0.act o = true) (hx : L0.act.ev x = .func (.func f) fi ca) (hv : (fi.toList ++ as.toList.map L0.act.ev) ++ ca.toList = vs) (hc : constsOk P [o] = true)
  (hcall : CallT P w0 f vs L0.st v Lc.st) (hput : litOk L1 (match L0.act.put o.dst v with | some a => some (.normal, a, Lc.st) | none => none) = true)
  (k : TriOps P w0 (rops c) ((rops c).toList.drop (i + 1)) L1.act L1.st L2) : TriOps P w0 (rops c) ((rops c).toList.drop i) L0.act L0.st L2 := by
 intro ρ w ar hs ha Q hQ
 have hdrop : (rops c).toList.drop i = o :: (rops c).toList.drop (i + 1) := by
  rw [nth_eq] at ho
  obtain ⟨hi, he⟩ := List.getElem?_eq_some_iff.1 ho
  rw [List.drop_eq_getElem_cons hi, he]
 rw [hdrop]
 unfold wpListIn
 have hwant := wanted_sound ha (ops := rops c) (o := o)
 rw [← hwant, hw]
 simp only [if_true]
 refine ⟨about_wide, ?_⟩
 have hOpC := constsOk_spec hc o (by simp)
 have hev := ha.evs hs hOpC
 have hd : ∀ c, o.op ≠ .defer c := by
  intro c hc
  rw [hop] at hc
  cases hc
 rw [Oper.semAt_eq _ _ _ hd]
 have hfv := hev x (by rw [hop]; simp [Op.operands, Call.operands])
 rw [hx] at hfv
 obtain ⟨fn', first', cap', hg, h1, h2⟩ := hfv.func_inv
 obtain ⟨a1, S1, e1, A, B⟩ := lit_sound (P := P) hput
 split at e1
 ·rename_i a' hp
  cases e1
  have hfn : ∃ ca', fn' = .func f ∧ ca' = cap' ∧ VRs ρ ca.toList ca'.toList := by
   cases h1 with
   | func f ha i1 hc i2 => exact ⟨_, rfl, rfl, hc, i2⟩
  obtain ⟨ca', rfl, rfl, hcap⟩ := hfn
  have hrun : (execOp ar.eval o).run P w = (callFunc f ((first' ++ as.map ar.eval) ++ ca')).run P w := by
   rw [run_call (P := P) ar.eval hop w (d := { target := .fn (.func f) ca', args := first' ++ as.map ar.eval }) (by simp [resolve, hg, Deferred.ofValue])]
   rfl
  rw [hrun]
  have hargs : VRs ρ vs ((first' ++ as.map ar.eval) ++ ca').toList := by
   rw [← hv, Array.toList_append, Array.toList_append]
   exact (h2.append (args_vr fun y hy => hev y (by rw [hop]; simp [Op.operands, Call.operands, hy]))).append hcap
  refine upon_of_up (hcall ρ w _ hs hargs) (.inl ⟨v, rfl, rfl⟩) ⟨?_, ?_⟩
  ·intro v2 e2 ρ' v' w' q1 q2 q3
   cases e2
   exact k ρ' w' _ (B _ _ _ q3) (A _ _ ((ha.mono q1).put hp q2)) Q fun ρ2 ar2 w2 p q r => hQ ρ2 ar2 w2 (q1.trans p) q r
  ·intro c2 e2; cases e2
 ·cases e1
theorem call_true {W : World} {f : FuncId} {fn : Func} {c : Code} (hf : P.funcs[f]? = some fn) (hb : fn.body = some c) (hnm : (fn.name == "runtime.NumGoroutine") = false) {G : List (Nat × List Value)} {T : St}
  (h : CallT P ⟨W, fun _ => false⟩ f [] (startS G P.globals.size) (.bool true) T) (hn : P.globals.size ≤ W.heap.size)
  (hG : ∀ g l, (g, l) ∈ G → ∃ (arr : Array Value) (e : TypeId) (fz : Nat × Nat), W.heap[g]? = some (.cells arr e fz) ∧ arr.toList = l) (hfl : ∀ g l, (g, l) ∈ G → ∀ v ∈ l, flatV flatN v = true) :
  Calls P f #[] W fun e w => e = .returned (.bool true) ∧ Kept W w := by
 have hsim := start_sim (P := P) hn hG hfl
 have := h _ W #[] hsim VRs.nil
 rw [run_callFunc hf hb hnm] at this
 refine (callsIn_wide.1 this).mono ?_
 rintro e w ⟨ρ', _, h2, h3⟩
 cases h2 with
 | ret hv => cases hv; exact ⟨rfl, h3.kept⟩
def tA : Code → Code
 | .seq a _ => a
 | .cond _ a _ => a
 | .block _ c => c
 | .loop c => c
 | .scope c => c
 | c => c
def tB : Code → Code
 | .seq _ b => b
 | .cond _ _ b => b
 | c => c
def tI : Code → Nat
 | .block i _ => i
 | _ => 0
def tK : Code → Nat
 | .region _ _ false => 1
 | .seq _ _ => 3
 | .cond _ _ _ => 4
 | .block _ _ => 5
 | .loop _ => 6
 | _ => 10
section
variable {c : Code} {a : Ca} {S : St} {e : Exit} {L L1 : Stg}
theorem tx_seq (hk : tK c = 3) (h : TriX P w0 (tA c) a S .normal L1) (k : TriX P w0 (tB c) L1.act L1.st e L) : TriX P w0 c a S e L := by
 cases c <;> first | exact triX_seq h k | (rename_i d; cases d <;> cases hk) | cases hk
theorem tx_block (hk : tK c = 5) (h : TriX P w0 (tA c) a S (.exit (tI c)) L) : TriX P w0 c a S .normal L := by
 cases c <;> first | exact triX_block h | (rename_i d; cases d <;> cases hk) | cases hk
theorem tx_through (hk : tK c = 5) (he : (match e with | .exit j => !(Nat.beq j (tI c)) | .normal => true | .ret => true | _ => false) = true) (h : TriX P w0 (tA c) a S e L) : TriX P w0 c a S e L := by
 cases c <;> first | exact triX_through he h | (rename_i d; cases d <;> cases hk) | cases hk
theorem tx_loop {m : Nat} (hk : tK c = 6) (he : leaves e = true) (h : Rounds P w0 (tA c) e L m a S) : TriX P w0 c a S e L := by
 cases c <;> first | exact triX_loop he h | (rename_i d; cases d <;> cases hk) | cases hk
theorem tx_region (hk : tK c = 1) (h : TriOps P w0 (rops c) (rops c).toList a S L) : TriX P w0 c a S .normal L := by
 cases c <;> first | (rename_i d; cases d <;> first | exact triX_region h | cases hk) | cases hk
theorem tf_seq {fn : Func} {v : Value} {T : St} (hk : tK c = 3) (h : TriX P w0 (tA c) a S .normal L1) (k : TriFin P w0 fn (tB c) L1.act L1.st v T) : TriFin P w0 fn c a S v T := by
 cases c <;> first | exact triFin_seq h k | (rename_i d; cases d <;> cases hk) | cases hk
end
end Go.Cm

namespace Go.Cm
open Go
variable {P : Program} {w0 : Base}
theorem Sim.view {ρ : Rmap} {S : St} {w : World} (h : Sim P w0 ρ S w) {c : List Value} {e : TypeId} {L : Loc} (hr : L.r < w0.heap.size) (hB : BlkOk P (upd ρ S.size L) (.cells c e true false []) w.heap[L.r]? L) :
  Ext ρ (upd ρ S.size L) ∧ Sim P w0 (upd ρ S.size L) (S.new (.cells c e true false [])).2 w := by
 have hnone : ρ S.size = none := by
  cases hx : ρ S.size with
  | none => rfl
  | some M => exact absurd (h.dom _ _ hx).1 (Nat.lt_irrefl _)
 have hext := ext_upd L hnone
 have hget : ∀ b, (S.new (.cells c e true false [])).2.get b = if b = S.size then some (.cells c e true false []) else S.get b := by
  intro b
  show (⟨S.heap.set S.size _, S.size + 1⟩ : St).get b = _
  simp only [St.get, Heap.get_set_any]
 refine ⟨hext, ⟨h.size, h.old, h.os, h.out, fun b M hb => ?_, fun b M C hb hC => ?_, fun b M C hb hC hm => ?_, fun g hg => let ⟨M, a, b⟩ := h.glob g hg; ⟨M, hext _ _ a, b⟩, fun b hb => ?_⟩⟩
 ·show b < S.size + 1 ∧ _
  unfold upd at hb
  split at hb
  ·cases hb
   have := h.size
   exact ⟨by omega, by omega⟩
  ·have := h.dom b M hb
   exact ⟨by omega, this.2⟩
 ·rw [hget] at hC
  unfold upd at hb
  by_cases e' : b = S.size
  ·rw [if_pos e'] at hb hC
   cases hb; cases hC
   exact hB
  ·rw [if_neg e'] at hb hC
   exact (h.blk b M C hb hC).mono hext
 ·rw [hget] at hC
  unfold upd at hb
  by_cases e' : b = S.size
  ·rw [if_pos e'] at hb hC
   cases hC
   cases hm
  ·rw [if_neg e'] at hb hC
   refine ⟨(h.own b M C hb hC hm).1, fun b' L' B' hb' hr' hB' hne => ?_⟩
   rw [hget] at hB'
   unfold upd at hb'
   by_cases e2 : b' = S.size
   ·rw [if_pos e2] at hb'
    cases hb'
    have := (h.own b M C hb hC hm).1
    omega
   ·rw [if_neg e2] at hb' hB'
    exact (h.own b M C hb hC hm).2 b' L' B' hb' hr' hB' hne
 ·have := h.no b hb
  refine ⟨?_, by show b < S.size + 1; omega⟩
  unfold upd
  rw [if_neg (by omega)]
  exact this.1
end Go.Cm

namespace Go.Cm
open Go
def scalarV : Value → Bool
 | .bool _ => true
 | .int _ _ => true
 | .string _ => true
 | _ => false
mutual
def renP : Nat → Value → Value → Option (List (Nat × Nat))
 | 0, _, _ => none
 | _ + 1, .slice (some ⟨b1, o1, none⟩) n1 c1, .slice (some ⟨b, o, none⟩) n2 c2 => bif Nat.beq o1 o && (Nat.beq n1 n2 && Nat.beq c1 c2) then some [(b1, b)] else none
 | _ + 1, .slice none 0 0, .slice none 0 0 => some []
 | n + 1, .agg a, .agg b => renL n a.toList b.toList
 | _ + 1, x, y => bif scalarV x && sameV 1000 x y then some [] else none
def renL : Nat → List Value → List Value → Option (List (Nat × Nat))
 | 0, _, _ => none
 | _ + 1, [], [] => some []
 | n + 1, x :: l, y :: r => match renP n x y, renL n l r with
  | some p, some q => some (p ++ q)
  | _, _ => none
 | _ + 1, _, _ => none
end
end Go.Cm

namespace Go.Cm
open Go
variable {P : Program} {w0 : Base} {K : Known}
theorem zeroKnown {W : World} {f : FuncId} {v : Value} {S : St} (h : ∀ w, Kept W w → Calls P f #[] w fun e w' => e = .returned v ∧ Kept w w') :
  ∀ (w0 : Base) (ρ : Rmap) (w : World) (args' : Array Value), w0.toWorld = W → Sim P w0 ρ S w → VRs ρ [] args'.toList → Calls P f args' w fun e w' => e = .returned v ∧ Kept w w' := by
 intro w0 ρ w args' e hs hv
 subst e
 have : args' = #[] := by
  apply Array.ext'
  simpa using hv.nil_inv
 subst this
 exact h w hs.kept
end Go.Cm

