/-
  The evaluator of the model, and that it is sound: part 5.
-/
import Derived.Test.YtgiibikieblicaaGreatDoorCm4
namespace Go.Cm
open Go
variable {P : Program} {w0 : Base} {K : Known}
theorem fnsG_sound {W : World} (hm : P.follows .mixedOrders = true) (hK : KnownSound P K W) (n : Nat) : FnsSound P ⟨W, fun _ => false⟩ (fnsG P K n) := by
 rw [fnsG_eq]
 exact fns_sound hm hK n n (Nat.le_refl _) (fun _ => false)
def hd : Code → Code
 | .seq a _ => a
 | c => c
def tl : Code → Code
 | .seq _ b => b
 | c => c
def hds : Nat → Code → List Code
 | 0, _ => []
 | n + 1, c => hd c :: hds n (tl c)
end Go.Cm

namespace Go.Cm
open Go
variable {P : Program} {w0 : Base} {K : Known}
def TriX (P : Program) (w0 : Base) (c : Code) (a : Ca) (S : St) (e : Exit) (L : Stg) : Prop :=
 ∀ (ρ : Rmap) (w : World) (ar : Act), Sim P w0 ρ S w → ActR ρ a ar → c.wpIn (FW none) 0 P (fun e1 ar1 w1 => e1 = e ∧ ∃ ρ1, Ext ρ ρ1 ∧ ActR ρ1 L.act ar1 ∧ Sim P w0 ρ1 L.st w1) ar w
def leaves : Exit → Bool
 | .ret => true
 | .exit _ => true
 | _ => false
def TriS (P : Program) (w0 : Base) (c : Code) (a : Ca) (S : St) (a1 : Ca) (S1 : St) : Prop :=
 ∀ (ρ : Rmap) (w : World) (ar : Act), Sim P w0 ρ S w → ActR ρ a ar → c.wpIn (FW none) 0 P (fun e1 ar1 w1 => e1 = .normal ∧ ∃ ρ1, Ext ρ ρ1 ∧ ActR ρ1 a1 ar1 ∧ Sim P w0 ρ1 S1 w1) ar w
inductive Rounds (P : Program) (w0 : Base) (c : Code) (e : Exit) (L : Stg) : Nat → Ca → St → Prop
 | last {a : Ca} {S : St} (h : TriX P w0 c a S e L) : Rounds P w0 c e L 0 a S
 | next {m : Nat} {a : Ca} {S : St} {L1 : Stg} (h : TriX P w0 c a S .normal L1) (k : Rounds P w0 c e L m L1.act L1.st) : Rounds P w0 c e L (m + 1) a S
 | step {m : Nat} {a : Ca} {S : St} {a1 : Ca} {S1 : St} (h : TriS P w0 c a S a1 S1) (k : Rounds P w0 c e L m a1 S1) : Rounds P w0 c e L (m + 1) a S
 | cut {m : Nat} {a : Ca} {S : St} {L1 : Stg} (ha : ∀ ρ ar, ActR ρ a ar → ActR ρ L1.act ar) (hs : ∀ (ρ : Rmap) (w : World), Sim P w0 ρ S w → Sim P w0 ρ L1.st w) (k : Rounds P w0 c e L m L1.act L1.st) : Rounds P w0 c e L m a S
def CallT (P : Program) (w0 : Base) (f : FuncId) (vs : List Value) (S : St) (v : Value) (T : St) : Prop :=
 ∀ (ρ : Rmap) (w : World) (args' : Array Value), Sim P w0 ρ S w → VRs ρ vs args'.toList → NextUp P (EndGood P w0 ρ (.returned v) T) ((callFunc f args').run P w)
def TriFin (P : Program) (w0 : Base) (fn : Func) (c : Code) (a : Ca) (S : St) (v : Value) (T : St) : Prop :=
 ∀ (ρ : Rmap) (w : World) (ar : Act), Sim P w0 ρ S w → ActR ρ a ar → ∀ (R : Ending → World → Prop), (∀ e w, EndGood P w0 ρ (.returned v) T e w → R e w) → c.wpIn (FW none) 0 P (bodyPostM Fence.wide 0 P fn R) ar w
def tupF : List Value → Value
 | [v] => v
 | vs => .tuple vs.toArray
def finOk (P : Program) (rs : List ResultVar) (v : Value) (L : Stg) (r : Res3) : Bool := match r with
 | some (e, a, S) => (match e with | .normal => true | .ret => true | _ => false) && (match takeMarks a.defers S with
  | some T => match resultsL P a T rs with
   | some vs => sameV 100000 (tupF vs) v && (L.blks.all (fun x => match T.get x.1 with
    | some B => sameBlk x.2 B
    | none => false) && Nat.beq T.size L.size)
   | none => false
  | none => false)
 | none => false
theorem blks_sub {L : Stg} {T : St} (h1 : (L.blks.all (fun x => match T.get x.1 with
    | some B => sameBlk x.2 B
    | none => false)) = true) (h2 : Nat.beq T.size L.size = true) {ρ : Rmap} {w : World} (hs : Sim P w0 ρ T w) : Sim P w0 ρ L.st w := by
 refine hs.sub (fun b B hB => ?_) (of_nbeq h2).symm
 have hm := litH_get _ _ _ hB
 have := List.all_eq_true.1 h1 (b, B) hm
 simp only at this
 split at this
 ·rename_i C hC
  rw [sameBlk_eq _ _ this]; exact hC
 ·cases this
theorem triFin_code {ih : Fns} (hih : FnsSound P w0 ih) {fn : Func} {c : Code} {a : Ca} {S : St} {v : Value} {L : Stg} (h : finOk P fn.results.toList v L (ih.exec none c a S) = true) : TriFin P w0 fn c a S v L.st := by
 intro ρ w ar hs ha R hR
 unfold finOk at h
 split at h
 ·rename_i e a3 S3 hx
  rw [Bool.and_eq_true] at h
  obtain ⟨he, h⟩ := h
  split at h
  ·rename_i T htm
   split at h
   ·rename_i vs hres
    simp only [Bool.and_eq_true] at h
    obtain ⟨hv, hb, hz⟩ := h
    refine wpIn_mono (hih.exec none c _ _ _ _ _ hx ρ w ar none hs ha (.inl ⟨rfl, rfl⟩)) ?_
    rintro e3 ar3 w3 ⟨ρ3, p1, p2, p3, p4⟩
    have key : LeavesInM Fence.wide 0 P fn ar3.tmps R ar3.defers .returning w3 := by
     refine takeMarks_sound (ρ := ρ3) (S2 := T) (by simp) (fun w4 hw4 => ?_) a3.defers S3 ar3.defers w3 htm p3.df p4
     obtain ⟨vs', hvs, hr⟩ := results_sound hw4 p3 hres
     refine ⟨_, hr, hR _ _ ⟨ρ3, p1, .ret ?_, blks_sub hb hz hw4⟩⟩
     rw [← sameV_eq _ _ _ hv]
     have hl := hvs.1
     cases vs with
     | nil =>
      cases vs' with
      | nil => exact VR.tuple' VRs.nil
      | cons y r => simp at hl
     | cons x r =>
      cases vs' with
      | nil => simp at hl
      | cons y r' =>
       cases r with
       | nil =>
        cases r' with
        | nil => exact hvs.head
        | cons _ _ => simp at hl
       | cons x2 r2 =>
        cases r' with
        | nil => simp at hl
        | cons y2 r2' => exact VR.tuple' hvs
    cases p2 with
    | normal => exact key
    | ret => exact key
    | exit id => cases he
    | pan hp => cases he
   ·cases h
  ·cases h
 ·cases h
theorem callT_fin {f : FuncId} {fn : Func} {c : Code} (hf : P.funcs[f]? = some fn) (hb : fn.body = some c) (hnm : (fn.name == "runtime.NumGoroutine") = false) {vs : List Value} {n : Nat} (hn : maxN fn.ntmps vs.length = n) (hle : Nat.ble n 256 = true)
  {S : St} {v : Value} {T : St} (h : TriFin P w0 fn c { n := n, t := PT.ofList 0 (PT.nil 8) vs, defers := [] } S v T) : CallT P w0 f vs S v T := by
 intro ρ w args' hs hv
 rw [run_callFunc hf hb hnm]
 subst hn
 exact callsIn_of_wp_marks (n := 0) hf hb trivial (h ρ w _ hs (enter_act hv (Nat.le_of_ble_eq_true hle)) _ fun _ _ h => h)
theorem call_true {W : World} {f : FuncId} {fn : Func} {c : Code} (hf : P.funcs[f]? = some fn) (hb : fn.body = some c) (hnm : (fn.name == "runtime.NumGoroutine") = false) {G : List (Nat × List Value)} {T : St}
  (h : CallT P ⟨W, fun _ => false⟩ f [] (startS G P.globals.size) (.bool true) T) (hn : P.globals.size ≤ W.heap.size)
  (hG : ∀ g l, (g, l) ∈ G → ∃ (arr : Array Value) (e : TypeId) (fz : Nat × Nat), W.heap[g]? = some (.cells arr e fz) ∧ arr.toList = l) (hfl : ∀ g l, (g, l) ∈ G → ∀ v ∈ l, flatV flatN v = true) :
  Calls P f #[] W fun e w => e = .returned (.bool true) ∧ Kept W w := by
 have hsim := start_sim (P := P) hn hG hfl
 have := h _ W #[] hsim VRs.nil
 rw [run_callFunc hf hb hnm] at this
 refine (callsIn_wide.1 this).mono ?_
 rintro e w ⟨ρ', _, h2, h3⟩
 cases h2 with
 | ret hv => cases hv; exact ⟨rfl, h3.kept⟩
def tB : Code → Code
 | .seq _ b => b
 | .cond _ _ b => b
 | c => c
section
variable {c : Code} {a : Ca} {S : St} {e : Exit} {L L1 : Stg}
end
end Go.Cm

namespace Go.Cm
open Go
variable {P : Program} {w0 : Base}
theorem Sim.view {ρ : Rmap} {S : St} {w : World} (h : Sim P w0 ρ S w) {c : List Value} {e : TypeId} {L : Loc} (hr : L.r < w0.heap.size) (hB : BlkOk P (upd ρ S.size L) (.cells c e true false []) w.heap[L.r]? L) :
  Ext ρ (upd ρ S.size L) ∧ Sim P w0 (upd ρ S.size L) (S.new (.cells c e true false [])).2 w := by
 have hnone : ρ S.size = none := by
  cases hx : ρ S.size with
  | none => rfl
  | some M => exact absurd (h.dom _ _ hx).1 (Nat.lt_irrefl _)
 have hext := ext_upd L hnone
 have hget : ∀ b, (S.new (.cells c e true false [])).2.get b = if b = S.size then some (.cells c e true false []) else S.get b := by
  intro b
  show (⟨S.heap.set S.size _, S.size + 1⟩ : St).get b = _
  simp only [St.get, Heap.get_set_any]
 refine ⟨hext, ⟨h.size, h.old, h.os, h.out, fun b M hb => ?_, fun b M C hb hC => ?_, fun b M C hb hC hm => ?_, fun g hg => let ⟨M, a, b⟩ := h.glob g hg; ⟨M, hext _ _ a, b⟩, fun b hb => ?_⟩⟩
 ·show b < S.size + 1 ∧ _
  unfold upd at hb
  split at hb
  ·cases hb
   have := h.size
   exact ⟨by omega, by omega⟩
  ·have := h.dom b M hb
   exact ⟨by omega, this.2⟩
 ·rw [hget] at hC
  unfold upd at hb
  by_cases e' : b = S.size
  ·rw [if_pos e'] at hb hC
   cases hb; cases hC
   exact hB
  ·rw [if_neg e'] at hb hC
   exact (h.blk b M C hb hC).mono hext
 ·rw [hget] at hC
  unfold upd at hb
  by_cases e' : b = S.size
  ·rw [if_pos e'] at hb hC
   cases hC
   cases hm
  ·rw [if_neg e'] at hb hC
   refine ⟨(h.own b M C hb hC hm).1, fun b' L' B' hb' hr' hB' hne => ?_⟩
   rw [hget] at hB'
   unfold upd at hb'
   by_cases e2 : b' = S.size
   ·rw [if_pos e2] at hb'
    cases hb'
    have := (h.own b M C hb hC hm).1
    omega
   ·rw [if_neg e2] at hb' hB'
    exact (h.own b M C hb hC hm).2 b' L' B' hb' hr' hB' hne
 ·have := h.no b hb
  refine ⟨?_, by show b < S.size + 1; omega⟩
  unfold upd
  rw [if_neg (by omega)]
  exact this.1
end Go.Cm

namespace Go.Cm
open Go
def scalarV : Value → Bool
 | .bool _ => true
 | .int _ _ => true
 | .string _ => true
 | _ => false
mutual
def renP : Nat → Value → Value → Option (List (Nat × Nat))
 | 0, _, _ => none
 | _ + 1, .slice (some ⟨b1, o1, none⟩) n1 c1, .slice (some ⟨b, o, none⟩) n2 c2 => bif Nat.beq o1 o && (Nat.beq n1 n2 && Nat.beq c1 c2) then some [(b1, b)] else none
 | _ + 1, .slice none 0 0, .slice none 0 0 => some []
 | n + 1, .agg a, .agg b => renL n a.toList b.toList
 | _ + 1, x, y => bif scalarV x && sameV 1000 x y then some [] else none
def renL : Nat → List Value → List Value → Option (List (Nat × Nat))
 | 0, _, _ => none
 | _ + 1, [], [] => some []
 | n + 1, x :: l, y :: r => match renP n x y, renL n l r with
  | some p, some q => some (p ++ q)
  | _, _ => none
 | _ + 1, _, _ => none
end
end Go.Cm

namespace Go.Cm
open Go
variable {P : Program} {w0 : Base} {K : Known}
theorem zeroKnown {W : World} {f : FuncId} {v : Value} {S : St} (h : ∀ w, Kept W w → Calls P f #[] w fun e w' => e = .returned v ∧ Kept w w') :
  ∀ (w0 : Base) (ρ : Rmap) (w : World) (args' : Array Value), w0.toWorld = W → Sim P w0 ρ S w → VRs ρ [] args'.toList → Calls P f args' w fun e w' => e = .returned v ∧ Kept w w' := by
 intro w0 ρ w args' e hs hv
 subst e
 have : args' = #[] := by
  apply Array.ext'
  simpa using hv.nil_inv
 subst this
 exact h w hs.kept
end Go.Cm

