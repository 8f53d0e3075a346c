/-
  CM, part 22: a function's run in stages: states written out between them.
-/
import Derived.Test.YtfoonohjjeofhaaGreatDoorCmWorld
namespace Go.Cm
open Go
variable {P : Program} {w0 : Base} {K : Known}

/-- a state, written out: an activation's values, the blocks that are still of use -/
structure Stg where
  n : Nat
  vals : List Value
  blks : List (Nat × Blk)
  size : Nat
def Stg.act (L : Stg) : Ca := ⟨L.n, PT.ofList 0 (PT.nil 8) L.vals, []⟩
def litH : List (Nat × Blk) → PT Blk 16
  | [] => PT.nil 16
  | (b, B) :: r => (litH r).set b (some B)
def Stg.st (L : Stg) : St := ⟨litH L.blks, L.size⟩
def sameNats : List Nat → List Nat → Bool
  | [], [] => true
  | a :: l, b :: r => Nat.beq a b && sameNats l r
  | _, _ => false
theorem sameNats_eq : ∀ a b : List Nat, sameNats a b = true → a = b
  | [], [], _ => rfl
  | [], _ :: _, h => by cases h
  | _ :: _, [], h => by cases h
  | a :: l, b :: r, h => by
    simp only [sameNats, Bool.and_eq_true] at h
    rw [of_nbeq h.1, sameNats_eq l r h.2]
def sameBlk : Blk → Blk → Bool
  | .cells c e r o k, .cells c' e' r' o' k' => sameL 100000 c c' && (Nat.beq e e' && ((r == r') && ((o == o') && sameNats k k')))
  | .map [] c, .map [] c' => Nat.beq c c'
  | _, _ => false
theorem sameBlk_eq (a b : Blk) (h : sameBlk a b = true) : a = b := by
  unfold sameBlk at h
  split at h
  · simp only [Bool.and_eq_true] at h
    rw [sameL_eq _ _ _ h.1, of_nbeq h.2.1, eq_of_beq h.2.2.1, eq_of_beq h.2.2.2.1, sameNats_eq _ _ h.2.2.2.2]
  · rw [of_nbeq h]
  · cases h
def litOk (L : Stg) (r : Res3) : Bool := match r with
  | some (.normal, ⟨n, t, []⟩, S) => Nat.beq n L.n && ((List.range 256).all (fun i => sameV 100000 (Ca.get ⟨n, t, []⟩ i) (L.act.get i)) && (L.blks.all (fun x => match S.get x.1 with
    | some B => sameBlk x.2 B
    | none => false) && Nat.beq S.size L.size))
  | _ => false

theorem Sim.sub {ρ : Rmap} {S T : St} {w : World} (h : Sim P w0 ρ S w) (hs : ∀ b B, T.get b = some B → S.get b = some B) (hz : T.size = S.size) : Sim P w0 ρ T w :=
  ⟨h.size, h.old, h.os, h.out, fun b L hb => by rw [hz]; exact h.dom b L hb, fun b L B hb hB => h.blk b L B hb (hs b B hB),
    fun b L B hb hB hm => ⟨(h.own b L B hb (hs b B hB) hm).1, fun b' L' B' hb' hr hB' hne => (h.own b L B hb (hs b B hB) hm).2 b' L' B' hb' hr (hs b' B' hB') hne⟩, h.glob, fun b hb => by rw [hz]; exact h.no b hb⟩

theorem litH_get : ∀ (l : List (Nat × Blk)) (b : Nat) (B : Blk), (litH l).get b = some B → (b, B) ∈ l
  | [], b, B, h => by simp only [litH, PT.get_nil] at h; cases h
  | (c, C) :: l, b, B, h => by
    simp only [litH, PT.get_set_any] at h
    split at h
    · rename_i he
      cases h
      rw [he.1]; simp
    · exact List.mem_cons_of_mem _ (litH_get l b B h)

theorem lit_sound {L : Stg} {r : Res3} (h : litOk L r = true) : ∃ a S, r = some (.normal, a, S) ∧ (∀ ρ ar, ActR ρ a ar → ActR ρ L.act ar) ∧ (∀ (w0 : Base) (ρ : Rmap) (w : World), Sim P w0 ρ S w → Sim P w0 ρ L.st w) := by
  unfold litOk at h
  split at h
  · rename_i n t S
    simp only [Bool.and_eq_true, List.all_eq_true] at h
    obtain ⟨h1, h2, h3, h4⟩ := h
    have h1 := of_nbeq h1
    have h4 := of_nbeq h4
    refine ⟨_, _, rfl, fun ρ ar ha => ?_, fun w0 ρ w hs => ?_⟩
    · have hget : ∀ i, Ca.get ⟨n, t, []⟩ i = L.act.get i := by
        intro i
        rcases Nat.lt_or_ge i 256 with hi | hi
        · exact sameV_eq _ _ _ (h2 i (List.mem_range.2 hi))
        · have hb : ¬ i < 2 ^ 8 := Nat.not_lt.2 hi
          unfold Ca.get
          rw [PT.get_big _ hb, PT.get_big _ hb]
      refine ⟨by have := ha.le; simp only at this; rw [h1] at this; exact this, ⟨by have := ha.tm.1; rw [h1] at this; exact this, fun i => ?_⟩, ha.df⟩
      have := ha.tm.2 i
      rw [← get_eq ⟨n, t, []⟩, hget, get_eq] at this
      exact this
    · refine hs.sub (fun b B hB => ?_) h4.symm
      have hm := litH_get _ _ _ hB
      have := h3 (b, B) hm
      simp only at this
      split at this
      · rename_i C hC
        rw [sameBlk_eq _ _ this]; exact hC
      · cases this
  · cases h

/-- codes one behind the other -/
def codeOf (cs : List Code) (t : Code) : Code := cs.foldr .seq t
def runSeq (ex : Option Nat → Code → Ca → St → Res3) : List Code → Ca → St → Res3
  | [], a, S => some (.normal, a, S)
  | c :: r, a, S => match ex none c a S with
    | some (.normal, a', S') => runSeq ex r a' S'
    | r => r

theorem runSeq_wp {ih : Fns} (hih : FnsSound P w0 ih) {t : Code} {Q : Exit → Act → World → Prop} {a1 : Ca} {S1 : St} : ∀ (cs : List Code) (a : Ca) (S : St), runSeq ih.exec cs a S = some (.normal, a1, S1) → ∀ (ρ : Rmap) (w : World) (ar : Act),
    Sim P w0 ρ S w → ActR ρ a ar → (∀ ρ1 ar1 w1, Ext ρ ρ1 → ActR ρ1 a1 ar1 → Sim P w0 ρ1 S1 w1 → t.wpIn (FW none) 0 P Q ar1 w1) → (codeOf cs t).wpIn (FW none) 0 P Q ar w
  | [], a, S, h, ρ, w, ar, hs, ha, hk => by
    simp only [runSeq, Option.some.injEq, Prod.mk.injEq, true_and] at h
    obtain ⟨rfl, rfl⟩ := h
    exact hk ρ ar w (Ext.refl _) ha hs
  | c :: r, a, S, h, ρ, w, ar, hs, ha, hk => by
    unfold runSeq at h
    split at h
    · rename_i a2 S2 hx
      refine wpIn_seq (wpIn_mono (hih.exec none c _ _ _ _ _ hx ρ w ar none hs ha (.inl ⟨rfl, rfl⟩)) ?_)
      rintro e2 ar2 w2 ⟨ρ2, h1, h2, h3, h4⟩
      cases h2
      exact runSeq_wp hih r a2 S2 h ρ2 w2 ar2 h4 h3 fun ρ1 ar1 w1 x y z => hk ρ1 ar1 w1 (h1.trans x) y z
    · rename_i hne
      exact absurd h (hne a1 S1)

def endTrue (P : Program) (rs : List ResultVar) (r : Res3) : Bool := match r with
  | some (.ret, a, S) => match takeMarks a.defers S with
    | some S' => match resultsL P a S' rs with
      | some [.bool true] => true
      | _ => false
    | none => false
  | _ => false

/-- a function of no arguments, run in three stages, that returns true -/
theorem staged_true {W : World} (hm : P.follows .mixedOrders = true) (hK : KnownSound P K W) {n : Nat} {f : FuncId} {fn : Func} {c1 c2 : List Code} {t : Code} (hf : P.funcs[f]? = some fn) (hb : fn.body = some (codeOf c1 (codeOf c2 t)))
    (hnt : maxN fn.ntmps 0 ≤ 256) {G : List (Nat × List Value)} {L1 L2 : Stg}
    (h1 : litOk L1 (runSeq (fnsG P K n).exec c1 { n := maxN fn.ntmps 0, t := PT.nil 8, defers := [] } (startS G P.globals.size)) = true)
    (h2 : litOk L2 (runSeq (fnsG P K n).exec c2 L1.act L1.st) = true) (h3 : endTrue P fn.results.toList ((fnsG P K n).exec none t L2.act L2.st) = true) (hn : P.globals.size ≤ W.heap.size)
    (hG : ∀ g l, (g, l) ∈ G → ∃ (arr : Array Value) (e : TypeId) (fz : Nat × Nat), W.heap[g]? = some (.cells arr e fz) ∧ arr.toList = l) (hfl : ∀ g l, (g, l) ∈ G → ∀ v ∈ l, flatV flatN v = true) :
    Calls P f #[] W fun e w => e = .returned (.bool true) ∧ Kept W w := by
  rw [fnsG_eq] at h1 h2 h3
  have hih := fns_sound hm hK n n (Nat.le_refl _) (fun _ => false)
  have hsim := start_sim (P := P) hn hG hfl
  obtain ⟨a1, S1, e1, A1, B1⟩ := lit_sound (P := P) h1
  obtain ⟨a2, S2, e2, A2, B2⟩ := lit_sound (P := P) h2
  refine callsIn_wide.1 (callsIn_of_wp_marks (n := 0) hf hb trivial ?_)
  have hact := enter_act (ρ := startR P.globals.size W) (args := []) (args' := #[]) VRs.nil (n := fn.ntmps) hnt
  refine runSeq_wp hih c1 _ _ e1 _ W _ hsim hact fun ρ1 ar1 w1 x1 y1 z1 => ?_
  refine runSeq_wp hih c2 _ _ e2 ρ1 w1 ar1 (B1 _ _ _ z1) (A1 _ _ y1) fun ρ2 ar2 w2 x2 y2 z2 => ?_
  unfold endTrue at h3
  split at h3
  · rename_i a3 S3 hx
    refine wpIn_mono (hih.exec none t _ _ _ _ _ hx ρ2 w2 ar2 none (B2 _ _ _ z2) (A2 _ _ y2) (.inl ⟨rfl, rfl⟩)) ?_
    rintro e3 ar3 w3 ⟨ρ3, p1, p2, p3, p4⟩
    cases p2
    split at h3
    · rename_i S4 htm
      split at h3
      · rename_i hres
        show LeavesInM Fence.wide 0 P fn ar3.tmps _ ar3.defers .returning w3
        refine takeMarks_sound (ρ := ρ3) (S2 := S4) (by simp) (fun w4 hw4 => ?_) a3.defers S3 ar3.defers w3 htm p3.df p4
        obtain ⟨vs', hv, hr⟩ := results_sound hw4 p3 hres
        obtain ⟨v', l', rfl, hv1, hv2⟩ := hv.cons_inv
        cases hv2.nil_inv
        cases hv1
        exact ⟨_, hr, rfl, hw4.kept⟩
      · cases h3
    · cases h3
  · cases h3

end Go.Cm
