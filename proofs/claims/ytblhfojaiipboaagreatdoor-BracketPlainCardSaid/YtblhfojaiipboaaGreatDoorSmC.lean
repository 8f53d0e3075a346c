/-
  The iterator over the sections. section.find. section.Sections. section.Run. Slices of the library. dot.dots. color: colored, pair. color: pairs. Contains, items, durs. A row that is cleared. DeleteFunc. dot.collect, meanings. dot.Check. dot.Meanings. dot.Count. color.Pairs. dot.Of. dot.Marks$1.
-/
import Derived.Test.YtblhfojaiipboaaGreatDoorSmB
namespace Go.Proofs.YtblhfojaiipboaaGreatDoor
open Go.Cm Go
set_option maxRecDepth 100000
variable {S : St}
def SecOk (X : List Sg) (p : Nat × Nat) : Prop := 2 ≤ p.1 ∧ p.1 < p.2 ∧ p.2 ≤ X.length ∧ ∃ s, nth X p.1 = some s ∧ NR s
def secC (p : Nat × Nat) : List Value := secCells p.1 p.2 2 2 2 2
def SecsOk (X : List Sg) (D : List (List Value)) : Prop := ∀ c, c ∈ D → ∃ p, c = secC p ∧ SecOk X p
theorem SecsOk.app {X : List Sg} {D : List (List Value)} {p : Nat × Nat} (h : SecsOk X D) (hp : SecOk X p) : SecsOk X (D ++ [secC p]) := by
 intro c hc
 rcases List.mem_append.1 hc with hc | hc
 ·exact h c hc
 ·exact ⟨p, List.mem_singleton.1 hc, hp⟩
def secG : List Sg → Nat → Int → Int → List (List Value)
 | [], _, f, g => bif decide (f ≥ 0) then [secCells f g 2 2 2 2] else []
 | s :: r, i, f, g => bif classI s.kind == 1 then secG r (i + 1) (bif decide (f < 0) then (i : Int) else f) ((i : Int) + 1)
  else bif classI s.kind == 2 then secG r (i + 1) f ((i : Int) + 1)
  else bif classI s.kind == 3 then (bif decide (f ≥ 0) then secCells f g 2 2 2 2 :: secG r (i + 1) (-1) 0 else secG r (i + 1) (-1) 0)
  else secG r (i + 1) f g
section
variable {s : Sg} {r : List Sg} {i : Nat} {f g : Int}
theorem sg_1 (hc : classI s.kind = 1) (h : decide (f < 0) = true) : secG (s :: r) i f g = secG r (i + 1) i ((i : Int) + 1) := by rw [secG, hc, h]; rfl
theorem sg_2 (hc : classI s.kind = 1) (h : decide (f < 0) = false) : secG (s :: r) i f g = secG r (i + 1) f ((i : Int) + 1) := by rw [secG, hc, h]; rfl
theorem sg_3 (hc : classI s.kind = 2) : secG (s :: r) i f g = secG r (i + 1) f ((i : Int) + 1) := by rw [secG, hc]; rfl
theorem sg_4 (hc : classI s.kind = 3) (h : decide (f ≥ 0) = true) : secG (s :: r) i f g = secCells f g 2 2 2 2 :: secG r (i + 1) (-1) 0 := by rw [secG, hc, h]; rfl
theorem sg_5 (hc : classI s.kind = 3) (h : decide (f ≥ 0) = false) : secG (s :: r) i f g = secG r (i + 1) (-1) 0 := by rw [secG, hc, h]; rfl
theorem sg_6 (hc : classI s.kind = 4) : secG (s :: r) i f g = secG r (i + 1) f g := by rw [secG, hc]; rfl
theorem sg_7 (h : decide (f ≥ 0) = true) : secG [] i f g = [secCells f g 2 2 2 2] := by rw [secG, h]; rfl
theorem sg_8 (h : decide (f ≥ 0) = false) : secG [] i f g = [] := by rw [secG, h]; rfl
end
def secL (X : List Sg) : List (List Value) := secG X 0 (-1) 0
abbrev Q4 := Int × Int × Int × Int
def z4 : Q4 := (0, 0, 0, 0)
def t4 : Q4 := (2, 2, 2, 2)
structure SI (X : List Sg) (i : Nat) (f g : Int) (p q : Q4) (kb : Bool) : Prop where
 lo : i < 2 → f = -1 ∧ p = z4 ∧ q = z4
 hi : 2 ≤ i → kb = true ∧ p = t4 ∧ q = t4
 sec : f = -1 ∨ ∃ k t : Nat, f = k ∧ g = t ∧ SecOk X (k, t) ∧ t ≤ i
 prev : ∀ j s, i = j + 1 → nth X j = some s → NR s → 0 ≤ f
theorem sec_next {X : List Sg} {i : Nat} {f g : Int} (h : f = -1 ∨ ∃ k t : Nat, f = k ∧ g = t ∧ SecOk X (k, t) ∧ t ≤ i) (hf : 0 ≤ f) (hi : i < X.length) : f = -1 ∨ ∃ k t : Nat, f = k ∧ (i : Int) + 1 = t ∧ SecOk X (k, t) ∧ t ≤ i + 1 := by
 rcases h with h | ⟨k, t, h1, _, ⟨h3, h4, h5, h6⟩, h7⟩
 ·omega
 ·have h3 : 2 ≤ k := h3
  have h4 : k < t := h4
  exact .inr ⟨k, i + 1, h1, rfl, ⟨h3, by show k < i + 1; omega, hi, h6⟩, by omega⟩
theorem sec_more {X : List Sg} {i : Nat} {f g : Int} (h : f = -1 ∨ ∃ k t : Nat, f = k ∧ g = t ∧ SecOk X (k, t) ∧ t ≤ i) : f = -1 ∨ ∃ k t : Nat, f = k ∧ g = t ∧ SecOk X (k, t) ∧ t ≤ i + 1 := by
 rcases h with h | ⟨k, t, h1, h2, h3, h4⟩
 ·exact .inl h
 ·exact .inr ⟨k, t, h1, h2, h3, by omega⟩
theorem nr_class {s : Sg} (h : NR s) : (1 ≤ s.kind ∧ s.kind ≤ 12) ∧ classI s.kind = 1 ∧ (s.kind = 1 ∨ s.kind = 2) := by
 rcases h with ⟨v, p, c, _, _, rfl⟩ | ⟨v, _, rfl⟩
 ·exact ⟨⟨by show (1 : Int) ≤ 1; decide, by show (1 : Int) ≤ 12; decide⟩, rfl, .inl rfl⟩
 ·exact ⟨⟨by show (1 : Int) ≤ 2; decide, by show (2 : Int) ≤ 12; decide⟩, rfl, .inr rfl⟩
theorem ex_class {s : Sg} (h : EX s) : (1 ≤ s.kind ∧ s.kind ≤ 12) ∧ ((classI s.kind = 4) ∨ (classI s.kind = 3 ∧ ((∃ b, s = mensS b) ∨ (s.kind == 5) = false))) := by
 rcases h with rfl | rfl | rfl | ⟨n, _, rfl⟩ | ⟨b, rfl⟩ | rfl
 ·exact ⟨by decide, .inl rfl⟩
 ·exact ⟨by decide, .inl rfl⟩
 ·exact ⟨by decide, .inr ⟨rfl, .inr rfl⟩⟩
 ·exact ⟨⟨by show (1 : Int) ≤ 10; decide, by show (10 : Int) ≤ 12; decide⟩, .inr ⟨rfl, .inr rfl⟩⟩
 ·exact ⟨⟨by show (1 : Int) ≤ 5; decide, by show (5 : Int) ≤ 12; decide⟩, .inr ⟨rfl, .inl ⟨b, rfl⟩⟩⟩
 ·exact ⟨by decide, .inr ⟨rfl, .inr rfl⟩⟩
theorem nr_no {s : Sg} (h : NR s) : ¬ (classI s.kind = 2 ∨ classI s.kind = 3 ∨ classI s.kind = 4) := by
 obtain ⟨_, h1, _⟩ := nr_class h
 rw [h1]; decide
theorem no_prev {X : List Sg} {i : Nat} {s : Sg} {f : Int} (hs : nth X i = some s) (hn : ¬ NR s) : ∀ j u, i + 1 = j + 1 → nth X j = some u → NR u → 0 ≤ f := fun j u e h2 h3 => by
 have e : j = i := by omega
 subst e
 rw [Option.some.inj (hs.symm.trans h2)] at hn
 exact absurd h3 hn
theorem sec_app {X : List Sg} {i : Nat} {f g : Int} {D : List (List Value)} (h : f = -1 ∨ ∃ k t : Nat, f = k ∧ g = t ∧ SecOk X (k, t) ∧ t ≤ i) (hf : 0 ≤ f) (hD : SecsOk X D) : SecsOk X (D ++ [secCells f g 2 2 2 2]) := by
 rcases h with h | ⟨k, t, rfl, rfl, h3, _⟩
 ·omega
 ·exact hD.app h3
theorem LnOk.cl {X : List Sg} (h : LnOk X) {i : Nat} {s : Sg} (hs : nth X i = some s) : (1 ≤ s.kind ∧ s.kind ≤ 12) ∧
  ((classI s.kind = 1 ∧ 2 ≤ i ∧ NR s) ∨ (classI s.kind = 2 ∧ 2 ≤ i ∧ s = dotS ∧ ∃ j u, i = j + 1 ∧ nth X j = some u ∧ NR u) ∨ (classI s.kind = 3 ∧ 1 ≤ i ∧ ((∃ b, s = mensS b) ∨ (2 ≤ i ∧ (s.kind == 5) = false))) ∨ (classI s.kind = 4 ∧ i ≠ 1)) := by
 match i, hs with
 | 0, hs =>
  obtain rfl := Option.some.inj (hs.symm.trans h.c0)
  exact ⟨by decide, .inr (.inr (.inr ⟨rfl, by decide⟩))⟩
 | 1, hs =>
  obtain rfl := Option.some.inj (hs.symm.trans h.c1)
  exact ⟨by decide, .inr (.inr (.inl ⟨rfl, by decide, .inl ⟨false, rfl⟩⟩))⟩
 | j + 2, hs =>
  rcases h.el j s hs with h2 | h2 | ⟨rfl, v, p, c, hv, hp, h3⟩
  ·obtain ⟨h4, h5, _⟩ := nr_class h2
   exact ⟨h4, .inl ⟨h5, by omega, h2⟩⟩
  ·obtain ⟨h4, h5⟩ := ex_class h2
   refine ⟨h4, ?_⟩
   rcases h5 with h5 | ⟨h5, h6⟩
   ·exact .inr (.inr (.inr ⟨h5, by omega⟩))
   ·refine .inr (.inr (.inl ⟨h5, by omega, ?_⟩))
    rcases h6 with h6 | h6
    ·exact .inl h6
    ·exact .inr ⟨by omega, h6⟩
  ·exact ⟨by decide, .inr (.inl ⟨rfl, by omega, rfl, j + 1, _, rfl, h3, .inl ⟨v, p, c, hv, hp, rfl⟩⟩)⟩
theorem done_nE {P : Program} {rs : List ResultVar} {L : Env} {S : St} {vs : List Value} {Q : Ending → St → Prop} (h : ress P L S rs = some vs) (hq : Q (.returned (tupV vs)) S) : DoneE P rs Q .normal L S := ⟨vs, h, hq⟩
def SecR (Sb T : St) (z : Fr) (X : List Sg) (r : Ending) (S' : St) : Prop := r = .returned (tupV []) ∧ ∃ av D, SecsOk X D ∧ D = secL X ∧ D.length ≤ X.length + 1 ∧ HoldG Sb [T] S' (z.l av D.length) [gS av D]
noncomputable def cd46 : Code := Tryz.f46.body.getD .skip
theorem spec46 {Sb T : St} (z : Fr) (hz : Has 25 ⟨25, z.t, []⟩ [(3, ptrTo z.b3 0)]) (aX : Option Addr) (cX : Nat) (X : List Sg) (hX : LnOk X) (hcp : z.cp = [.string partS, .slice aX X.length cX]) (hn : X.length ≤ 27) (hG : Gc Sb) (hv : Sgs T (.slice aX X.length cX) X) {av0 : Option Addr} (hl : HoldG Sb [T] S (z.l av0 ([] : List (List Value)).length) [gS av0 []]) : CE Tryz.prog KK 46 [.func (.yield z.lb) #[] #[], ptrTo z.bp 0] S (SecR Sb T z X) := by
 refine ce_enter (c := cd46) (n := 72) Tryz.func46 rfl rfl rfl (by kernel_rfl) rfl rfl ?_; refine zg ?_; refine re_allocL hl rfl rfl rfl rfl rfl (z := [.int .i64 0, .int .i64 0, .int .i64 0, .int .i64 0]) (by kernel_rfl) ?_; intro B3 S3 hl; refine zg ?_; refine rr rfl (rd_build rfl rfl (v := aggL (secCells (-1) 0 0 0 0 0)) (by rfl)) ?_; refine re_allocL hl rfl rfl rfl rfl rfl (z := [.int .i64 0, .int .i64 0, .int .i64 0, .int .i64 0, .int .i64 0, .int .i64 0, .int .i64 0, .int .i64 0]) (by kernel_rfl) ?_; intro B5 S5 hl
 refine re_storeL hl 0 rfl rfl rfl rfl rfl rfl rfl (by kernel_rfl) (c' := secCells (-1) 0 0 0 0 0) rfl ?_; intro S6 hl; refine zg ?_; refine rr rfl (rd_load rfl rfl (l1 (hl.get 8 rfl) (by rw [hcp]; rfl))) ?_; refine zg ?_; refine xe_sub (L' := [(12, .int .i64 0), (11, .int .i64 X.length), (10, .slice aX X.length cX), (5, ptrTo B5 0), (4, .bool false), (3, ptrTo B3 0), (0, .func (.yield z.lb) #[] #[])]) ⟨rfl, rfl, rfl, rfl, rfl, rfl, rfl, trivial⟩ ?_
 refine xp_loop rfl (fun m Le S' => ∃ (i : Nat) (f g : Int) (p q : Q4) (kb : Bool) (av : Option Addr) (D : List (List Value)), i ≤ X.length ∧ m = X.length - i ∧ SI X i f g p q kb ∧ SecsOk X D ∧ (D.length ≤ i ∧ D ++ secG (X.drop i) i f g = secL X) ∧ SubE [(12, .int .i64 (i : Int)), (11, .int .i64 X.length), (10, .slice aX X.length cX), (5, ptrTo B5 0), (4, .bool kb), (3, ptrTo B3 0), (0, .func (.yield z.lb) #[] #[])] Le ∧ HoldG Sb [T] S' ([(B5, .cells (secCells f g p.1 p.2.1 p.2.2.1 p.2.2.2) 67 false true []), (B3, .cells [.int .i64 q.1, .int .i64 q.2.1, .int .i64 q.2.2.1, .int .i64 q.2.2.2] 28 false true [])] ++ z.l av D.length) [gS av D]) ?_ (m := X.length) ⟨0, -1, 0, z4, z4, false, av0, [], by omega, by omega, ⟨fun _ => ⟨rfl, rfl, rfl⟩, fun h => by omega, .inl rfl, fun j s e => by omega⟩, (fun c hc => (List.not_mem_nil hc).elim), ⟨by simp, rfl⟩, ⟨rfl, rfl, rfl, rfl, rfl, rfl, rfl, trivial⟩, hl⟩
 clear hl; rintro m Le S' ⟨i, f, g, p, q, kb, av, D, hi, rfl, hI, hD, ⟨hDl, hpr⟩, hsub, hl⟩; refine xe_sub hsub ?_
 refine zg ?_
 constructor <;> intro h13
 ·
  have hlt : i < X.length := by have := of_decide_eq_true h13; omega
  obtain ⟨s, hs⟩ := nth_some hlt
  obtain ⟨hk12, hcl⟩ := hX.cl hs
  rw [drop_nth' hs] at hpr
  obtain ⟨b1, o1, cs1, ha, _, hrow, htk⟩ := hv.elem hs
  refine zg ?_; refine re_allocL hl rfl rfl rfl rfl rfl (z := (dotS.cells.set 0 (.int .i64 0))) (by kernel_rfl) ?_; intro B7 S7 hl; refine zg ?_; refine re_storeL hl 0 rfl rfl rfl rfl rfl rfl rfl (by kernel_rfl) (c' := s.cells) rfl ?_; intro S8 hl; refine zg ?_
  refine zc hl rfl (spec32 s (hG.keep hl.keep) hk12) ?_; rintro v S9 hk1 rfl hl
  rcases hcl with ⟨hc, hi2, hnr⟩ | ⟨hc, hi2, rfl, j, u, hj, hu, hnu⟩ | ⟨hc, hi1, hme⟩ | ⟨hc, hi1⟩
  ·
   obtain ⟨rfl, rfl, rfl⟩ := hI.hi hi2
   rw [hc]
   refine zg ?_; refine rr rfl (rd_un rfl rfl rfl) ?_; refine zg ?_
   constructor <;> intro h29
   ·
    refine zg ?_; refine re_storeL hl 1 rfl rfl rfl rfl rfl rfl rfl (by kernel_rfl) (c' := secCells (i : Int) g 2 2 2 2) rfl ?_; intro S20 hl; refine zg ?_; refine re_storeL hl 1 rfl rfl rfl rfl rfl rfl rfl (by kernel_rfl) (c' := secCells (i : Int) ((i : Int) + 1) 2 2 2 2) rfl ?_; intro S21 hl; refine zg ?_
    exact ⟨X.length - (i + 1), by omega, i + 1, (i : Int), (i : Int) + 1, t4, t4, true, av, D, by omega, rfl, ⟨fun h => by omega, fun _ => ⟨rfl, rfl, rfl⟩, .inr ⟨i, i + 1, rfl, rfl, ⟨hi2, by show i < i + 1; omega, hlt, s, hs, hnr⟩, by omega⟩, fun _ _ _ _ _ => by omega⟩, hD, ⟨(by omega), by rw [← hpr, sg_1 hc h29]⟩, ⟨rfl, rfl, rfl, rfl, rfl, rfl, rfl, trivial⟩, hl.tail⟩
   ·
    have hf0 : 0 ≤ f := by have := of_decide_eq_false h29; omega
    refine zg ?_; refine re_storeL hl 1 rfl rfl rfl rfl rfl rfl rfl (by kernel_rfl) (c' := secCells f ((i : Int) + 1) 2 2 2 2) rfl ?_; intro S21 hl; refine zg ?_
    exact ⟨X.length - (i + 1), by omega, i + 1, f, (i : Int) + 1, t4, t4, true, av, D, by omega, rfl, ⟨fun h => by omega, fun _ => ⟨rfl, rfl, rfl⟩, sec_next hI.sec hf0 hlt, fun _ _ _ _ _ => hf0⟩, hD, ⟨(by omega), by rw [← hpr, sg_2 hc h29]⟩, ⟨rfl, rfl, rfl, rfl, rfl, rfl, rfl, trivial⟩, hl.tail⟩
  ·
   obtain ⟨rfl, rfl, rfl⟩ := hI.hi hi2
   have hf0 := hI.prev j u hj hu hnu
   rw [hc]
   refine zg ?_
   constructor <;> intro h39
   ·
    exfalso
    have := of_decide_eq_true h39
    omega
   refine zg ?_; refine re_storeL hl 1 rfl rfl rfl rfl rfl rfl rfl (by kernel_rfl) (c' := secCells f ((i : Int) + 1) 2 2 2 2) rfl ?_; intro S21 hl; refine zg ?_
   exact ⟨X.length - (i + 1), by omega, i + 1, f, (i : Int) + 1, t4, t4, true, av, D, by omega, rfl, ⟨fun h => by omega, fun _ => ⟨rfl, rfl, rfl⟩, sec_next hI.sec hf0 hlt, fun _ _ _ _ _ => hf0⟩, hD, ⟨(by omega), by rw [← hpr, sg_3 hc]⟩, ⟨rfl, rfl, rfl, rfl, rfl, rfl, rfl, trivial⟩, hl.tail⟩
  ·
   rw [hc]
   refine zg ?_
   rcases Nat.lt_or_ge i 2 with hi2 | hi2
   ·
    obtain ⟨rfl, rfl, rfl⟩ := hI.lo hi2
    obtain ⟨b, rfl⟩ : ∃ b, s = mensS b := by
     rcases hme with h | ⟨h, _⟩
     ·exact h
     ·omega
    refine zg ?_; refine re_storeL hl 2 rfl rfl rfl rfl rfl rfl rfl (by kernel_rfl) (c' := [.int .i64 2, .int .i64 2, .int .i64 2, .int .i64 2]) rfl ?_; intro S20 hl; refine zg ?_; refine rr rfl (rd_build rfl rfl (v := aggL (secCells (-1) 0 2 2 2 2)) (by rfl)) ?_; refine re_storeL hl 1 rfl rfl rfl rfl rfl rfl rfl (by kernel_rfl) (c' := secCells (-1) 0 2 2 2 2) rfl ?_; intro S21 hl; refine zg ?_
    exact ⟨X.length - (i + 1), by omega, i + 1, -1, 0, t4, t4, true, av, D, by omega, rfl, ⟨fun h => by omega, fun _ => ⟨rfl, rfl, rfl⟩, .inl rfl, no_prev hs fun h => nr_no h (.inr (.inl hc))⟩, hD, ⟨(by omega), by rw [← hpr, sg_5 hc rfl]⟩, ⟨rfl, rfl, rfl, rfl, rfl, rfl, rfl, trivial⟩, hl.tail⟩
   ·
    obtain ⟨rfl, rfl, rfl⟩ := hI.hi hi2
    refine re_bool (d := 52) rfl (fun h52 => ?_) (fun h52 => ?_)
    ·
     have hf0 : 0 ≤ f := of_decide_eq_true h52
     refine zg ?_
     refine re_callT rfl rfl rfl rfl rfl rfl rfl (ct_mono (round_sec z hz (own := [(B7, .cells s.cells 32 false true []), (B5, .cells (secCells f g 2 2 2 2) 67 false true []), (B3, .cells [.int .i64 2, .int .i64 2, .int .i64 2, .int .i64 2] 28 false true [])]) rfl (by omega) hl) ?_); rintro r S19 ⟨rfl, av2, hl⟩
     refine zg ?_; refine rr rfl (rd_un rfl rfl rfl) ?_
     rcases hme with ⟨b, rfl⟩ | ⟨_, hk5⟩
     ·
      refine zg ?_; refine re_storeL hl 2 rfl rfl rfl rfl rfl rfl rfl (by kernel_rfl) (c' := [.int .i64 2, .int .i64 2, .int .i64 2, .int .i64 2]) rfl ?_; intro S20 hl; refine zg ?_; refine rr rfl (rd_build rfl rfl (v := aggL (secCells (-1) 0 2 2 2 2)) (by rfl)) ?_; refine re_storeL hl 1 rfl rfl rfl rfl rfl rfl rfl (by kernel_rfl) (c' := secCells (-1) 0 2 2 2 2) rfl ?_; intro S21 hl; refine zg ?_
      exact ⟨X.length - (i + 1), by omega, i + 1, -1, 0, t4, t4, true, av2, _, by omega, rfl, ⟨fun h => by omega, fun _ => ⟨rfl, rfl, rfl⟩, .inl rfl, no_prev hs fun h => nr_no h (.inr (.inl hc))⟩, sec_app hI.sec hf0 hD, ⟨(by simp; omega), by rw [← hpr, sg_4 hc h52, List.append_assoc]; rfl⟩, ⟨rfl, rfl, rfl, rfl, rfl, rfl, rfl, trivial⟩, hl.tail⟩
     ·
      refine zg ?_
      constructor <;> intro hk6
      ·rw [hk5] at hk6; cases hk6
      refine zg ?_; refine rr rfl (rd_build rfl rfl (v := aggL (secCells (-1) 0 2 2 2 2)) (by rfl)) ?_; refine re_storeL hl 1 rfl rfl rfl rfl rfl rfl rfl (by kernel_rfl) (c' := secCells (-1) 0 2 2 2 2) rfl ?_; intro S21 hl; refine zg ?_
      exact ⟨X.length - (i + 1), by omega, i + 1, -1, 0, t4, t4, true, av2, _, by omega, rfl, ⟨fun h => by omega, fun _ => ⟨rfl, rfl, rfl⟩, .inl rfl, no_prev hs fun h => nr_no h (.inr (.inl hc))⟩, sec_app hI.sec hf0 hD, ⟨(by simp; omega), by rw [← hpr, sg_4 hc h52, List.append_assoc]; rfl⟩, ⟨rfl, rfl, rfl, rfl, rfl, rfl, rfl, trivial⟩, hl.tail⟩
    ·
     rcases hme with ⟨b, rfl⟩ | ⟨_, hk5⟩
     ·
      refine zg ?_; refine re_storeL hl 2 rfl rfl rfl rfl rfl rfl rfl (by kernel_rfl) (c' := [.int .i64 2, .int .i64 2, .int .i64 2, .int .i64 2]) rfl ?_; intro S20 hl; refine zg ?_; refine rr rfl (rd_build rfl rfl (v := aggL (secCells (-1) 0 2 2 2 2)) (by rfl)) ?_; refine re_storeL hl 1 rfl rfl rfl rfl rfl rfl rfl (by kernel_rfl) (c' := secCells (-1) 0 2 2 2 2) rfl ?_; intro S21 hl; refine zg ?_
      exact ⟨X.length - (i + 1), by omega, i + 1, -1, 0, t4, t4, true, av, D, by omega, rfl, ⟨fun h => by omega, fun _ => ⟨rfl, rfl, rfl⟩, .inl rfl, no_prev hs fun h => nr_no h (.inr (.inl hc))⟩, hD, ⟨(by omega), by rw [← hpr, sg_5 hc h52]⟩, ⟨rfl, rfl, rfl, rfl, rfl, rfl, rfl, trivial⟩, hl.tail⟩
     ·
      refine zg ?_
      constructor <;> intro hk6
      ·rw [hk5] at hk6; cases hk6
      refine zg ?_; refine rr rfl (rd_build rfl rfl (v := aggL (secCells (-1) 0 2 2 2 2)) (by rfl)) ?_; refine re_storeL hl 1 rfl rfl rfl rfl rfl rfl rfl (by kernel_rfl) (c' := secCells (-1) 0 2 2 2 2) rfl ?_; intro S21 hl; refine zg ?_
      exact ⟨X.length - (i + 1), by omega, i + 1, -1, 0, t4, t4, true, av, D, by omega, rfl, ⟨fun h => by omega, fun _ => ⟨rfl, rfl, rfl⟩, .inl rfl, no_prev hs fun h => nr_no h (.inr (.inl hc))⟩, hD, ⟨(by omega), by rw [← hpr, sg_5 hc h52]⟩, ⟨rfl, rfl, rfl, rfl, rfl, rfl, rfl, trivial⟩, hl.tail⟩
  ·
   rw [hc]
   refine zg ?_
   exact ⟨X.length - (i + 1), by omega, i + 1, f, g, p, q, kb, av, D, by omega, rfl, ⟨fun h => hI.lo (by omega), fun h => hI.hi (by omega), sec_more hI.sec, no_prev hs fun h => nr_no h (.inr (.inr hc))⟩, hD, ⟨(by omega), by rw [← hpr, sg_6 hc]⟩, ⟨rfl, rfl, rfl, rfl, rfl, rfl, rfl, trivial⟩, hl.tail⟩
 ·
  rw [List.drop_eq_nil_of_le (by have := of_decide_eq_false h13; omega)] at hpr
  refine zg ?_
  constructor <;> intro h68
  ·
   refine zg ?_
   have hf0 : 0 ≤ f := of_decide_eq_true h68
   have hi2 : 2 ≤ i := by
    rcases Nat.lt_or_ge i 2 with h | h
    ·have := (hI.lo h).1; omega
    ·exact h
   obtain ⟨rfl, rfl, rfl⟩ := hI.hi hi2
   have hX2 := hX.c1
   have := nth_lt hX2
   refine re_callT rfl rfl rfl rfl rfl rfl rfl (ct_mono (round_sec z hz (own := [(B5, .cells (secCells f g 2 2 2 2) 67 false true []), (B3, .cells [.int .i64 2, .int .i64 2, .int .i64 2, .int .i64 2] 28 false true [])]) rfl (by omega) hl) ?_); rintro r S19 ⟨rfl, av2, hl⟩
   refine zg ?_
   exact done_nE rfl ⟨rfl, av2, _, sec_app hI.sec hf0 hD, by rw [← hpr, sg_7 h68], (by simp; omega), hl.tail.tail⟩
  ·
   refine zg ?_
   exact done_nE rfl ⟨rfl, av, D, hD, by rw [← hpr, sg_8 h68, List.append_nil], by omega, hl.tail.tail⟩
end Go.Proofs.YtblhfojaiipboaaGreatDoor
namespace Go.Proofs.YtblhfojaiipboaaGreatDoor
open Go.Cm Go
set_option maxRecDepth 100000
variable {S : St}
theorem cc_of_ce {P : Program} {K : Known} {f : FuncId} {args : List Value} {S : St} {Q : Value → St → Prop} (h : CE P K f args S fun r S' => ∃ v, r = .returned v ∧ Q v S') : CC P K f args S Q := by
 obtain ⟨m, r, S', h1, v, rfl, h2⟩ := h
 exact ⟨m, v, S', h1, h2⟩
noncomputable def cd39 : Code := Tryz.f39.body.getD .skip
theorem spec39 (x y : Value) : CC Tryz.prog KK 39 [aggL [x, y]] S (fun v S' => Keep S S' ∧ ∃ B, v = .func (.func 46) #[] #[ptrTo B 0] ∧ S.size ≤ B ∧ B < S'.size ∧ S'.get B = some (.cells [x, y] 25 false true [])) := by
 refine cc_enter (c := cd39) (n := 4) Tryz.func39 rfl rfl rfl (by kernel_rfl) rfl rfl ?_
 have hl := Hold.start S
 refine zg ?_; refine re_boxL hl rfl rfl rfl rfl rfl rfl ?_
 intro B1 S1 hl
 refine zg ?_; refine rr rfl (rd_func rfl rfl rfl) ?_; refine zg ?_
 refine y1 rfl ⟨hl.keep, ⟨_, rfl, (hl.at_ _ _ (List.mem_cons_self ..)).2.1, (hl.at_ _ _ (List.mem_cons_self ..)).2.2, hl.get 0 rfl⟩⟩
theorem spec31 (a : Option Addr) (cap : Nat) (C : List Sg) (hn : C.length ≤ 27) (hX : LnOk C) (hC : ∀ s, s ∈ C → one s = 0 ∧ s.kind ≠ 4) (hG : Gl S) (hGc : Gc S) (hF : Fresh S) (hv : Sgs S (.slice a C.length cap) C) : CC Tryz.prog KK 31 [aggL [.string partS, .slice a C.length cap]] S (fun v S' => Keep S S' ∧ ∃ aX av D, v = tupV [aggL [.string partS, .slice aX C.length C.length], .slice av D.length D.length, .int .i64 0] ∧ Sgs S' (.slice aX C.length C.length) C ∧ SecsOk C D ∧ D = secL C ∧ D.length ≤ C.length + 1 ∧ Grow S S' (gS av D)) := by
 refine cc_of_ce (ce_enterD (c := c31) (n := 25) Tryz.func31 rfl rfl rfl (by kernel_rfl) rfl rfl ?_)
 have hl := Hold.start S
 refine xx_seq rfl (xx_code rfl (xd_of_xe ?_))
 refine xp_region rfl (by kernel_rfl) ?_; refine re_boxL hl rfl rfl rfl rfl rfl rfl ?_; intro B1 S1 hl; refine re_allocL hl rfl rfl rfl rfl rfl (z := [.string ⟨#[]⟩, .slice none 0 0]) (by kernel_rfl) ?_; intro B2 S2 hl; refine re_allocL hl rfl rfl rfl rfl rfl (z := [.slice none 0 0]) (by kernel_rfl) ?_; intro B3 S3 hl; refine re_allocL hl rfl rfl rfl rfl rfl (z := [.int .i64 0]) (by kernel_rfl) ?_; intro B4 S4 hl; refine re_end rfl ?_
 refine xx_seq rfl (xx_code rfl (xd_of_xe ?_))
 refine xp_region rfl (by kernel_rfl) ?_; refine re_rd rfl rfl rfl rfl (rd_load rfl rfl (loadN_of (z := 2) (by kernel_rfl) (by kernel_rfl) (hl.get 3 rfl) rfl)) ?_
 refine zc hl rfl (spec37 a cap C (hl.keep.3 hF) (hG.keep hl.keep) (by omega) hC (hv.move (hl.since 0 rfl))) ?_; rintro v S5 hk5 ⟨aX, rfl, hgX⟩ hl
 have hvX : Sgs S5 (.slice aX C.length C.length) C := Grow.ls (f := Sg.cells) (fun _ => rfl) hgX
 have hl := hl.mark
 refine re_rd rfl rfl rfl rfl (rd_move rfl rfl) ?_; iterate 2 refine re_rd rfl rfl rfl rfl (rd_extract rfl rfl rfl) ?_
 refine re_storeL hl 2 rfl rfl rfl rfl rfl rfl rfl (by kernel_rfl) rfl ?_; intro S1 hl; refine re_storeL hl 0 rfl rfl rfl rfl rfl rfl rfl (by kernel_rfl) rfl ?_; intro S1 hl; refine re_end rfl ?_; refine xx_seq rfl ?_
 refine xx_seq rfl (xx_code rfl (xd_of_xe ?_))
 refine xp_region rfl (by kernel_rfl) ?_; refine re_rd rfl rfl rfl rfl (rd_load rfl rfl (load1_of (by kernel_rfl) (hl.get 0 rfl) rfl)) ?_; refine re_rd rfl rfl rfl rfl (rd_bin rfl rfl rfl rfl) ?_; refine re_end rfl ?_; refine xx_cond rfl rfl (fun h12 => by cases h12) (fun h12 => ?_)
 refine xx_code rfl (xd_of_xe (xp_skip rfl ?_))
 refine xx_seq rfl ?_; refine xx_defer rfl rfl (by kernel_rfl) ?_; refine red_rd rfl rfl rfl rfl (rd_func rfl rfl rfl) ?_; refine red_defer rfl rfl rfl rfl rfl rfl ?_; refine red_end rfl ?_; refine xx_seq rfl ?_
 refine xx_seq rfl (xx_code rfl (xd_of_xe ?_))
 refine xp_region rfl (by kernel_rfl) ?_; refine re_rd rfl rfl rfl rfl (rd_load rfl rfl (loadN_of (z := 2) (by kernel_rfl) (by kernel_rfl) (hl.get 2 rfl) rfl)) ?_
 have hl0 := hl
 refine re_callL hl rfl rfl rfl rfl rfl rfl rfl (spec39 _ _) ?_; rintro v S6 hk6 ⟨bp, rfl, hb1, hb2, hb3⟩ hl
 have hl := hl.add hl0.below hl0.keep hb1 hb2 hb3
 refine re_end rfl ?_
 refine xx_code rfl (xdp_block rfl (xd_range rfl rfl rfl (by kernel_rfl) ?_))
 intro t ht
 have hl := ((hl.new (.defs false)).new (.loop .ready none 25 t (rgP rf) (rgA rf) (rgB rf) S6.size)).marks (Us := [S5]) (fun T hT => by rw [List.mem_singleton.1 hT]; exact List.mem_cons_self ..)
 have hl := hl.perm (List.perm_append_comm (l₁ := [_, _, _]))
 have hl := hl.addG (g := gS none []) (.inl ⟨rfl, rfl, rfl⟩)
 let z : Fr := ⟨S6.size + 1, S6.size, bp, B1, B2, B3, B4, t, [.string partS, .slice a C.length cap], [.string partS, .slice aX C.length C.length], [.string partS, .slice aX C.length C.length], .int .i64 0⟩
 refine ct_mono (ct_func (spec46 z (ht.sub (L' := [(3, ptrTo B3 0)]) ⟨rfl, trivial⟩) aX C.length C hX rfl hn hGc hvX (av0 := none) hl)) ?_
 rintro r S7 ⟨rfl, av, D, hD, hDe, hDl, hl⟩
 ·
  refine ⟨_, _, _, _, _, _, _, _, hl.get 4 rfl, rfl, ?_⟩
  have hl := hl.put (k := 4) rfl rfl (.loop .exhausted none 25 t (rgP rf) (rgA rf) (rgB rf) S6.size)
  refine xx_seq rfl (xx_code rfl (xd_of_xe ?_))
  refine xp_draw (idx := [0, 1, 2, 3, 4]) rfl (by kernel_rfl) (by kernel_rfl) ?_; refine rp_lk rfl rfl rfl rfl rfl (rd_load rfl rfl (loadN_of (z := 2) (by kernel_rfl) (by kernel_rfl) (hl.get 2 rfl) rfl)) ?_; refine rp_lk rfl rfl rfl rfl rfl (rd_load rfl rfl (load1_of (by kernel_rfl) (hl.get 1 rfl) rfl)) ?_
  refine rp_storeL hl 2 rfl rfl rfl rfl rfl rfl rfl (by kernel_rfl) rfl ?_; intro S1 hl; refine ⟨stays_of ⟨stays_load (X := True) rfl rfl (load1_of (by kernel_rfl) (hl.get 1 rfl) rfl) (same_atom (atom_slice _ _ _)) rfl trivial, stays_load (X := True) rfl rfl (loadN_of (z := 2) (by kernel_rfl) (by kernel_rfl) (hl.get 2 rfl) rfl) (same_agg rfl (atoms_cons (atom_string _) (atoms_cons (atom_slice _ _ _) atoms_nil))) rfl trivial, trivial⟩, ?_⟩
  refine rp_storeL hl 1 rfl rfl rfl rfl rfl rfl rfl (by kernel_rfl) rfl ?_; intro S1 hl; refine ⟨stays_of (allE_left ⟨stays_load (X := True) rfl rfl (load1_of (by kernel_rfl) (hl.get 1 rfl) rfl) (same_atom (atom_slice _ _ _)) rfl trivial, stays_load (X := True) rfl rfl (loadN_of (z := 2) (by kernel_rfl) (by kernel_rfl) (hl.get 2 rfl) rfl) (same_agg rfl (atoms_cons (atom_string _) (atoms_cons (atom_slice _ _ _) atoms_nil))) rfl trivial, trivial⟩), ?_⟩
  refine rp_storeL hl 0 rfl rfl rfl rfl rfl rfl rfl (by kernel_rfl) rfl ?_; intro S1 hl; refine ⟨stays_of (allE_left (allE_left ⟨stays_load (X := True) rfl rfl (load1_of (by kernel_rfl) (hl.get 1 rfl) rfl) (same_atom (atom_slice _ _ _)) rfl trivial, stays_load (X := True) rfl rfl (loadN_of (z := 2) (by kernel_rfl) (by kernel_rfl) (hl.get 2 rfl) rfl) (same_agg rfl (atoms_cons (atom_string _) (atoms_cons (atom_slice _ _ _) atoms_nil))) rfl trivial, trivial⟩)), ?_⟩
  refine rp_end rfl ?_
  refine xx_code rfl (xd_of_xe (xp_ret rfl ?_))
  refine lv_mark (hl.get 5 rfl) ?_
  have hl := hl.put (k := 5) rfl rfl (.defs true)
  refine lv_func ?_
  obtain ⟨m, md, S8, e1, rfl, hl⟩ := dd_ret (e := 0) (q := 0) hF hl ⟨_, _, rfl⟩
  exact ⟨m, _, S8, e1, lv_nil ⟨_, ress_cell rfl (loadN_of (z := 2) (by kernel_rfl) (by kernel_rfl) (hl.get 2 rfl) rfl) (ress_cell rfl (load1_of (by kernel_rfl) (hl.get 1 rfl) rfl) (ress_cell rfl (load1_of (by kernel_rfl) (hl.get 0 rfl) rfl) rfl)), _, rfl, hl.keep, aX, av, D, rfl, hvX.move (hl.since 0 rfl), hD, hDe, hDl, hl.gr _ (List.mem_cons_self ..)⟩⟩
end Go.Proofs.YtblhfojaiipboaaGreatDoor
namespace Go.Proofs.YtblhfojaiipboaaGreatDoor
open Go.Cm Go
set_option maxRecDepth 100000
variable {S : St}
theorem secs_pairs {X : List Sg} : ∀ {D : List (List Value)}, SecsOk X D → ∃ P : List (Nat × Nat), D = P.map secC ∧ ∀ p, p ∈ P → SecOk X p
 | [], _ => ⟨[], rfl, fun p hp => (List.not_mem_nil hp).elim⟩
 | c :: D, h => by
  obtain ⟨p, rfl, hp⟩ := h c (List.mem_cons_self ..)
  obtain ⟨P, rfl, hP⟩ := secs_pairs (D := D) fun c hc => h c (List.mem_cons_of_mem _ hc)
  exact ⟨p :: P, rfl, fun q hq => by
   rcases List.mem_cons.1 hq with rfl | hq
   ·exact hp
   ·exact hP q hq⟩
abbrev gP (av : Option Addr) (P : List (Nat × Nat)) : Gr := gOf 67 8 secC (.slice av P.length P.length) P
theorem gS_pairs {av : Option Addr} {P : List (Nat × Nat)} : gS av (P.map secC) = gP av P := by
 unfold gS gP gOf
 rw [List.length_map]
noncomputable def cd21 : Code := Tryz.f21.body.getD .skip
theorem spec21 (a : Option Addr) (cap : Nat) (C : List Sg) (hn : C.length ≤ 27) (hX : LnOk C) (hC : ∀ s, s ∈ C → one s = 0 ∧ s.kind ≠ 4) (hG : Gl S) (hGc : Gc S) (hF : Fresh S) (hv : Sgs S (.slice a C.length cap) C) : CC Tryz.prog KK 21 [aggL [.string partS, .slice a C.length cap]] S (fun v S' => Keep S S' ∧ ∃ av P, v = tupV [.slice av P.length P.length, .int .i64 0] ∧ P.map secC = secL C ∧ (∀ p, p ∈ P → SecOk C p) ∧ P.length ≤ 28 ∧ Grow S S' (gP av P)) := by
 refine cc_enter (c := cd21) (n := 15) Tryz.func21 rfl rfl rfl (by kernel_rfl) rfl rfl ?_
 have hl := Hold.start S
 refine zg ?_; refine re_boxL hl rfl rfl rfl rfl rfl rfl ?_
 intro B1 S1 hl
 refine zg ?_
 have hl1 := hl
 refine zc hl rfl (spec31 a cap C hn hX hC (hG.keep hl.keep) (hGc.keep hl.keep) (hl.keep.3 hF) (hv.move (hl.since 0 rfl))) ?_; rintro v S2 hk1 ⟨aX, av, D, rfl, hvX, hD, hDe, hDl, hg⟩ hl
 obtain ⟨P, rfl, hP⟩ := secs_pairs hD
 rw [gS_pairs] at hg
 have hl := hl.addG (Grow.base hg hl1.keep.1)
 rw [List.length_map] at hDl ⊢
 refine zg ?_; refine re_allocL hl rfl rfl rfl rfl rfl (z := [.string ⟨#[]⟩, .slice none 0 0]) (by kernel_rfl) ?_
 intro B4 S4 hl
 refine re_storeL hl 0 rfl rfl rfl rfl rfl rfl rfl (by kernel_rfl) (c' := [.string partS, .slice aX C.length C.length]) rfl ?_
 intro S5 hl
 refine zg ?_
 refine y2 rfl rfl ⟨hl.keep, av, P, rfl, hDe, hP, by omega, hl.gr _ (List.mem_cons_self ..)⟩
def RunP (R : List Sg) : Prop := ∀ j s, nth R j = some s → NR s ∨ (s = dotS ∧ ∃ k v p c, j = k + 1 ∧ (1 ≤ v ∧ v ≤ 8) ∧ (0 ≤ p ∧ p ≤ 8) ∧ nth R k = some (noteS v p c))
theorem RunP.app {R : List Sg} {s : Sg} (h : RunP R) (hs : NR s) : RunP (R ++ [s]) := by
 intro j x hx
 rcases nth_app hx with hx | ⟨_, rfl⟩
 ·rcases h j x hx with h2 | ⟨h2, k, v, p, c, e, h3, h4, h5⟩
  ·exact .inl h2
  ·exact .inr ⟨h2, k, v, p, c, e, h3, h4, by rw [nth_app_l (nth_lt h5)]; exact h5⟩
 ·exact .inl hs
theorem RunP.dot {R : List Sg} {v p : Int} {c : Bool} (h : RunP R) (hv : 1 ≤ v ∧ v ≤ 8) (hp : 0 ≤ p ∧ p ≤ 8) (hn : nth R (R.length - 1) = some (noteS v p c)) : RunP (R ++ [dotS]) := by
 intro j x hx
 rcases nth_app hx with hx | ⟨hj, rfl⟩
 ·rcases h j x hx with h2 | ⟨h2, k, v, p, c, e, h3, h4, h5⟩
  ·exact .inl h2
  ·exact .inr ⟨h2, k, v, p, c, e, h3, h4, by rw [nth_app_l (nth_lt h5)]; exact h5⟩
 ·have hlt := nth_lt hn
  exact .inr ⟨rfl, R.length - 1, v, p, c, by omega, hv, hp, by rw [nth_app_l hlt]; exact hn⟩
def NoCM (R : List Sg) : Prop := ∀ j s, nth R j = some s → s.color = true → s.value ≠ 5
theorem NoCM.app {R : List Sg} {s : Sg} (h : NoCM R) (hs : s.color = true → s.value ≠ 5) : NoCM (R ++ [s]) := by
 intro j x hx
 rcases nth_app hx with hx | ⟨_, rfl⟩
 ·exact h j x hx
 ·exact hs
abbrev gN (av : Option Addr) (N : List Int) : Gr := gOf 3 1 ic (.slice av N.length N.length) N
end Go.Proofs.YtblhfojaiipboaaGreatDoor
namespace Go.Proofs.YtblhfojaiipboaaGreatDoor
open Go.Cm Go
set_option maxRecDepth 100000
variable {S : St}
noncomputable def cd22 : Code := Tryz.f22.body.getD .skip
theorem spec22 (a : Option Addr) (cap : Nat) (C : List Sg) (k : Nat) (hk : k < (secL C).length) (hM : NoCM C) (hn : C.length ≤ 27) (hX : LnOk C) (hC : ∀ s, s ∈ C → one s = 0 ∧ s.kind ≠ 4) (hG : Gl S) (hGc : Gc S) (hF : Fresh S) (hv : Sgs S (.slice a C.length cap) C) : CC Tryz.prog KK 22 [aggL [.string partS, .slice a C.length cap], .int .i64 k] S (fun v S' => Keep S S' ∧ ∃ ar an R N, v = tupV [.slice ar R.length R.length, .slice an N.length N.length, .int .i64 0] ∧ RunP R ∧ NoCM R ∧ N.length = R.length ∧ R.length ≤ 27 ∧ Grow S S' (gR ar R) ∧ Grow S S' (gN an N)) := by
 refine cc_enter (c := cd22) (n := 71) Tryz.func22 rfl rfl rfl (by kernel_rfl) rfl rfl ?_
 have hl := Hold.start S
 refine zg ?_; refine re_boxL hl rfl rfl rfl rfl rfl rfl ?_
 intro B2 S2 hl
 refine zg ?_
 refine zc hl rfl (spec31 a cap C hn hX hC (hG.keep hl.keep) (hGc.keep hl.keep) (hl.keep.3 hF) (hv.move (hl.since 0 rfl))) ?_; rintro v S3 hk1 ⟨aX, av, D, rfl, hvX, hD, hDe, hDl, hg⟩ hl
 obtain ⟨P, rfl, hP⟩ := secs_pairs hD
 rw [gS_pairs] at hg
 have hl := hl.mark
 have hvP : LsOf 67 8 secC S3 (.slice av P.length P.length) P := Grow.ls (f := secC) (fun _ => rfl) hg
 rw [← hDe, List.length_map] at hk
 rw [List.length_map] at hDl ⊢
 obtain ⟨p, hp⟩ := nth_some hk
 obtain ⟨hp2, hpt, hpl, s0, hs0, hn0⟩ := hP p (nth_mem hp)
 obtain ⟨bp, op, csp, hap, _, hrowp, htkp⟩ := hvP.elem hp
 refine zg ?_; refine re_allocL hl rfl rfl rfl rfl rfl (z := [.string ⟨#[]⟩, .slice none 0 0]) (by kernel_rfl) ?_
 intro B7 S7 hl
 refine re_storeL hl 0 rfl rfl rfl rfl rfl rfl rfl (by kernel_rfl) (c' := [.string partS, .slice aX C.length C.length]) rfl ?_
 intro S8 hl
 refine zg ?_
 constructor <;> intro h30
 ·
  exfalso
  have := of_decide_eq_true h30
  omega
 refine zg ?_
 have hl := (hl.addG (g := gR none []) (.inl ⟨rfl, rfl, rfl⟩)).addG (g := gN none []) (.inl ⟨rfl, rfl, rfl⟩)
 refine xe_sub (L' := [(12, .int .i64 (p.1 : Int)), (11, .slice none ([] : List Int).length ([] : List Int).length), (10, .slice none ([] : List Sg).length ([] : List Sg).length), (8, .slice av P.length P.length), (7, ptrTo B7 0), (6, .int .i64 0), (5, .slice none 0 0), (4, .slice none 0 0), (1, .int .i64 (k : Int))]) ⟨rfl, rfl, rfl, rfl, rfl, rfl, rfl, rfl, rfl, trivial⟩ ?_
 refine xp_loop rfl (fun m Le S' => ∃ (i : Nat) (ar an : Option Addr) (R : List Sg) (N : List Int), (p.1 ≤ i ∧ i ≤ p.2) ∧ m = p.2 - i ∧ (RunP R ∧ NoCM R) ∧ (N.length = R.length ∧ R.length ≤ i - p.1) ∧ (∀ j s, i = j + 1 → p.1 ≤ j → nth C j = some s → NR s → nth R (R.length - 1) = some s) ∧ SubE [(12, .int .i64 (i : Int)), (11, .slice an N.length N.length), (10, .slice ar R.length R.length), (8, .slice av P.length P.length), (7, ptrTo B7 0), (6, .int .i64 0), (5, .slice none 0 0), (4, .slice none 0 0), (1, .int .i64 (k : Int))] Le ∧ HoldG S [S3, S] S' [(B7, .cells [.string partS, .slice aX C.length C.length] 25 false true []), (B2, .cells [.string partS, .slice a C.length cap] 25 false true [])] [gN an N, gR ar R]) ?_ (m := p.2 - p.1) ⟨p.1, none, none, [], [], ⟨Nat.le_refl _, by omega⟩, rfl, ⟨(fun j s h => by cases h), (fun j s h => by cases h)⟩, ⟨rfl, by simp⟩, (fun j s e h => by omega), ⟨rfl, rfl, rfl, rfl, rfl, rfl, rfl, rfl, rfl, trivial⟩, hl⟩
 clear hl; rintro m Le S' ⟨i, ar, an, R, N, ⟨hi1, hi2⟩, rfl, ⟨hR, hRM⟩, ⟨hN, hRl⟩, hLn, hsub, hl⟩; refine xe_sub hsub ?_
 refine zg ?_
 constructor <;> intro h42
 ·
  have hlt : i < p.2 := by have := of_decide_eq_true h42; omega
  obtain ⟨s, hs⟩ := nth_some (l := C) (i := i) (by omega)
  obtain ⟨hk12, hcl⟩ := hX.cl hs
  obtain ⟨b1, o1, cs1, ha, _, hrow, htk⟩ := hvX.elem hs
  refine zg ?_
  refine zc hl rfl (spec32 s (hGc.keep hl.keep) hk12) ?_; rintro v S9 hk2 rfl hl
  have hcase : (NR s ∧ classI s.kind = 1) ∨ (classI s.kind = 2 ∧ s = dotS ∧ ∃ j v p c, i = j + 1 ∧ (1 ≤ v ∧ v ≤ 8) ∧ (0 ≤ p ∧ p ≤ 8) ∧ nth C j = some (noteS v p c)) ∨ (¬ NR s ∧ (classI s.kind = 3 ∨ classI s.kind = 4)) := by
   rcases hcl with ⟨h1, _, h2⟩ | ⟨h1, h2, rfl, _⟩ | ⟨h1, _⟩ | ⟨h1, _⟩
   ·exact .inl ⟨h2, h1⟩
   ·refine .inr (.inl ⟨h1, rfl, ?_⟩)
    obtain ⟨q, rfl⟩ : ∃ q, i = q + 2 := ⟨i - 2, by omega⟩
    rcases hX.el q _ hs with h3 | h3 | ⟨_, v, p, c, h3, h4, h5⟩
    ·rcases h3 with ⟨_, _, _, _, _, h3⟩ | ⟨_, _, h3⟩ <;> cases h3
    ·rcases h3 with h3 | h3 | h3 | ⟨_, _, h3⟩ | ⟨_, h3⟩ | h3 <;> cases h3
    ·exact ⟨q + 1, v, p, c, rfl, h3, h4, h5⟩
   ·exact .inr (.inr ⟨fun h => nr_no h (.inr (.inl h1)), .inl h1⟩)
   ·exact .inr (.inr ⟨fun h => nr_no h (.inr (.inr h1)), .inr h1⟩)
  rcases hcase with ⟨hnr, hc⟩ | ⟨hc, rfl, j, v, q, c, hj, hv1, hq1, hjn⟩ | ⟨hnn, hc⟩
  ·
   rw [hc]
   refine zg ?_; refine re_buildSliceR hl rfl rfl rfl rfl rfl Tryz.underlying23 rfl (c := s.cells) (by kernel_rfl) ?_; intro B63 S10 hr63 hl; refine re_appendG hl 1 rfl rfl (show ([3, 32] : List TypeId).Nodup by decide) rfl rfl rfl rfl rfl rfl rfl Tryz.underlying23 Tryz.underlying23 rfl rfl (by kernel_rfl) (src_row (new := s.cells) hr63 rfl) rfl rfl (by kernel_rfl) (by show R.length + 1 ≤ maxNeed; unfold maxNeed; omega) ?_; intro v64 S11 hl
   obtain ⟨ar2, rfl⟩ : ∃ x, v64 = .slice x (R.length + 1) (R.length + 1) := Grow.is (hl.gr _ (List.mem_cons_of_mem _ (List.mem_cons_self ..)))
   refine zg ?_; refine re_buildSliceR hl rfl rfl rfl rfl rfl Tryz.underlying22 rfl (c := ic (i : Int)) (by kernel_rfl) ?_; intro B67 S12 hr67 hl; refine re_appendG hl 0 rfl rfl (show ([3, 32] : List TypeId).Nodup by decide) rfl rfl rfl rfl rfl rfl rfl Tryz.underlying22 Tryz.underlying22 rfl rfl (by kernel_rfl) (src_row (new := ic (i : Int)) hr67 rfl) rfl rfl (by kernel_rfl) (by show N.length + 1 ≤ maxNeed; unfold maxNeed; omega) ?_; intro v68 S13 hl
   obtain ⟨an2, rfl⟩ : ∃ x, v68 = .slice x (N.length + 1) (N.length + 1) := Grow.is (hl.gr _ (List.mem_cons_self ..))
   refine zg ?_
   refine ⟨p.2 - (i + 1), by omega, i + 1, ar2, an2, R ++ [s], N ++ [(i : Int)], ⟨by omega, by omega⟩, rfl, ⟨hR.app hnr, hRM.app (hM _ _ hs)⟩, ⟨by simp [hN], by rw [List.length_append]; show R.length + 1 ≤ _; omega⟩, (fun j u e h1 h2 h3 => by
    have e : j = i := by omega
    subst e
    rw [Option.some.inj (h2.symm.trans hs), List.length_append]
    exact nth_app_r), ⟨rfl, congrArg some (congrArg (fun n => Value.slice an2 n n) (by rw [List.length_append]; rfl)), congrArg some (congrArg (fun n => Value.slice ar2 n n) (by rw [List.length_append]; rfl)), rfl, rfl, rfl, rfl, rfl, rfl, trivial⟩, ?_⟩
   rw [gN, gR, gOf_push, gOf_push]
   exact hl
  ·
   rw [hc]
   have hij : p.1 ≤ j := by
    rcases Nat.lt_or_ge j p.1 with h | h
    ·obtain rfl : i = p.1 := by omega
     rw [Option.some.inj (hs0.symm.trans hs)] at hn0
     exact absurd (.inl hc) (nr_no hn0)
    ·exact h
   have hlast := hLn j _ hj hij hjn (.inl ⟨v, q, c, hv1, hq1, rfl⟩)
   refine zg ?_; refine re_buildSliceR hl rfl rfl rfl rfl rfl Tryz.underlying23 rfl (c := dotS.cells) (by kernel_rfl) ?_; intro B63 S10 hr63 hl; refine re_appendG hl 1 rfl rfl (show ([3, 32] : List TypeId).Nodup by decide) rfl rfl rfl rfl rfl rfl rfl Tryz.underlying23 Tryz.underlying23 rfl rfl (by kernel_rfl) (src_row (new := dotS.cells) hr63 rfl) rfl rfl (by kernel_rfl) (by show R.length + 1 ≤ maxNeed; unfold maxNeed; omega) ?_; intro v64 S11 hl
   obtain ⟨ar2, rfl⟩ : ∃ x, v64 = .slice x (R.length + 1) (R.length + 1) := Grow.is (hl.gr _ (List.mem_cons_of_mem _ (List.mem_cons_self ..)))
   refine zg ?_; refine re_buildSliceR hl rfl rfl rfl rfl rfl Tryz.underlying22 rfl (c := ic (i : Int)) (by kernel_rfl) ?_; intro B67 S12 hr67 hl; refine re_appendG hl 0 rfl rfl (show ([3, 32] : List TypeId).Nodup by decide) rfl rfl rfl rfl rfl rfl rfl Tryz.underlying22 Tryz.underlying22 rfl rfl (by kernel_rfl) (src_row (new := ic (i : Int)) hr67 rfl) rfl rfl (by kernel_rfl) (by show N.length + 1 ≤ maxNeed; unfold maxNeed; omega) ?_; intro v68 S13 hl
   obtain ⟨an2, rfl⟩ : ∃ x, v68 = .slice x (N.length + 1) (N.length + 1) := Grow.is (hl.gr _ (List.mem_cons_self ..))
   refine zg ?_
   refine ⟨p.2 - (i + 1), by omega, i + 1, ar2, an2, R ++ [dotS], N ++ [(i : Int)], ⟨by omega, by omega⟩, rfl, ⟨hR.dot hv1 hq1 hlast, hRM.app nofun⟩, ⟨by simp [hN], by rw [List.length_append]; show R.length + 1 ≤ _; omega⟩, (fun j u e h1 h2 h3 => by
    have e : j = i := by omega
    subst e
    rw [← Option.some.inj (hs.symm.trans h2)] at h3
    exact absurd (.inl hc) (nr_no h3)), ⟨rfl, congrArg some (congrArg (fun n => Value.slice an2 n n) (by rw [List.length_append]; rfl)), congrArg some (congrArg (fun n => Value.slice ar2 n n) (by rw [List.length_append]; rfl)), rfl, rfl, rfl, rfl, rfl, rfl, trivial⟩, ?_⟩
   rw [gN, gR, gOf_push, gOf_push]
   exact hl
  ·
   rcases hc with hc | hc
   all_goals
    rw [hc]
    refine zg ?_
    exact ⟨p.2 - (i + 1), by omega, i + 1, ar, an, R, N, ⟨by omega, by omega⟩, rfl, ⟨hR, hRM⟩, ⟨hN, by omega⟩, (fun j u e h1 h2 h3 => by
     have e : j = i := by omega
     subst e
     rw [Option.some.inj (hs.symm.trans h2)] at hnn
     exact absurd h3 hnn), ⟨rfl, rfl, rfl, rfl, rfl, rfl, rfl, rfl, rfl, trivial⟩, hl⟩
 ·
  refine zg ?_
  refine done_ret (ress_tmp rfl (ress_tmp rfl (ress_tmp rfl rfl))) ⟨hl.keep, ar, an, R, N, rfl, hR, hRM, hN, by omega, hl.gr _ (List.mem_cons_of_mem _ (List.mem_cons_self ..)), hl.gr _ (List.mem_cons_self ..)⟩
end Go.Proofs.YtblhfojaiipboaaGreatDoor
namespace Go.Proofs.YtblhfojaiipboaaGreatDoor
open Go.Cm Go
set_option maxRecDepth 100000
variable {S : St}
noncomputable def cd52 : Code := Tryz.f52.body.getD .skip
theorem spec52 (a : Option Addr) (cap : Nat) (L : List Int) (hn : L.length ≤ 400) (hv : Ints S (.slice a L.length cap) L) : CC Tryz.prog KK 52 [.slice a L.length cap] S (fun v S' => Keep S S' ∧ ∃ av, v = .slice av L.length L.length ∧ Grow S S' (gN av L)) := by
 refine cc_enter (c := cd52) (n := 8) Tryz.func52 rfl rfl rfl (by kernel_rfl) rfl rfl ?_
 have hl := Hold.start S
 refine zg ?_; refine rr rfl (rd_bin rfl rfl rfl (eq_nil Tryz.underlying22)) ?_; refine zg ?_
 constructor <;> intro h4
 ·
  obtain rfl := ls_none hv h4
  refine zg ?_
  exact (z1 rfl ⟨hl.keep, none, rfl, .inl ⟨rfl, rfl, rfl⟩⟩)
 ·
  refine zg ?_; refine re_buildSliceG hl 1 rfl rfl rfl rfl rfl Tryz.underlying22 rfl (c := []) (by kernel_rfl) rfl ?_; intro v5 S1 hl; refine zg ?_; refine re_appendG hl 0 rfl rfl (by simp) rfl rfl rfl rfl rfl rfl rfl Tryz.underlying22 Tryz.underlying22 rfl rfl (by kernel_rfl) (hv.move (hl.since 0 rfl)).cells (flat_len (f := ic) (z := 1) (fun _ => rfl) _) (flatCells (f := ic) (fun _ => rfl) _) (by kernel_rfl) (by show 0 + L.length ≤ maxNeed; unfold maxNeed; omega) ?_; intro v7 S2 hl
  obtain ⟨av, rfl⟩ : ∃ x, v7 = .slice x (0 + L.length) (0 + L.length) := Grow.is (hl.gr _ (List.mem_cons_self ..))
  have hg := hl.gr _ (List.mem_cons_self ..)
  rw [Nat.zero_add, List.nil_append] at hg
  refine zg ?_
  refine y1 rfl ⟨hl.keep, av, by rw [Nat.zero_add], hg⟩
noncomputable def cd113 : Code := Tryz.f113.body.getD .skip
theorem spec113 (k : Int) : CC Tryz.prog KK 113 [.int .i64 k] S (fun v S' => Keep S S' ∧ v = .bool (decide (k > 0))) := by
 refine cc_enter (c := cd113) (n := 5) Tryz.func113 rfl rfl rfl (by kernel_rfl) rfl rfl ?_
 have hl := Hold.start S
 refine zg ?_
 refine y1 rfl ⟨hl.keep, rfl⟩
def Bx (S : St) (B : Nat) : Prop := B < S.size ∧ S.get B = some (.cells [.func (.func 113) #[] #[]] 76 false true [])
theorem Bx.keep {S T : St} {B : Nat} (h : Bx S B) (k : Keep S T) : Bx T B := ⟨Nat.lt_of_lt_of_le h.1 k.1, (k.2 B h.1).trans h.2⟩
noncomputable def cd134 : Code := Tryz.f134.body.getD .skip
theorem spec134 (k : Int) (B : Nat) (hB : Bx S B) : CC Tryz.prog KK 134 [.int .i64 k, ptrTo B 0] S (fun v S' => Keep S S' ∧ v = .bool (!decide (k > 0))) := by
 refine cc_enter (c := cd134) (n := 8) Tryz.func134 rfl rfl rfl (by kernel_rfl) rfl rfl ?_
 have hl := Hold.start S
 refine zg ?_; refine rr rfl (rd_load rfl rfl (l1 (hB.keep hl.keep).2 rfl)) ?_; refine zg ?_
 refine zc hl rfl (spec113 k) ?_; rintro v S1 hk1 rfl hl
 refine rr rfl (rd_un rfl rfl rfl) ?_; refine zg ?_
 refine y1 rfl ⟨hl.keep, rfl⟩
noncomputable def cd162 : Code := Tryz.f162.body.getD .skip
theorem spec162 (a : Option Addr) (cap : Nat) : CC Tryz.prog KK 162 [.slice a 0 cap, .int .i64 0, .int .i64 0] S (fun v S' => Keep S S' ∧ v = tupV []) := by
 refine cc_enter (c := cd162) (n := 49) Tryz.func162 rfl rfl rfl (by kernel_rfl) rfl rfl ?_
 have hl := Hold.start S
 refine zg ?_
 refine xp_loop rfl (fun m Le S' => SubE [(6, .int .i64 1), (2, .int .i64 0)] Le ∧ HoldG S [S] S' [] []) ?_ (m := 0) ⟨⟨rfl, rfl, trivial⟩, hl⟩
 clear hl; rintro m Le S' ⟨hsub, hl⟩; refine xe_sub hsub ?_
 refine zg ?_
 show Done Tryz.prog Tryz.f162.results.toList (fun v S' => Keep S S' ∧ v = tupV []) .normal _ S'
 refine done_normal rfl ⟨hl.keep, rfl⟩
noncomputable def cd154 : Code := Tryz.f154.body.getD .skip
theorem spec154 (a : Option Addr) (cap : Nat) : CC Tryz.prog KK 154 [.slice a 0 cap, .int .i64 0, .int .i64 0, .int .i64 0] S (fun v S' => Keep S S' ∧ v = tupV []) := by
 refine cc_enter (c := cd154) (n := 134) Tryz.func154 rfl rfl rfl (by kernel_rfl) rfl rfl ?_
 have hl := Hold.start S
 refine zg ?_
 refine xp_loop rfl (fun m Le S' => SubE [(0, .slice a 0 cap), (1, .int .i64 0), (2, .int .i64 0)] Le ∧ HoldG S [S] S' [] []) ?_ (m := 0) ⟨⟨rfl, rfl, rfl, trivial⟩, hl⟩
 clear hl; rintro m Le S' ⟨hsub, hl⟩; refine xe_sub hsub ?_
 refine zg ?_
 refine zc hl rfl (spec162 a cap) ?_; rintro v S1 hk1 rfl hl
 refine zg ?_
 refine thn_ret (blk_ret (round_ret (blk_ret (done_ret rfl ⟨hl.keep, rfl⟩))))
noncomputable def cd135 : Code := Tryz.f135.body.getD .skip
theorem spec135 (a : Option Addr) (cap : Nat) : CC Tryz.prog KK 135 [.slice a 0 cap] S (fun v S' => Keep S S' ∧ v = tupV []) := by
 refine cc_enter (c := cd135) (n := 11) Tryz.func135 rfl rfl rfl (by kernel_rfl) rfl rfl ?_
 have hl := Hold.start S
 refine zg ?_; refine re_conv rfl rfl rfl rfl rfl rfl rfl ?_
 refine zc hl rfl kLen ?_; rintro v S1 hk1 rfl hl
 refine zc hl rfl (spec154 a cap) ?_; rintro v S2 hk1 rfl hl
 refine zg ?_
 refine done_normal rfl ⟨hl.keep, rfl⟩
noncomputable def cd136 : Code := Tryz.f136.body.getD .skip
theorem spec136 (a : Option Addr) (cap : Nat) : CC Tryz.prog KK 136 [.slice a 0 cap] S (fun v S' => Keep S S' ∧ v = .slice a 0 cap) := by
 refine cc_enter (c := cd136) (n := 61) Tryz.func136 rfl rfl rfl (by kernel_rfl) rfl rfl ?_
 have hl := Hold.start S
 refine zg ?_
 exact (z1 rfl ⟨hl.keep, rfl⟩)
noncomputable def cd153 : Code := Tryz.f153.body.getD .skip
theorem spec153 (a : Option Addr) (cap : Nat) (B : Nat) (hB : Bx S B) (hv : Ints S (.slice a 1 cap) [0]) : CC Tryz.prog KK 153 [.slice a 1 cap, .func (.func 134) #[] #[ptrTo B 0]] S (fun v S' => Keep S S' ∧ v = .int .i64 0) := by
 refine cc_enter (c := cd153) (n := 19) Tryz.func153 rfl rfl rfl (by kernel_rfl) rfl rfl ?_
 have hl := Hold.start S
 obtain ⟨b1, o1, cs1, ha, _, hrow, htk⟩ := hv.elem (k := 0) (x := 0) rfl
 refine zg ?_
 refine xp_loop rfl (fun m Le S' => SubE [(8, .int .i64 0), (7, .int .i64 1), (0, .slice a 1 cap), (1, .func (.func 134) #[] #[ptrTo B 0])] Le ∧ HoldG S [S] S' [] []) ?_ (m := 0) ⟨⟨rfl, rfl, rfl, rfl, trivial⟩, hl⟩
 clear hl; rintro m Le S' ⟨hsub, hl⟩; refine xe_sub hsub ?_
 refine zg ?_
 refine zc hl rfl (spec134 0 B (hB.keep hl.keep)) ?_; rintro v S1 hk1 rfl hl
 refine zg ?_
 refine blk_ret (thn_ret (round_ret (blk_ret (z1 rfl ⟨hl.keep, rfl⟩))))
end Go.Proofs.YtblhfojaiipboaaGreatDoor
namespace Go.Proofs.YtblhfojaiipboaaGreatDoor
open Go.Cm Go
set_option maxRecDepth 100000
variable {S : St}
def dtG : List Sg → Nat → List Int
 | [], _ => []
 | s :: r, i => bif s.kind == 3 then (i : Int) :: dtG r (i + 1) else dtG r (i + 1)
def dtE (R : List Sg) : List Int := dtG R 0
theorem dt_1 {s : Sg} {r : List Sg} {i : Nat} (h : (s.kind == 3) = true) : dtG (s :: r) i = (i : Int) :: dtG r (i + 1) := by rw [dtG, h]; rfl
theorem dt_2 {s : Sg} {r : List Sg} {i : Nat} (h : (s.kind == 3) = false) : dtG (s :: r) i = dtG r (i + 1) := by rw [dtG, h]; rfl
noncomputable def cd109 : Code := Tryz.f109.body.getD .skip
theorem spec109 (a : Option Addr) (cap : Nat) (R : List Sg) (hn : R.length ≤ 27) (hv : Sgs S (.slice a R.length cap) R) : CC Tryz.prog KK 109 [.slice a R.length cap] S (fun v S' => Keep S S' ∧ ∃ av, v = .slice av (dtE R).length (dtE R).length ∧ (dtE R).length ≤ 27 ∧ Grow S S' (gN av (dtE R))) := by
 refine cc_enter (c := cd109) (n := 22) Tryz.func109 rfl rfl rfl (by kernel_rfl) rfl rfl ?_
 have hl := Hold.start S
 refine zg ?_
 have hl := hl.addG (g := gN none []) (.inl ⟨rfl, rfl, rfl⟩)
 refine xe_sub (L' := [(8, .int .i64 (0 : Int)), (7, .int .i64 R.length), (6, .slice a R.length cap), (3, .slice none ([] : List Int).length ([] : List Int).length), (2, .slice none 0 0)]) ⟨rfl, rfl, rfl, rfl, rfl, trivial⟩ ?_
 refine xp_loop rfl (fun m Le S' => ∃ (i : Nat) (av : Option Addr) (O : List Int), i ≤ R.length ∧ m = R.length - i ∧ O.length ≤ i ∧ O ++ dtG (R.drop i) i = dtE R ∧ SubE [(8, .int .i64 (i : Int)), (7, .int .i64 R.length), (6, .slice a R.length cap), (3, .slice av O.length O.length), (2, .slice none 0 0)] Le ∧ HoldG S [S] S' [] [gN av O]) ?_ (m := R.length) ⟨0, none, [], by omega, by omega, by simp, rfl, ⟨rfl, rfl, rfl, rfl, rfl, trivial⟩, hl⟩
 clear hl; rintro m Le S' ⟨i, av, O, hi, rfl, hO, hpr, hsub, hl⟩; refine xe_sub hsub ?_
 refine zg ?_
 constructor <;> intro h9
 ·
  have hlt : i < R.length := by have := of_decide_eq_true h9; omega
  obtain ⟨s, hs⟩ := nth_some hlt
  obtain ⟨b1, o1, cs1, ha, _, hrow, htk⟩ := hv.elem hs
  rw [drop_nth' hs] at hpr
  refine zg ?_; refine re_allocL hl rfl rfl rfl rfl rfl (z := (dotS.cells.set 0 (.int .i64 0))) (by kernel_rfl) ?_
  intro B5 S5 hl
  refine zg ?_; refine re_storeL hl 0 rfl rfl rfl rfl rfl rfl rfl (by kernel_rfl) (c' := s.cells) rfl ?_
  intro S6 hl
  refine zg ?_
  constructor <;> intro h15
  ·
   refine zg ?_; refine re_buildSliceR hl rfl rfl rfl rfl rfl Tryz.underlying22 rfl (c := ic (i : Int)) (by kernel_rfl) ?_; intro B18 S7 hr18 hl; refine re_appendG hl 0 rfl rfl (by simp) rfl rfl rfl rfl rfl rfl rfl Tryz.underlying22 Tryz.underlying22 rfl rfl (by kernel_rfl) (src_row (new := ic (i : Int)) hr18 rfl) rfl rfl (by kernel_rfl) (by show O.length + 1 ≤ maxNeed; unfold maxNeed; omega) ?_; intro v19 S8 hl
   obtain ⟨av2, rfl⟩ : ∃ x, v19 = .slice x (O.length + 1) (O.length + 1) := Grow.is (hl.gr _ (List.mem_cons_self ..))
   refine zg ?_
   refine ⟨R.length - (i + 1), by omega, i + 1, av2, O ++ [(i : Int)], by omega, rfl, by rw [List.length_append]; show O.length + 1 ≤ _; omega, by rw [← hpr, dt_1 h15, List.append_assoc]; rfl, ⟨rfl, rfl, rfl, congrArg some (congrArg (fun n => Value.slice av2 n n) (by rw [List.length_append]; rfl)), rfl, trivial⟩, ?_⟩
   rw [gN, gOf_push]
   exact hl.tail
  ·
   refine zg ?_
   exact ⟨R.length - (i + 1), by omega, i + 1, av, O, by omega, rfl, by omega, by rw [← hpr, dt_2 h15], ⟨rfl, rfl, rfl, rfl, rfl, trivial⟩, hl.tail⟩
 ·
  rw [List.drop_eq_nil_of_le (by have := of_decide_eq_false h9; omega)] at hpr
  have hpr : O = dtE R := by rw [← hpr]; exact (List.append_nil _).symm
  subst hpr
  refine zg ?_
  refine y1 rfl ⟨hl.keep, av, rfl, by omega, hl.gr _ (List.mem_cons_self ..)⟩
end Go.Proofs.YtblhfojaiipboaaGreatDoor
namespace Go.Proofs.YtblhfojaiipboaaGreatDoor
open Go.Cm Go
set_option maxRecDepth 100000
variable {S : St}
noncomputable def cd86 : Code := Tryz.f86.body.getD .skip
theorem spec86 (s : Sg) : CC Tryz.prog KK 86 [s.v] S (fun v S' => Keep S S' ∧ v = .bool ((s.kind == 1) && s.color)) := by
 refine cc_enter (c := cd86) (n := 10) Tryz.func86 rfl rfl rfl (by kernel_rfl) rfl rfl ?_
 have hl := Hold.start S
 refine zg ?_; refine re_boxL hl rfl rfl rfl rfl rfl rfl ?_
 intro B1 S1 hl
 refine zg ?_; refine re_bool (d := 6) rfl (fun h6 => ?_) (fun h6 => ?_)
 ·
  refine zg ?_
  refine y1 rfl ⟨hl.keep, by rw [h6]; rfl⟩
 ·
  refine zg ?_
  refine y1 rfl ⟨hl.keep, by rw [h6]; rfl⟩
noncomputable def cd138 : Code := Tryz.f138.body.getD .skip
theorem spec138 (a : Option Addr) (cap : Nat) (R : List Sg) (i : Nat) (hi : i < R.length) (hn : R.length ≤ 27) (hM : NoCM R) (hv : Sgs S (.slice a R.length cap) R) : CC Tryz.prog KK 138 [.slice a R.length cap, .int .i64 i] S (fun v S' => Keep S S' ∧ v = .bool false) := by
 refine cc_enter (c := cd138) (n := 73) Tryz.func138 rfl rfl rfl (by kernel_rfl) rfl rfl ?_
 have hl := Hold.start S
 obtain ⟨s, hs⟩ := nth_some hi
 obtain ⟨b1, o1, cs1, ha, _, hrow, htk⟩ := hv.elem hs
 refine zS ?_; refine xp_seq rfl ?_; refine xp_seq rfl (xe_toE hl 44 (.bool true) ?_ rfl ?_)
 ·
  refine zg ?_; refine re_bool (d := 11) rfl (fun h11 => ?_) (fun h11 => ?_)
  ·
   refine zg ?_
   exact ⟨rfl, rfl, sB, hl⟩
  ·
   have hi2 : i + 1 < R.length := by have := of_decide_eq_false h11; omega
   obtain ⟨s2, hs2⟩ := nth_some hi2
   have h5 := hM _ _ hs2
   obtain ⟨b2, o2, cs2, ha2, _, hrow2, htk2⟩ := hv.elem hs2
   refine zg ?_
   refine zc hl rfl (spec86 s) ?_; rintro v S1 hk1 rfl hl
   refine rr rfl (rd_un rfl rfl rfl) ?_; refine zg ?_; refine re_bool (d := 19) rfl (fun h19 => ?_) (fun h19 => ?_)
   ·
    refine zg ?_
    exact ⟨rfl, rfl, sB, hl⟩
   ·
    refine zg ?_; refine re_bool (d := 27) rfl (fun h27 => ?_) (fun h27 => ?_)
    ·
     refine zg ?_
     exact ⟨rfl, rfl, sB, hl⟩
    ·
     refine zg ?_
     refine zc hl rfl (spec86 s2) ?_; rintro v S2 hk2 rfl hl
     refine rr rfl (rd_un rfl rfl rfl) ?_; refine zg ?_; refine re_bool (d := 36) rfl (fun h36 => ?_) (fun h36 => ?_)
     ·
      refine zg ?_
      exact ⟨rfl, rfl, sB, hl⟩
     ·
      have hcol : s2.color = true := by
       cases hc : s2.color with
       | true => rfl
       | false => rw [hc, Bool.and_false] at h36; cases h36
      have h6 : (s2.value != 5) = true := by simpa using h5 hcol
      refine zg ?_
      exact ⟨rfl, bl (by rw [h6]), sB, hl⟩
 intro S3 hl
 refine zg ?_
 exact (z1 rfl ⟨hl.keep, rfl⟩)
end Go.Proofs.YtblhfojaiipboaaGreatDoor
namespace Go.Proofs.YtblhfojaiipboaaGreatDoor
open Go.Cm Go
set_option maxRecDepth 100000
variable {S : St}
def BxC (S : St) (B : Nat) (c : List Value) (t : TypeId) : Prop := B < S.size ∧ S.get B = some (.cells c t false true [])
theorem BxC.keep {S T : St} {B : Nat} {c : List Value} {t : TypeId} (h : BxC S B c t) (k : Keep S T) : BxC T B c t := ⟨Nat.lt_of_lt_of_le h.1 k.1, (k.2 B h.1).trans h.2⟩
noncomputable def cd137 : Code := Tryz.f137.body.getD .skip
theorem spec137 (y : Value) (B3 B2 : Nat) (a : Option Addr) (cap : Nat) (R : List Sg) (hn : R.length ≤ 27) (hM : NoCM R) (hv : Sgs S (.slice a R.length cap) R) (h3 : BxC S B3 [.slice a R.length cap] 23) (h2 : BxC S B2 [.int .i64 2, .int .i64 2, .int .i64 2, .int .i64 2] 28) : CC Tryz.prog KK 137 [y, ptrTo B3 0, ptrTo B2 0] S (fun v S' => Keep S S' ∧ v = tupV []) := by
 refine cc_enter (c := cd137) (n := 25) Tryz.func137 rfl rfl rfl (by kernel_rfl) rfl rfl ?_
 have hl := Hold.start S
 refine zg ?_; refine rr rfl (rd_load rfl rfl (l1 (h3.keep hl.keep).2 rfl)) ?_; refine zg ?_; refine xe_sub (L' := [(7, .int .i64 (0 : Int)), (6, .int .i64 R.length), (0, y), (1, ptrTo B3 0), (2, ptrTo B2 0)]) ⟨rfl, rfl, rfl, rfl, rfl, trivial⟩ ?_
 refine xp_loop rfl (fun m Le S' => ∃ i : Nat, i ≤ R.length ∧ m = R.length - i ∧ SubE [(7, .int .i64 (i : Int)), (6, .int .i64 R.length), (0, y), (1, ptrTo B3 0), (2, ptrTo B2 0)] Le ∧ HoldG S [S] S' [] []) ?_ (m := R.length) ⟨0, by omega, by omega, ⟨rfl, rfl, rfl, rfl, rfl, trivial⟩, hl⟩
 clear hl; rintro m Le S' ⟨i, hi, rfl, hsub, hl⟩; refine xe_sub hsub ?_
 refine zg ?_
 constructor <;> intro h8
 ·
  have hlt : i < R.length := by have := of_decide_eq_true h8; omega
  refine zg ?_; refine rr rfl (rd_load rfl rfl (l1 (h2.keep hl.keep).2 rfl)) ?_; refine zg ?_; refine rr rfl (rd_load rfl rfl (l1 (h3.keep hl.keep).2 rfl)) ?_; refine zg ?_
  refine zc hl rfl (spec138 a cap R i hlt hn hM (hv.move (hl.since 0 rfl))) ?_; rintro v S1 hk1 rfl hl
  refine zg ?_
  exact ⟨R.length - (i + 1), by omega, i + 1, by omega, rfl, ⟨rfl, rfl, rfl, rfl, rfl, trivial⟩, hl⟩
 ·
  refine zg ?_
  show Done Tryz.prog Tryz.f137.results.toList (fun v S' => Keep S S' ∧ v = tupV []) .normal _ S'
  exact done_normal rfl ⟨hl.keep, rfl⟩
noncomputable def cd116 : Code := Tryz.f116.body.getD .skip
theorem spec116 (a : Option Addr) (n cap : Nat) : CC Tryz.prog KK 116 [m2, .slice a n cap] S (fun v S' => Keep S S' ∧ ∃ B3 B2, v = .func (.func 137) #[] #[ptrTo B3 0, ptrTo B2 0] ∧ S.size ≤ B3 ∧ S.size ≤ B2 ∧ BxC S' B3 [.slice a n cap] 23 ∧ BxC S' B2 [.int .i64 2, .int .i64 2, .int .i64 2, .int .i64 2] 28) := by
 refine cc_enter (c := cd116) (n := 6) Tryz.func116 rfl rfl rfl (by kernel_rfl) rfl rfl ?_
 have hl := Hold.start S
 refine zg ?_; refine re_boxL hl rfl rfl rfl rfl rfl rfl ?_
 intro B2 S1 hl
 refine re_boxL hl rfl rfl rfl rfl rfl rfl ?_
 intro B3 S2 hl
 refine zg ?_; refine rr rfl (rd_func rfl rfl rfl) ?_; refine zg ?_
 have h3 := hl.at_ _ _ (List.mem_cons_self ..)
 have h2 := hl.at_ _ _ (List.mem_cons_of_mem _ (List.mem_cons_self ..))
 refine y1 rfl ⟨hl.keep, B3, B2, rfl, h3.2.1, h2.2.1, ⟨h3.2.2, h3.1⟩, ⟨h2.2.2, h2.1⟩⟩
end Go.Proofs.YtblhfojaiipboaaGreatDoor
namespace Go.Proofs.YtblhfojaiipboaaGreatDoor
open Go.Cm Go
set_option maxRecDepth 100000
variable {S : St}
noncomputable def cd115 : Code := Tryz.f115.body.getD .skip
theorem spec115 (a : Option Addr) (cap : Nat) (hv : Ints S (.slice a 1 cap) [0]) : CC Tryz.prog KK 115 [.slice a 1 cap, .int .i64 0] S (fun v S' => Keep S S' ∧ v = .int .i64 0) := by
 refine cc_enter (c := cd115) (n := 19) Tryz.func115 rfl rfl rfl (by kernel_rfl) rfl rfl ?_
 have hl := Hold.start S
 obtain ⟨b1, o1, cs1, ha, _, hrow, htk⟩ := hv.elem (k := 0) (x := 0) rfl
 refine zg ?_
 refine xp_loop rfl (fun m Le S' => SubE [(8, .int .i64 0), (7, .int .i64 1), (0, .slice a 1 cap), (1, .int .i64 0)] Le ∧ HoldG S [S] S' [] []) ?_ (m := 0) ⟨⟨rfl, rfl, rfl, rfl, trivial⟩, hl⟩
 clear hl; rintro m Le S' ⟨hsub, hl⟩; refine xe_sub hsub ?_
 refine zg ?_
 refine blk_ret (thn_ret (round_ret (blk_ret (z1 rfl ⟨hl.keep, rfl⟩))))
noncomputable def cd83 : Code := Tryz.f83.body.getD .skip
theorem spec83 (a : Option Addr) (cap : Nat) (hv : Ints S (.slice a 1 cap) [0]) : CC Tryz.prog KK 83 [.slice a 1 cap, .int .i64 0] S (fun v S' => Keep S S' ∧ v = .bool true) := by
 refine cc_enter (c := cd83) (n := 9) Tryz.func83 rfl rfl rfl (by kernel_rfl) rfl rfl ?_
 have hl := Hold.start S
 refine zg ?_
 refine zc hl rfl (spec115 a cap (hv.move (hl.since 0 rfl))) ?_; rintro v S1 hk1 rfl hl
 refine zg ?_
 refine y1 rfl ⟨hl.keep, rfl⟩
structure It where
 sg : Int
 val : Int
 rest : Bool
 col : Bool
 fix : Bool
 cut : Int
 dur : Ti
 bef : Ti
 aft : Ti
def It.cells (x : It) : List Value := [.int .i64 x.sg, .int .i64 x.val, .bool x.rest, .bool x.col, .bool x.fix, .int .i64 x.cut, .int .i64 x.dur.n, .int .i64 x.dur.d, .int .i64 x.bef.n, .int .i64 x.bef.d, .int .i64 x.aft.n, .int .i64 x.aft.d]
abbrev Its := LsOf 138 12 It.cells
abbrev gT (av : Option Addr) (O : List Ti) : Gr := gOf 65 2 Ti.cells (.slice av O.length O.length) O
noncomputable def cd53 : Code := Tryz.f53.body.getD .skip
theorem spec53 (a : Option Addr) (cap : Nat) (L : List It) (hn : L.length ≤ 27) (hv : Its S (.slice a L.length cap) L) : CC Tryz.prog KK 53 [.slice a L.length cap] S (fun v S' => Keep S S' ∧ ∃ av O, v = .slice av O.length O.length ∧ O = L.map (·.dur) ∧ Grow S S' (gT av O)) := by
 refine cc_enter (c := cd53) (n := 19) Tryz.func53 rfl rfl rfl (by kernel_rfl) rfl rfl ?_
 have hl := Hold.start S
 refine zg ?_
 have hl := hl.addG (g := gT none []) (.inl ⟨rfl, rfl, rfl⟩)
 refine xe_sub (L' := [(8, .int .i64 (0 : Int)), (7, .int .i64 L.length), (6, .slice a L.length cap), (3, .slice none ([] : List Ti).length ([] : List Ti).length), (2, .slice none 0 0)]) ⟨rfl, rfl, rfl, rfl, rfl, trivial⟩ ?_
 refine xp_loop rfl (fun m Le S' => ∃ (i : Nat) (av : Option Addr) (O : List Ti), i ≤ L.length ∧ m = L.length - i ∧ O = (L.take i).map (·.dur) ∧ SubE [(8, .int .i64 (i : Int)), (7, .int .i64 L.length), (6, .slice a L.length cap), (3, .slice av O.length O.length), (2, .slice none 0 0)] Le ∧ HoldG S [S] S' [] [gT av O]) ?_ (m := L.length) ⟨0, none, [], by omega, by omega, rfl, ⟨rfl, rfl, rfl, rfl, rfl, trivial⟩, hl⟩
 clear hl; rintro m Le S' ⟨i, av, O, hi, rfl, hO, hsub, hl⟩; refine xe_sub hsub ?_
 refine zg ?_
 constructor <;> intro h9
 ·
  have hlt : i < L.length := by have := of_decide_eq_true h9; omega
  obtain ⟨x, hx⟩ := nth_some hlt
  have hOl : O.length = i := by rw [hO, List.length_map, List.length_take]; omega
  obtain ⟨b1, o1, cs1, ha, _, hrow, htk⟩ := hv.elem hx
  refine zg ?_; refine re_allocL hl rfl rfl rfl rfl rfl (z := [.int .i64 0, .int .i64 0, .bool false, .bool false, .bool false, .int .i64 0, .int .i64 0, .int .i64 0, .int .i64 0, .int .i64 0, .int .i64 0, .int .i64 0]) (by kernel_rfl) ?_
  intro B5 S5 hl
  refine re_storeL hl 0 rfl rfl rfl rfl rfl rfl rfl (by kernel_rfl) (c' := x.cells) rfl ?_
  intro S6 hl
  refine zg ?_; refine re_buildSliceR hl rfl rfl rfl rfl rfl Tryz.underlying85 rfl (c := x.dur.cells) (by kernel_rfl) ?_; intro B15 S7 hr15 hl; refine re_appendG hl 0 rfl rfl (by simp) rfl rfl rfl rfl rfl rfl rfl Tryz.underlying85 Tryz.underlying85 rfl rfl (by kernel_rfl) (src_row (new := x.dur.cells) hr15 rfl) rfl rfl (by kernel_rfl) (by show O.length + 1 ≤ maxNeed; unfold maxNeed; omega) ?_; intro v16 S8 hl
  obtain ⟨av2, rfl⟩ : ∃ x, v16 = .slice x (O.length + 1) (O.length + 1) := Grow.is (hl.gr _ (List.mem_cons_self ..))
  refine zg ?_
  refine ⟨L.length - (i + 1), by omega, i + 1, av2, O ++ [x.dur], by omega, rfl, by rw [take_nth' hx, List.map_append, hO]; rfl, ⟨rfl, rfl, rfl, congrArg some (congrArg (fun n => Value.slice av2 n n) (by rw [List.length_append]; rfl)), rfl, trivial⟩, ?_⟩
  rw [gT, gOf_push]
  exact hl.tail
 ·
  have hi2 : i = L.length := by have := of_decide_eq_false h9; omega
  subst hi2
  refine zg ?_
  refine y1 rfl ⟨hl.keep, av, O, rfl, by rw [hO, List.take_length], hl.gr _ (List.mem_cons_self ..)⟩
end Go.Proofs.YtblhfojaiipboaaGreatDoor
namespace Go.Proofs.YtblhfojaiipboaaGreatDoor
open Go.Cm Go
set_option maxRecDepth 100000
variable {S : St}
theorem re_step0c {P : Program} {K : Known} {n : Nat} {L : Env} {S S' : St} {Q : Post} {ops : List Oper} {i : Nat} {o : Oper} {as_ : Array Operand} {ts : Array TypeId} {vs : List Value} {v : Value} (ho : nth ops i = some o) (hop : o.op = .call ⟨.builtin .clear, as_, ts⟩) (hw : wantE ops L o = some true) (hd : o.dst = none)
  (hx : Cm.evs L as_.toList = some vs) (hv : builtinV P .clear ts.toList vs S = some (v, S')) (h : RE P K n ops (i + 1) L S' Q) : RE P K n ops i L S Q :=
 re_step0 ho hw hd (fun a ha => ⟨0, by
  have hb : kindOf (.call ⟨.builtin .clear, as_, ts⟩) = .heavy := rfl
  rw [hop]
  unfold stepOp
  rw [hb]
  show (match builtinV P .clear ts.toList (as_.toList.map a.ev) S with
   | some (v, S') => some (OpR.val v, S')
   | none => none) = _
  rw [evs_eq ha hx, hv]⟩) h
theorem clear_one {S : St} {b cap : Nat} {ks : List Nat} (hg : S.get b = some (.cells [.int .i64 0] 3 true true ks)) :
  builtinV Tryz.prog .clear [22] [.slice (some ⟨b, 0, none⟩) 1 cap] S = some (.tuple #[], (S.kill ks).set b (.cells [.int .i64 0] 3 true true [])) := by
 show clearV Tryz.prog [22] (.slice (some ⟨b, 0, none⟩) 1 cap) S = _
 unfold clearV
 have hz : zeroV Tryz.prog 3 = some (.int .i64 0) := by kernel_rfl
 simp only [Tryz.underlying22, hz]
 show (match writeCells S b 0 [.int .i64 0] with
  | some S' => some (Value.tuple #[], S')
  | none => none) = _
 unfold writeCells
 rw [hg]
 rfl
end Go.Proofs.YtblhfojaiipboaaGreatDoor
namespace Go.Proofs.YtblhfojaiipboaaGreatDoor
open Go.Cm Go
set_option maxRecDepth 100000
variable {S : St}
theorem re_appendS {P : Program} {K : Known} {n : Nat} {L : Env} {S S0 : St} {Q : Post} {ops : List Oper} {i d : Nat} {o : Oper} {l : List (Nat × Blk)} {B0 : Nat} {e : TypeId} (hl : HoldG S0 [S0] S ((B0, .cells [] e true true []) :: l) []) {ar : Array Operand} {ts : Array TypeId} {sT xT : TypeId} {xd : TypeDesc} {x : Value} {m z : Nat} {new : List Value}
  (ho : nth ops i = some o) (hop : o.op = .call ⟨.builtin .append, ar, ts⟩) (hw : wantE ops L o = some true) (hdst : o.dst = some d) (hlt : Nat.blt d n = true) (hx : Cm.evs L ar.toList = some [.slice (some ⟨B0, 0, none⟩) 0 0, x]) (hts : ts.toList = [sT, xT])
  (hu : P.underlying sT = some (.slice e)) (hux : P.underlying xT = some xd) (hi : isIntT xd = false) (hlen : lenOfV x = some m) (hz : szOf P e = some z) (hs : sourceCells S z m x = some new)
  (hnl : new.length = m * z) (hc : new.all cellV = true) (hgb : growB P e z = true) (hneed : m ≤ maxNeed)
  (h : ∀ aw tl S', RowT e aw m new tl → HoldG S0 [S0] S' (tl ++ l) [] → RE P K n ops (i + 1) ((d, .slice aw m m) :: L) S' Q) : RE P K n ops i L S Q := by
 obtain ⟨aw, tl, S', h1, h2, h3⟩ := append_stepS hl hts hu hux hi hlen hz hs hnl hc hgb hneed
 exact re_builtin ho hop hw hdst hlt rfl hx h1 (h aw tl S' h2 h3)
theorem spec52t (a : Option Addr) (cap : Nat) (hv : Ints S (.slice a 1 cap) [0]) : CC Tryz.prog KK 52 [.slice a 1 cap] S (fun v S' => ∃ b B0, v = .slice (some ⟨b, 0, none⟩) 1 1 ∧ HoldG S [S] S' ((b, .cells [.int .i64 0] 3 true true [B0]) :: deadL 3 [B0]) []) := by
 refine cc_enter (c := cd52) (n := 8) Tryz.func52 rfl rfl rfl (by kernel_rfl) rfl rfl ?_
 have hl := Hold.start S
 refine zg ?_; refine rr rfl (rd_bin rfl rfl rfl (eq_nil Tryz.underlying22)) ?_; refine zg ?_
 constructor <;> intro h4
 ·
  cases ls_none hv h4
 ·
  refine zg ?_; refine re_buildSliceB hl rfl rfl rfl rfl rfl Tryz.underlying22 rfl (c := []) (by kernel_rfl) ?_; intro B5 S1 hl; refine zg ?_
  have hv' := hv.move (hl.since 0 rfl)
  refine re_appendS hl rfl rfl rfl rfl rfl rfl rfl Tryz.underlying22 Tryz.underlying22 rfl rfl (by kernel_rfl) (LsOf.cells (C := [0]) hv') rfl rfl (by kernel_rfl) (by unfold maxNeed; omega) ?_; intro aw tl S2 hT hl
  rw [List.append_nil] at hl
  refine zg ?_
  rcases hT with ⟨_, h, _⟩ | ⟨B, B0, _, rfl, rfl⟩
  ·omega
  ·exact y1 rfl ⟨B, B0, rfl, hl⟩
theorem slice_lo {S : St} {b : Nat} {ks : List Nat} (hg : S.get b = some (.cells [.int .i64 0] 3 true true ks)) : sliceV Tryz.prog 22 (.slice (some ⟨b, 0, none⟩) 1 1) (some (.int .i64 0)) none none S = some (.slice (some ⟨b, 0, none⟩) 1 1) := by
 unfold sliceV
 have hz : szOf Tryz.prog 3 = some 1 := by kernel_rfl
 have hr : rowSize Tryz.prog S b 1 = true := by unfold rowSize; rw [hg]; simp only [hz]; rfl
 simp only [Tryz.underlying22, hz, show bounds3 1 1 (some (.int .i64 0)) none none = some (0, 1, 1) from rfl, hr, cond_true, Option.isSome_none, Bool.false_and, cond_false]
theorem slice_hi {S : St} {b : Nat} {ks : List Nat} (hg : S.get b = some (.cells [.int .i64 0] 3 true true ks)) : sliceV Tryz.prog 22 (.slice (some ⟨b, 0, none⟩) 1 1) none (some (.int .i64 0)) none S = some (.slice (some ⟨b, 0, none⟩) 0 1) := by
 unfold sliceV
 have hz : szOf Tryz.prog 3 = some 1 := by kernel_rfl
 have hr : rowSize Tryz.prog S b 1 = true := by unfold rowSize; rw [hg]; simp only [hz]; rfl
 simp only [Tryz.underlying22, hz, show bounds3 1 1 none (some (.int .i64 0)) none = some (0, 0, 1) from rfl, hr, cond_true, Option.isSome_none, Bool.false_and, cond_false]
noncomputable def cd133 : Code := Tryz.f133.body.getD .skip
theorem spec133 {S0 : St} {r0 : List (Nat × Blk)} {b B0 B : Nat} (hl : HoldG S0 [S0] S (r0 ++ (b, .cells [.int .i64 0] 3 true true [B0]) :: deadL 3 [B0]) []) (hB : Bx S B) : CC Tryz.prog KK 133 [.slice (some ⟨b, 0, none⟩) 1 1, .func (.func 134) #[] #[ptrTo B 0]] S (fun v S' => v = .slice (some ⟨b, 0, none⟩) 0 1 ∧ HoldG S0 [S0] S' (r0 ++ [(b, .cells [.int .i64 0] 3 true true [])]) []) := by
 refine cc_enter (c := cd133) (n := 42) Tryz.func133 rfl rfl rfl (by kernel_rfl) rfl rfl ?_
 have hb := hl.at_ b _ (List.mem_append.2 (.inr (List.mem_cons_self ..)))
 have hv : Ints S (.slice (some ⟨b, 0, none⟩) 1 1) [0] := LsOf.row (f := ic) (C := [0]) (fun _ => rfl) ⟨hb.2.2, true, _, hb.1⟩ rfl
 refine zg ?_
 refine zc hl rfl (spec153 (some ⟨b, 0, none⟩) 1 B hB hv) ?_; rintro v S1 hk1 rfl hl
 refine zg ?_
 refine xp_loop rfl (fun m Le S' => SubE [(6, .int .i64 1), (5, .int .i64 0), (0, .slice (some ⟨b, 0, none⟩) 1 1)] Le ∧ HoldG S0 [S0] S' (r0 ++ (b, .cells [.int .i64 0] 3 true true [B0]) :: deadL 3 [B0]) []) ?_ (m := 0) ⟨⟨rfl, rfl, rfl, trivial⟩, hl⟩
 clear hl; rintro m Le S' ⟨hsub, hl⟩; refine xe_sub hsub ?_
 refine zg ?_
 have hb := hl.at_ b _ (List.mem_append.2 (.inr (List.mem_cons_self ..)))
 refine rr rfl (rd_slice rfl rfl rfl rfl rfl (slice_lo hb.1)) ?_; refine re_step0c rfl rfl rfl rfl rfl (clear_one hb.1) ?_
 have hl := hl.putT (.cells [.int .i64 0] 3 true true [])
 refine zg ?_
 have hb := hl.at_ b _ (List.mem_append.2 (.inr (List.mem_cons_self ..)))
 refine rr rfl (rd_slice rfl rfl rfl rfl rfl (slice_hi hb.1)) ?_; refine zg ?_
 exact y1 rfl ⟨rfl, hl⟩
end Go.Proofs.YtblhfojaiipboaaGreatDoor
namespace Go.Proofs.YtblhfojaiipboaaGreatDoor
open Go.Cm Go
set_option maxRecDepth 100000
variable {S : St}
noncomputable def cd114 : Code := Tryz.f114.body.getD .skip
theorem spec114 (a : Option Addr) (cap : Nat) (hv : Ints S (.slice a 1 cap) [0]) : CC Tryz.prog KK 114 [.slice a 1 cap, .func (.func 113) #[] #[]] S (fun v S' => Keep S S' ∧ ∃ av c, v = .slice av 0 c ∧ Ints S' (.slice av 0 c) []) := by
 refine cc_enter (c := cd114) (n := 13) Tryz.func114 rfl rfl rfl (by kernel_rfl) rfl rfl ?_
 have hl := Hold.start S
 refine zg ?_; refine re_boxL hl rfl rfl rfl rfl rfl rfl ?_
 intro B3 S1 hl
 refine zg ?_
 refine re_call rfl rfl rfl rfl rfl rfl rfl (cc_mono (spec52t a cap (hv.move (hl.since 0 rfl))) ?_); rintro v S2 ⟨b, B0, rfl, ht⟩
 have hl := hl.join ht
 have h3 := hl.at_ B3 _ (List.mem_append.2 (.inl (List.mem_cons_self ..)))
 refine zg ?_; refine rr rfl (rd_func rfl rfl rfl) ?_
 refine re_call rfl rfl rfl rfl rfl rfl rfl (cc_mono (spec133 (r0 := [(B3, .cells [.func (.func 113) #[] #[]] 76 false true [])]) (B := B3) hl ⟨h3.2.2, h3.1⟩) ?_); rintro v S3 ⟨rfl, hl⟩
 refine zg ?_
 refine zc hl rfl (spec135 _ 1) ?_; rintro v S4 hk2 rfl hl
 refine zg ?_
 refine zc hl rfl (spec136 _ 1) ?_; rintro v S5 hk3 rfl hl
 refine zg ?_
 have hb := hl.at_ b _ (List.mem_append.2 (.inr (List.mem_cons_self ..)))
 exact y1 rfl ⟨hl.keep, _, _, rfl, .inr ⟨b, 0, 1, _, rfl, by simp, ⟨hb.2.2, true, _, hb.1⟩, fun k y h => by cases h⟩⟩
noncomputable def cd82 : Code := Tryz.f82.body.getD .skip
theorem spec82 (v p : Int) (c : Bool) (hF : Fresh S) (hv : 1 ≤ v ∧ v ≤ 8) : CC Tryz.prog KK 82 [m2, (noteS v p c).v] S (fun w S' => Keep S S' ∧ ∃ av, w = .slice av 1 1 ∧ Grow S S' (gN av [0])) := by
 refine cc_enter (c := cd82) (n := 51) Tryz.func82 rfl rfl rfl (by kernel_rfl) rfl rfl ?_
 have hl := Hold.start S
 refine zg ?_; refine re_boxL hl rfl rfl rfl rfl rfl rfl ?_
 intro B2 S2 hl
 refine re_boxL hl rfl rfl rfl rfl rfl rfl ?_
 intro B3 S3 hl
 refine zg ?_
 refine zc hl rfl (kAbove hv) ?_; rintro w S4 hk1 rfl hl
 refine zg ?_
 refine zc hl rfl (kParts hv) ?_; rintro w S5 hk1 rfl hl
 refine zg ?_
 constructor <;> intro h32
 ·
  refine zg ?_; refine re_buildSliceG hl 1 rfl rfl rfl rfl rfl Tryz.underlying22 rfl (c := ic 0) (by kernel_rfl) rfl ?_; intro w6 S6 hl
  obtain ⟨av, rfl⟩ : ∃ x, w6 = .slice x 1 1 := Grow.is (hl.gr _ (List.mem_cons_self ..))
  refine zg ?_
  exact blk_ret (z1 rfl ⟨hl.keep, av, rfl, hl.gr _ (List.mem_cons_self ..)⟩)
 ·
  refine zg ?_; refine re_buildSliceG hl 1 rfl rfl rfl rfl rfl Tryz.underlying22 rfl (c := ic 0) (by kernel_rfl) rfl ?_; intro w6 S6 hl
  obtain ⟨av, rfl⟩ : ∃ x, w6 = .slice x 1 1 := Grow.is (hl.gr _ (List.mem_cons_self ..))
  refine zg ?_; refine re_buildSliceR hl rfl rfl rfl rfl rfl Tryz.underlying22 rfl (c := ic 0) (by kernel_rfl) ?_; intro B47 S7 hr47 hl; refine zg ?_
  refine zc hl rfl (spec114 (some ⟨B47, 0, none⟩) 1 (LsOf.row (f := ic) (C := [0]) (fun _ => rfl) hr47 rfl)) ?_; rintro w S8 hk1 ⟨a2, c2, rfl, hv2⟩ hl
  refine re_appendG hl 0 rfl rfl (by simp) rfl rfl rfl rfl rfl rfl rfl Tryz.underlying22 Tryz.underlying22 rfl rfl (by kernel_rfl) (LsOf.cells (C := ([] : List Int)) hv2) rfl rfl (by kernel_rfl) (by show 1 + 0 ≤ maxNeed; unfold maxNeed; omega) ?_; intro w9 S9 hl
  obtain ⟨a3, rfl⟩ : ∃ x, w9 = .slice x 1 1 := Grow.is (hl.gr _ (List.mem_cons_self ..))
  refine zg ?_
  exact y1 rfl ⟨hl.keep, a3, rfl, hl.gr _ (List.mem_cons_self ..)⟩
end Go.Proofs.YtblhfojaiipboaaGreatDoor
namespace Go.Proofs.YtblhfojaiipboaaGreatDoor
open Go.Cm Go
set_option maxRecDepth 100000
variable {S : St}
noncomputable def cd62 : Code := Tryz.f62.body.getD .skip
theorem spec62 (a : Option Addr) (cap : Nat) (R : List Sg) (hF : Fresh S) (hn : R.length ≤ 27) (hR : RunP R) (hv : Sgs S (.slice a R.length cap) R) : CC Tryz.prog KK 62 [m2, .slice a R.length cap] S (fun v S' => Keep S S' ∧ v = .int .i64 0) := by
 refine cc_enter (c := cd62) (n := 58) Tryz.func62 rfl rfl rfl (by kernel_rfl) rfl rfl ?_
 have hl := Hold.start S
 refine zg ?_; refine re_boxL hl rfl rfl rfl rfl rfl rfl ?_
 intro B2 S2 hl
 refine zg ?_
 refine zc hl rfl (spec66 2 2 2 2) ?_; rintro w S3 hk1 rfl hl
 rw [show mensE 2 2 2 2 = 0 from rfl]
 refine zg ?_; refine xe_sub (L' := [(15, .int .i64 (0 : Int)), (14, .int .i64 R.length), (13, .slice a R.length cap), (4, .int .i64 0), (2, ptrTo B2 0), (1, .slice a R.length cap)]) ⟨rfl, rfl, rfl, rfl, rfl, rfl, trivial⟩ ?_
 refine xp_loop rfl (fun m Le S' => ∃ i : Nat, i ≤ R.length ∧ m = R.length - i ∧ SubE [(15, .int .i64 (i : Int)), (14, .int .i64 R.length), (13, .slice a R.length cap), (4, .int .i64 0), (2, ptrTo B2 0), (1, .slice a R.length cap)] Le ∧ HoldG S [S] S' [(B2, .cells (cellsL m2) 28 false true [])] []) ?_ (m := R.length) ⟨0, by omega, by omega, ⟨rfl, rfl, rfl, rfl, rfl, rfl, trivial⟩, hl⟩
 clear hl; rintro m Le S' ⟨i, hi, rfl, hsub, hl⟩; refine xe_sub hsub ?_
 refine zg ?_
 constructor <;> intro h16
 ·
  have hlt : i < R.length := by have := of_decide_eq_true h16; omega
  obtain ⟨s, hs⟩ := nth_some hlt
  obtain ⟨b1, o1, cs1, ha, _, hrow, htk⟩ := hv.elem hs
  refine zg ?_; refine re_allocL hl rfl rfl rfl rfl rfl (z := (dotS.cells.set 0 (.int .i64 0))) (by kernel_rfl) ?_
  intro B7 S7 hl
  refine zg ?_; refine re_storeL hl 0 rfl rfl rfl rfl rfl rfl rfl (by kernel_rfl) (c' := s.cells) rfl ?_
  intro S8 hl
  rcases hR i s hs with (⟨v, p, c, hv1, _, rfl⟩ | ⟨v, hv1, rfl⟩) | ⟨rfl, k, v, p, c, rfl, hv1, hp1, hkn⟩
  ·
   refine zg ?_; refine re_bool (d := 28) rfl (fun h28 => ?_) (fun h28 => ?_)
   ·
    exfalso
    have := of_decide_eq_true h28
    have : v < 1 := this
    omega
   refine zg ?_
   constructor <;> intro h32
   ·
    exfalso
    have := of_decide_eq_true h32
    have : v > 8 := this
    omega
   refine zg ?_
   exact ⟨R.length - (i + 1), by omega, i + 1, by omega, rfl, ⟨rfl, rfl, rfl, rfl, rfl, rfl, trivial⟩, hl.tail⟩
  ·
   refine zg ?_; refine re_bool (d := 28) rfl (fun h28 => ?_) (fun h28 => ?_)
   ·
    exfalso
    have := of_decide_eq_true h28
    have : v < 1 := this
    omega
   refine zg ?_
   constructor <;> intro h32
   ·
    exfalso
    have := of_decide_eq_true h32
    have : v > 8 := this
    omega
   refine zg ?_
   exact ⟨R.length - (i + 1), by omega, i + 1, by omega, rfl, ⟨rfl, rfl, rfl, rfl, rfl, rfl, trivial⟩, hl.tail⟩
  ·
   obtain ⟨b2, o2, cs2, ha2, _, hrow2, htk2⟩ := hv.elem hkn
   refine zg ?_; refine xp_draw (idx := [0, 1, 2, 3, 4, 5, 6, 7, 8, 9, 10, 11, 12, 13, 14, 15, 16, 17, 18, 19, 20, 21]) rfl (by kernel_rfl) (by kernel_rfl) ?_; refine zg ?_
   have ek : ((k + 1 : Nat) : Int) - 1 = (k : Int) := by omega
   rw [ek]
   refine zg ?_
   rw [ek]
   refine zg ?_
   refine zp hl rfl (spec82 v p c (hl.keep.3 hF) hv1) ?_; rintro w S9 hk2 ⟨av, rfl, _⟩ hl
   refine ⟨zt, ?_⟩
   refine zg ?_
   exact ⟨R.length - (k + 1 + 1), by omega, k + 1 + 1, by omega, rfl, ⟨rfl, rfl, rfl, rfl, rfl, rfl, trivial⟩, hl.tail⟩
 ·
  refine zg ?_
  refine y1 rfl ⟨hl.keep, rfl⟩
end Go.Proofs.YtblhfojaiipboaaGreatDoor
namespace Go.Proofs.YtblhfojaiipboaaGreatDoor
open Go.Cm Go
set_option maxRecDepth 100000
variable {S : St}
theorem dt_at : ∀ {R : List Sg} {i j : Nat} {x : Int}, nth (dtG R i) j = some x → ∃ q s, x = ((i + q : Nat) : Int) ∧ nth R q = some s ∧ (s.kind == 3) = true
 | [], _, _, _, h => by cases h
 | s :: r, i, j, x, h => by
  cases hk : (s.kind == 3) with
  | true =>
   rw [dt_1 hk] at h
   match j, h with
   | 0, h => cases h; exact ⟨0, s, rfl, rfl, hk⟩
   | j + 1, h =>
    obtain ⟨q, u, rfl, h2, h3⟩ := dt_at (R := r) (i := i + 1) (j := j) h
    exact ⟨q + 1, u, by congr 1; omega, h2, h3⟩
  | false =>
   rw [dt_2 hk] at h
   obtain ⟨q, u, rfl, h2, h3⟩ := dt_at (R := r) (i := i + 1) (j := j) h
   exact ⟨q + 1, u, by congr 1; omega, h2, h3⟩
theorem dt_note {R : List Sg} (hR : RunP R) {j : Nat} {x : Int} (h : nth (dtE R) j = some x) : ∃ k v p c, x = ((k + 1 : Nat) : Int) ∧ k < R.length ∧ (1 ≤ v ∧ v ≤ 8) ∧ nth R k = some (noteS v p c) := by
 obtain ⟨q, s, rfl, h2, h3⟩ := dt_at h
 rcases hR q s h2 with (⟨_, _, _, _, _, rfl⟩ | ⟨_, _, rfl⟩) | ⟨rfl, k, v, p, c, rfl, hv, _, hn⟩
 ·cases h3
 ·cases h3
 ·exact ⟨k, v, p, c, by rw [Nat.zero_add], by have := nth_lt hn; omega, hv, hn⟩
def wc (w : Value) : List Value := [w]
abbrev gW (av : Option Addr) (W : List Value) : Gr := gOf 22 1 wc (.slice av W.length W.length) W
def Zs (S : St) (W : List Value) : Prop := ∀ w, w ∈ W → ∃ a, w = .slice a 1 1 ∧ Ints S (.slice a 1 1) [0]
theorem Zs.move {S T : St} {W : List Value} (h : RK S T) (hz : Zs S W) : Zs T W := fun w hw => by
 obtain ⟨a, e, h2⟩ := hz w hw
 exact ⟨a, e, h2.move h⟩
noncomputable def cd80 : Code := Tryz.f80.body.getD .skip
theorem spec80 (a : Option Addr) (cap : Nat) (R : List Sg) (hF : Fresh S) (hn : R.length ≤ 27) (hR : RunP R) (hv : Sgs S (.slice a R.length cap) R) : CC Tryz.prog KK 80 [m2, .slice a R.length cap] S (fun v S' => Keep S S' ∧ ∃ av W, v = tupV [.slice av W.length W.length, .int .i64 0] ∧ W.length = (dtE R).length ∧ Zs S' W ∧ Grow S S' (gW av W)) := by
 refine cc_enter (c := cd80) (n := 35) Tryz.func80 rfl rfl rfl (by kernel_rfl) rfl rfl ?_
 have hl := Hold.start S
 refine zg ?_; refine re_boxL hl rfl rfl rfl rfl rfl rfl ?_
 intro B2 S2 hl
 refine zg ?_
 refine zc hl rfl (spec62 a cap R (hl.keep.3 hF) hn hR (hv.move (hl.since 0 rfl))) ?_; rintro w S3 hk1 rfl hl
 refine zg ?_
 refine zc hl rfl (spec109 a cap R hn (hv.move (hl.since 0 rfl))) ?_; rintro w S4 hk2 ⟨ad, rfl, hd27, hgd⟩ hl
 have hvd : Ints S4 (.slice ad (dtE R).length (dtE R).length) (dtE R) := Grow.ls (f := ic) (fun _ => rfl) hgd
 have hl := hl.mark
 refine zg ?_
 have hl := hl.addG (g := gW none []) (.inl ⟨rfl, rfl, rfl⟩)
 refine xe_sub (L' := [(19, .int .i64 (0 : Int)), (18, .int .i64 (dtE R).length), (17, .slice ad (dtE R).length (dtE R).length), (7, .slice none ([] : List Value).length ([] : List Value).length), (5, .int .i64 0), (4, .slice none 0 0), (2, ptrTo B2 0), (1, .slice a R.length cap)]) ⟨rfl, rfl, rfl, rfl, rfl, rfl, rfl, rfl, trivial⟩ ?_
 refine xp_loop rfl (fun m Le S' => ∃ (j : Nat) (av : Option Addr) (W : List Value), j ≤ (dtE R).length ∧ m = (dtE R).length - j ∧ W.length = j ∧ Zs S' W ∧ SubE [(19, .int .i64 (j : Int)), (18, .int .i64 (dtE R).length), (17, .slice ad (dtE R).length (dtE R).length), (7, .slice av W.length W.length), (5, .int .i64 0), (4, .slice none 0 0), (2, ptrTo B2 0), (1, .slice a R.length cap)] Le ∧ HoldG S [S4, S] S' [(B2, .cells (cellsL m2) 28 false true [])] [gW av W]) ?_ (m := (dtE R).length) ⟨0, none, [], by omega, by omega, rfl, (fun w hw => (List.not_mem_nil hw).elim), ⟨rfl, rfl, rfl, rfl, rfl, rfl, rfl, rfl, trivial⟩, hl⟩
 clear hl; rintro m Le S' ⟨j, av, W, hj, rfl, hW, hz, hsub, hl⟩; refine xe_sub hsub ?_
 refine zg ?_
 constructor <;> intro h20
 ·
  have hlt : j < (dtE R).length := by have := of_decide_eq_true h20; omega
  obtain ⟨x, hx⟩ := nth_some hlt
  obtain ⟨b1, o1, cs1, ha, _, hrow, htk⟩ := hvd.elem hx
  obtain ⟨k, v, p, c, rfl, hkR, hv1, hkn⟩ := dt_note hR hx
  obtain ⟨b2, o2, cs2, ha2, _, hrow2, htk2⟩ := hv.elem hkn
  have hl := hl.mark
  refine zg ?_; refine xp_draw (idx := [0, 1, 2, 3, 4, 5, 6, 7, 8, 9, 10]) rfl (by kernel_rfl) (by kernel_rfl) ?_; refine zg ?_
  have ek : ((k + 1 : Nat) : Int) - 1 = (k : Int) := by omega
  rw [ek]
  refine zg ?_
  refine zp hl rfl (spec82 v p c (hl.keep.3 hF) hv1) ?_; rintro w S9 hk3 ⟨a0, rfl, hg0⟩ hl
  have hi0 : Ints S9 (.slice a0 1 1) [0] := Grow.ls (f := ic) (C := [0]) (fun _ => rfl) hg0
  refine ⟨zt, ?_⟩
  have hl := hl.mark
  refine rp_buildSliceR hF hl rfl rfl rfl rfl rfl Tryz.underlying43 rfl (c := wc (.slice a0 1 1)) (by kernel_rfl) ?_; intro B31 S10 hg31 hr31 hl
  have hgv := hl.gr _ (List.mem_cons_self ..)
  refine rp_appendX hl 0 rfl rfl (by simp) rfl rfl rfl rfl rfl rfl rfl Tryz.underlying43 Tryz.underlying43 rfl rfl (by kernel_rfl) (src_row (new := wc (.slice a0 1 1)) hr31 rfl) rfl rfl (by kernel_rfl) (by show W.length + 1 ≤ maxNeed; unfold maxNeed; omega) ?_; intro v32 S11 hl hx
  obtain ⟨av2, rfl⟩ : ∃ x, v32 = .slice x (W.length + 1) (W.length + 1) := Grow.is (hl.gr _ (List.mem_cons_self ..))
  refine ⟨by repeat (first| exact trivial| refine stays_left ?_| (refine ⟨by first| exact kf tt (sN rfl (hx _ _ hr31.1 (gb_ne hgv hg31 nofun) hg31))| exact sZ| exact kl tt (stays_load rfl rfl qL sG rfl)| exact kl tt (stays_load rfl rfl qL sQ rfl), ?_⟩)), ?_⟩
  refine zg ?_
  refine ⟨(dtE R).length - (j + 1), by omega, j + 1, av2, W ++ [.slice a0 1 1], by omega, rfl, by rw [List.length_append, hW]; rfl, ?_, ⟨rfl, rfl, rfl, congrArg some (congrArg (fun n => Value.slice av2 n n) (by rw [List.length_append]; rfl)), rfl, rfl, rfl, rfl, trivial⟩, ?_⟩
  ·intro w hw
   rcases List.mem_append.1 hw with hw | hw
   ·exact (hz.move (hl.since 1 rfl)) w hw
   ·exact ⟨a0, List.mem_singleton.1 hw, hi0.move (hl.since 0 rfl)⟩
  ·rw [gW, gOf_push]
   exact hl.marks (Us := [S4, S]) fun T hT => by simp only [List.mem_cons, List.not_mem_nil, or_false] at hT ⊢; rcases hT with h | h <;> simp [h]
 ·
  refine zg ?_
  exact y2 rfl rfl ⟨hl.keep, av, W, rfl, by have := of_decide_eq_false h20; omega, hz, hl.gr _ (List.mem_cons_self ..)⟩
end Go.Proofs.YtblhfojaiipboaaGreatDoor
namespace Go.Proofs.YtblhfojaiipboaaGreatDoor
open Go.Cm Go
set_option maxRecDepth 100000
variable {S : St}
theorem dtG_len : ∀ (R : List Sg) (i : Nat), (dtG R i).length ≤ R.length
 | [], _ => Nat.le_refl _
 | s :: r, i => by
  have := dtG_len r (i + 1)
  cases hk : (s.kind == 3) with
  | true => rw [dt_1 hk]; simp only [List.length_cons]; omega
  | false => rw [dt_2 hk]; simp only [List.length_cons]; omega
theorem dtE_len (R : List Sg) : (dtE R).length ≤ R.length := dtG_len R 0
theorem Zs.elem {S S0 : St} {av : Option Addr} {W : List Value} {j : Nat} (hj : j < W.length) (hz : Zs S W) (hg : Grow S0 S (gW av W)) : ∃ a0 b1 o1 cs1, Ints S (.slice a0 1 1) [0] ∧ av = some ⟨b1, o1, none⟩ ∧ RowAt S b1 22 cs1 ∧ takeN 1 (dropN (o1 + j * 1) cs1) = some [.slice a0 1 1] := by
 obtain ⟨w, hw⟩ := nth_some hj
 obtain ⟨a0, rfl, hi⟩ := hz w (nth_mem hw)
 have hW : LsOf 22 1 wc S (.slice av W.length W.length) W := Grow.ls (f := wc) (fun _ => rfl) hg
 obtain ⟨b1, o1, cs1, ha, _, hrow, htk⟩ := hW.elem hw
 exact ⟨a0, b1, o1, cs1, hi, ha, hrow, htk⟩
noncomputable def cd78 : Code := Tryz.f78.body.getD .skip
theorem spec78 (a : Option Addr) (cap : Nat) (R : List Sg) (hF : Fresh S) (hn : R.length ≤ 27) (hR : RunP R) (hv : Sgs S (.slice a R.length cap) R) : CC Tryz.prog KK 78 [m2, .slice a R.length cap] S (fun v S' => Keep S S' ∧ v = tupV [.int .i64 1, .int .i64 0]) := by
 refine cc_enter (c := cd78) (n := 36) Tryz.func78 rfl rfl rfl (by kernel_rfl) rfl rfl ?_
 have hl := Hold.start S
 refine zg ?_; refine re_boxL hl rfl rfl rfl rfl rfl rfl ?_
 intro B2 S2 hl
 refine zg ?_; refine xp_scope rfl ?_; refine zg ?_
 refine zc hl rfl (spec80 a cap R (hl.keep.3 hF) hn hR (hv.move (hl.since 0 rfl))) ?_; rintro w S3 hk1 ⟨av, W, rfl, hWl, hz, hg⟩ hl
 have hW27 : W.length ≤ 27 := by have := dtE_len R; omega
 refine zg ?_; refine xp_label rfl ?_; refine xp_seq rfl ?_; refine zS ?_; refine xp_block rfl ?_; refine xe_sub (L' := [(22, .int .i64 (0 : Int)), (21, .int .i64 W.length), (20, .slice av W.length W.length), (8, .int .i64 1), (5, .int .i64 0), (4, .int .i64 0)]) ⟨rfl, rfl, rfl, rfl, rfl, rfl, trivial⟩ ?_
 refine xp_loop rfl (fun m Le S' => ∃ j : Nat, j ≤ W.length ∧ m = W.length - j ∧ SubE [(22, .int .i64 (j : Int)), (21, .int .i64 W.length), (20, .slice av W.length W.length), (8, .int .i64 1), (5, .int .i64 0), (4, .int .i64 0)] Le ∧ HoldG S [S3, S] S' [(B2, .cells (cellsL m2) 28 false true [])] []) ?_ (m := W.length) ⟨0, by omega, by omega, ⟨rfl, rfl, rfl, rfl, rfl, rfl, trivial⟩, hl.mark⟩
 clear hl; rintro m Le S' ⟨j, hj, rfl, hsub, hl⟩; refine xe_sub hsub ?_
 refine zg ?_
 constructor <;> intro h23
 ·
  have hlt : j < W.length := by have := of_decide_eq_true h23; omega
  obtain ⟨a0, b1, o1, cs1, hi, ha, hrow, htk⟩ := hz.elem hlt hg
  refine zg ?_
  exact ⟨W.length - (j + 1), by omega, j + 1, by omega, rfl, ⟨rfl, rfl, rfl, rfl, rfl, rfl, trivial⟩, hl⟩
 ·
  refine zg ?_
  exact scp_ret (y2 rfl rfl ⟨hl.keep, rfl⟩)
end Go.Proofs.YtblhfojaiipboaaGreatDoor
namespace Go.Proofs.YtblhfojaiipboaaGreatDoor
open Go.Cm Go
set_option maxRecDepth 100000
variable {S : St}
theorem tm_one {S : St} {d : Nat} (h : S.get d = some (.defs false)) : takeMarks [markOf d] S = some (S.set d (.defs true)) := by
 unfold markOf takeMarks
 rw [h]
 rfl
theorem xd_rangeN {P : Program} {K : Known} {n : Nat} {L : Env} {S S0 : St} {Ts : List St} {l : List (Nat × Blk)} {gs : List Gr} {ds : List Deferred} {Q : PostD} {c : Code} {g : FuncId} {fi ca : Array Value} {v0 : Value} (hl : HoldG S0 Ts S l gs) (hk : isRange c = true) (hf : evE L (rgF c) = some (.func (.func g) fi ca)) (hc : isConst (rgF c) = false) (hb : bodied P (.func g) = true)
  (h : ∀ T, Keep S T → CC P K g (fi.toList ++ [.func (.yield (S.size + 1)) #[] #[]] ++ ca.toList) T fun v S' => Keep T S' ∧ v = v0)
  (hq : ∀ S', HoldG S0 Ts S' ((S.size, .defs false) :: l) gs → Q .normal L S' ([markOf S.size] ++ ds)) : XD P K n none c L S ds Q := by
 refine xd_range hk hf hc hb ?_
 intro t ht
 have hl := (hl.new (.defs false)).new (.loop .ready none n t (rgP c) (rgA c) (rgB c) S.size)
 refine ct_mono (ct_func (ce_of_cc (h _ ((Keep.new _ _).trans (Keep.new _ _))))) ?_
 rintro r S9 ⟨v, rfl, hk9, rfl⟩
 have hl := hl.call hk9
 refine ⟨_, _, _, _, _, _, _, _, hl.get 0 rfl, rfl, ?_⟩
 have hl := hl.put (k := 0) rfl rfl (.loop .exhausted none n t (rgP c) (rgA c) (rgB c) S.size)
 exact hq _ hl.tail
noncomputable def cd85 : Code := Tryz.f85.body.getD .skip
theorem spec85 (a : Option Addr) (cap : Nat) (R : List Sg) (hF : Fresh S) (hn : R.length ≤ 27) (hR : RunP R) (hM : NoCM R) (hv : Sgs S (.slice a R.length cap) R) : CC Tryz.prog KK 85 [m2, .slice a R.length cap] S (fun v S' => Keep S S' ∧ v = tupV [.slice none 0 0, .int .i64 0]) := by
 refine cc_enterM (c := cd85) (n := 24) Tryz.func85 rfl rfl rfl (by kernel_rfl) rfl rfl ?_
 have hl := Hold.start S
 refine xdp_seq rfl (xd_of_xe ?_); refine zg ?_; refine re_boxL hl rfl rfl rfl rfl rfl rfl ?_
 intro B2 S2 hl
 refine zg ?_; refine xdp_seq rfl (xd_of_xe ?_); refine zg ?_
 refine zc hl rfl (spec62 a cap R (hl.keep.3 hF) hn hR (hv.move (hl.since 0 rfl))) ?_; rintro v S3 hk1 rfl hl
 refine zg ?_; refine xdp_seq rfl (xd_of_xe ?_); refine zg ?_; refine re_allocL hl rfl rfl rfl rfl rfl (z := [.slice none 0 0]) (by kernel_rfl) ?_
 intro B7 S7 hl
 refine zg ?_; refine xdp_seq rfl ?_; refine xdp_seq rfl (xd_of_xe ?_); refine zg ?_
 refine re_call rfl rfl rfl rfl rfl rfl rfl (cc_mono (spec116 a R.length cap) ?_); rintro v S8 ⟨hk, B3, B4, rfl, _, _, h3, h2⟩
 have hl := hl.call hk
 refine zg ?_; refine xdp_block rfl (xd_rangeN (v0 := tupV []) hl rfl rfl rfl (by kernel_rfl) (fun T hT => spec137 _ B3 B4 a cap R hn hM ((hv.move (hl.since 0 rfl)).move hT.rk) (h3.keep hT) (h2.keep hT)) ?_)
 intro S9 hl
 refine xdp_seq rfl (xd_of_xe ?_); refine zg ?_; refine xd_of_xe (xp_ret rfl ?_)
 have hd := hl.get 0 rfl
 have hl := hl.put (k := 0) rfl rfl (.defs true)
 exact ⟨_, _, tm_one hd, ress_tmp rfl (ress_tmp rfl rfl), hl.keep, rfl⟩
noncomputable def cd79 : Code := Tryz.f79.body.getD .skip
theorem spec79 (a : Option Addr) (cap : Nat) (R : List Sg) (hF : Fresh S) (hn : R.length ≤ 27) (hR : RunP R) (hM : NoCM R) (hv : Sgs S (.slice a R.length cap) R) : CC Tryz.prog KK 79 [m2, .slice a R.length cap] S (fun v S' => Keep S S' ∧ v = tupV [.int .i64 1, .int .i64 0]) := by
 refine cc_enter (c := cd79) (n := 23) Tryz.func79 rfl rfl rfl (by kernel_rfl) rfl rfl ?_
 have hl := Hold.start S
 refine zg ?_; refine re_boxL hl rfl rfl rfl rfl rfl rfl ?_
 intro B2 S2 hl
 refine zg ?_
 refine zc hl rfl (spec85 a cap R (hl.keep.3 hF) hn hR hM (hv.move (hl.since 0 rfl))) ?_; rintro v S3 hk1 rfl hl
 refine zg ?_; refine rr rfl (rd_bin (v := .int .i64 1) rfl rfl rfl (by kernel_rfl)) ?_; refine zg ?_
 exact y2 rfl rfl ⟨hl.keep, rfl⟩
noncomputable def cd61 : Code := Tryz.f61.body.getD .skip
theorem spec61 (a : Option Addr) (cap : Nat) (R : List Sg) (hF : Fresh S) (hn : R.length ≤ 27) (hR : RunP R) (hM : NoCM R) (hv : Sgs S (.slice a R.length cap) R) : CC Tryz.prog KK 61 [m2, .slice a R.length cap, .int .i64 0] S (fun v S' => Keep S S' ∧ v = tupV [.slice none 0 0, .int .i64 0]) := by
 refine cc_enter (c := cd61) (n := 45) Tryz.func61 rfl rfl rfl (by kernel_rfl) rfl rfl ?_
 have hl := Hold.start S
 refine zg ?_; refine re_boxL hl rfl rfl rfl rfl rfl rfl ?_
 intro B3 S2 hl
 refine zg ?_
 refine zc hl rfl (spec79 a cap R (hl.keep.3 hF) hn hR hM (hv.move (hl.since 0 rfl))) ?_; rintro v S3 hk1 rfl hl
 refine zg ?_; refine rr rfl (rd_bin (v := .int .i64 0) rfl rfl rfl (by kernel_rfl)) ?_; refine zg ?_
 refine xp_loop rfl (fun m Le S' => SubE [(11, .int .i64 0), (10, .slice none 0 0), (7, .int .i64 0)] Le ∧ HoldG S [S] S' [(B3, .cells (cellsL m2) 28 false true [])] []) ?_ (m := 0) ⟨⟨rfl, rfl, rfl, trivial⟩, hl⟩
 clear hl; rintro m Le S' ⟨hsub, hl⟩; refine xe_sub hsub ?_
 refine zg ?_
 exact y2 rfl rfl ⟨hl.keep, rfl⟩
end Go.Proofs.YtblhfojaiipboaaGreatDoor
namespace Go.Proofs.YtblhfojaiipboaaGreatDoor
open Go.Cm Go
set_option maxRecDepth 100000
variable {S : St}
noncomputable def cd81 : Code := Tryz.f81.body.getD .skip
theorem spec81 (a : Option Addr) (n cap : Nat) : CC Tryz.prog KK 81 [.slice a n cap] S (fun v S' => Keep S S' ∧ ∃ bp, v = .func (.func 110) #[] #[ptrTo bp 0] ∧ HoldG S [S] S' [(bp, .cells [.slice a n cap] 43 false true [])] []) := by
 refine cc_enter (c := cd81) (n := 4) Tryz.func81 rfl rfl rfl (by kernel_rfl) rfl rfl ?_
 have hl := Hold.start S
 refine zg ?_; refine re_boxL hl rfl rfl rfl rfl rfl rfl ?_
 intro B1 S1 hl
 refine zg ?_; refine rr rfl (rd_func rfl rfl rfl) ?_; refine zg ?_
 refine y1 rfl ⟨hl.keep, B1, rfl, hl⟩
noncomputable def cd110 : Code := Tryz.f110.body.getD .skip
theorem spec110 (lb bp : Nat) (av : Option Addr) (W : List Value) (hW : W.length ≤ 27) (I : St → Prop) (hb : ∀ T, I T → T.get bp = some (.cells [.slice av W.length W.length] 43 false true []))
  (he : ∀ T j, I T → j < W.length → ∃ a0 b1 o1 cs1, Ints T (.slice a0 1 1) [0] ∧ av = some ⟨b1, o1, none⟩ ∧ RowAt T b1 22 cs1 ∧ takeN 1 (dropN (o1 + j * 1) cs1) = some [.slice a0 1 1])
  (hr : ∀ T (j : Nat) a0, I T → j < W.length → Ints T (.slice a0 1 1) [0] → CT Tryz.prog KK (.fn (.yield lb) #[]) [.int .i64 (j : Int), .slice a0 1 1] T fun r T' => r = .returned (.bool true) ∧ I T') (h0 : I S) :
  CC Tryz.prog KK 110 [.func (.yield lb) #[] #[], ptrTo bp 0] S (fun v S' => v = tupV [] ∧ I S') := by
 refine cc_enter (c := cd110) (n := 19) Tryz.func110 rfl rfl rfl (by kernel_rfl) rfl rfl ?_; refine zg ?_; refine rr rfl (rd_load rfl rfl (l1 (hb _ h0) rfl)) ?_; refine zg ?_; refine xe_sub (L' := [(3, .int .i64 ((W.length : Int) - 1)), (0, .func (.yield lb) #[] #[]), (1, ptrTo bp 0)]) ⟨rfl, rfl, rfl, trivial⟩ ?_
 refine xp_loop rfl (fun m Le S' => ∃ (x : Int), m ≤ W.length ∧ x = (m : Int) - 1 ∧ SubE [(3, .int .i64 x), (0, .func (.yield lb) #[] #[]), (1, ptrTo bp 0)] Le ∧ I S') ?_ (m := W.length) ⟨_, Nat.le_refl _, rfl, ⟨rfl, rfl, rfl, trivial⟩, h0⟩
 rintro m Le S' ⟨x, hm, hx, hsub, h0⟩; refine xe_sub hsub ?_
 refine zg ?_
 constructor <;> intro h8
 ·
  obtain ⟨j, rfl⟩ : ∃ j, m = j + 1 := ⟨m - 1, by have := of_decide_eq_true h8; omega⟩
  obtain rfl : x = (j : Int) := by omega
  obtain ⟨a0, b1, o1, cs1, hi, ha, hrow, htk⟩ := he S' j h0 (by omega)
  refine zg ?_; refine rr rfl (rd_load rfl rfl (l1 (hb _ h0) rfl)) ?_; refine zg ?_; refine re_callT rfl rfl rfl rfl rfl rfl rfl (ct_mono (hr S' j a0 h0 (by omega) hi) ?_)
  rintro r T' ⟨rfl, h0⟩
  show RE Tryz.prog KK 19 _ _ _ T' _
  refine rr rfl (rd_un rfl rfl rfl) ?_; refine zg ?_
  refine ⟨j, by omega, (j : Int) - 1, by omega, rfl, ⟨rfl, rfl, rfl, trivial⟩, h0⟩
 ·
  refine zg ?_
  show Done Tryz.prog Tryz.f110.results.toList (fun v S' => v = tupV [] ∧ I S') .normal _ S'
  exact done_normal rfl ⟨rfl, h0⟩
theorem Zs.elemL {S : St} {av : Option Addr} {W : List Value} {j : Nat} (hj : j < W.length) (hz : Zs S W) (hW : LsOf 22 1 wc S (.slice av W.length W.length) W) : ∃ a0 b1 o1 cs1, Ints S (.slice a0 1 1) [0] ∧ av = some ⟨b1, o1, none⟩ ∧ RowAt S b1 22 cs1 ∧ takeN 1 (dropN (o1 + j * 1) cs1) = some [.slice a0 1 1] := by
 obtain ⟨w, hw⟩ := nth_some hj
 obtain ⟨a0, rfl, hi⟩ := hz w (nth_mem hw)
 obtain ⟨b1, o1, cs1, ha, _, hrow, htk⟩ := hW.elem hw
 exact ⟨a0, b1, o1, cs1, hi, ha, hrow, htk⟩
noncomputable def cd60 : Code := Tryz.f60.body.getD .skip
noncomputable def rp60 : Code := pA (pB (pA (pB (pB (pB (pB (pB (pB cd60))))))))
theorem setN_zero : ∀ (m j : Nat), j < m → setN j [Value.int .i64 0] (replL m [Value.int .i64 0]) = some (replL m [Value.int .i64 0])
 | m + 1, 0, _ => by
  show setN 0 [Value.int .i64 0] (Value.int .i64 0 :: replL m [Value.int .i64 0]) = some (Value.int .i64 0 :: replL m [Value.int .i64 0])
  unfold setN
  cases replL m [Value.int .i64 0] <;> rfl
 | m + 1, j + 1, h => by
  have := setN_zero m j (by omega)
  show setN (j + 1) [Value.int .i64 0] (Value.int .i64 0 :: replL m [Value.int .i64 0]) = _
  unfold setN
  rw [this]
  rfl
def zs (n : Nat) : List Int := List.replicate n 0
theorem zs_len (n : Nat) : (zs n).length = n := List.length_replicate
theorem zs_flat : ∀ n, ((zs n).map ic).flatten = replL n [Value.int .i64 0]
 | 0 => rfl
 | n + 1 => by
  show ic 0 ++ ((zs n).map ic).flatten = [Value.int .i64 0] ++ replL n [Value.int .i64 0]
  rw [zs_flat n]
  rfl
theorem spec60 (a : Option Addr) (cap : Nat) (R : List Sg) (hF : Fresh S) (hn : R.length ≤ 27) (hR : RunP R) (hv : Sgs S (.slice a R.length cap) R) : CC Tryz.prog KK 60 [m2, .slice a R.length cap, .int .i64 0] S (fun v S' => Keep S S' ∧ ∃ ad, v = tupV [.slice ad (dtE R).length (dtE R).length, .int .i64 0] ∧ Ints S' (.slice ad (dtE R).length (dtE R).length) (zs (dtE R).length)) := by
 refine cc_enterM (c := cd60) (n := 59) Tryz.func60 rfl rfl rfl (by kernel_rfl) rfl rfl ?_
 have hl := Hold.start S
 refine xdp_seq rfl (xd_of_xe ?_); refine zg ?_; refine re_boxL hl rfl rfl rfl rfl rfl rfl ?_
 intro B3 S1 hl
 refine re_boxL hl rfl rfl rfl rfl rfl rfl ?_
 intro B5 S2 hl
 refine zg ?_; refine xdp_seq rfl (xd_of_xe ?_); refine zg ?_
 refine zc hl rfl (spec78 a cap R (hl.keep.3 hF) hn hR (hv.move (hl.since 0 rfl))) ?_; rintro v S3 hk1 rfl hl
 refine zg ?_; refine xdp_seq rfl (xd_of_xe ?_); refine zg ?_; refine xdp_seq rfl (xd_of_xe ?_); refine zg ?_; refine xdp_seq rfl (xd_of_xe ?_); refine zg ?_
 refine zc hl rfl (spec80 a cap R (hl.keep.3 hF) hn hR (hv.move (hl.since 0 rfl))) ?_; rintro w S4 hk2 ⟨av, W, rfl, hWl, hz, hg⟩ hl
 have hW27 : W.length ≤ 27 := by have := dtE_len R; omega
 have hS4 := hl.keep.1
 have hW : LsOf 22 1 wc S4 (.slice av W.length W.length) W := Grow.ls (f := wc) (fun _ => rfl) hg
 have hl := hl.mark
 refine zg ?_; refine xdp_seq rfl (xd_of_xe ?_); refine zg ?_; refine re_makeSliceK (Hold.start _) rfl rfl rfl rfl rfl rfl rfl rfl rfl Tryz.underlying22 (z := .int .i64 0) (by kernel_rfl) (by kernel_rfl) (by unfold maxNeed; omega) ?_; intro B39 S5 hb39
 have h39 := hb39.at_ B39 _ (List.mem_cons_self ..)
 have hl := (hl.call hb39.keep).add hl.below hl.keep h39.2.1 h39.2.2 h39.1
 refine zg ?_; refine re_allocL hl rfl rfl rfl rfl rfl (z := [.slice none 0 0]) (by kernel_rfl) ?_
 intro B12 S6 hl
 refine zg ?_; refine re_storeL hl 0 rfl rfl rfl rfl rfl rfl rfl (by kernel_rfl) (c' := [.slice (some ⟨B39, 0, none⟩) W.length W.length]) rfl ?_
 intro S7 hl
 refine zg ?_; refine xdp_seq rfl ?_; refine xdp_seq rfl (xd_of_xe ?_); refine zg ?_
 have hl0 := hl
 refine re_call rfl rfl rfl rfl rfl rfl rfl (cc_mono (spec81 av W.length W.length) ?_); rintro v S8 ⟨hk8, bp, rfl, hb⟩
 have h9 := hb.at_ bp _ (List.mem_cons_self ..)
 have hl := (hl0.call hk8).add hl0.below hl0.keep h9.2.1 h9.2.2 h9.1
 refine zg ?_
 have hl : HoldG S [S4, S] S8 [(bp, Blk.cells [.slice av W.length W.length] 43 false true []), (B12, .cells [.slice (some ⟨B39, 0, none⟩) W.length W.length] 22 false true []), (B39, .cells (replL W.length [.int .i64 0]) 3 true true []), (B5, .cells [.int .i64 0] 3 false true []), (B3, .cells (cellsL m2) 28 false true [])] [] := hl
 refine xdp_block rfl (xd_range rfl rfl rfl (by kernel_rfl) ?_)
 intro t ht
 have ht := ht.sub (L' := [(12, ptrTo B12 0), (5, ptrTo B5 0), (3, ptrTo B3 0), (7, .int .i64 0), (6, .slice none 0 0)]) ⟨rfl, rfl, rfl, rfl, rfl, trivial⟩
 have hl := (hl.new (.defs false)).new (.loop .ready none 59 t (rgP rp60) (rgA rp60) (rgB rp60) S8.size)
 let lr : List (Nat × Blk) := (S8.size + 1, .loop .ready none 59 t (rgP rp60) (rgA rp60) (rgB rp60) S8.size) :: (S8.size, .defs false) :: [(bp, Blk.cells [.slice av W.length W.length] 43 false true []), (B12, .cells [.slice (some ⟨B39, 0, none⟩) W.length W.length] 22 false true []), (B39, .cells (replL W.length [.int .i64 0]) 3 true true []), (B5, .cells [.int .i64 0] 3 false true []), (B3, .cells (cellsL m2) 28 false true [])]
 have hl : HoldG S [S4, S] _ lr [] := hl
 refine ct_mono (ct_func (ce_of_cc (spec110 (S8.size + 1) bp av W hW27 (fun T => HoldG S [S4, S] T lr []) (fun T hT => hT.get 2 rfl) (fun T j hT hj => Zs.elemL hj (hz.move (hT.since 0 rfl)) (hW.move (hT.since 0 rfl))) ?_ hl))) ?_
 ·
  intro T j a0 hl hj hi
  have hl := hl.mark
  refine ct_round (hl.get 0 rfl) ht rfl rfl ?_; refine xp_seq rfl ?_; refine zg ?_
  refine ⟨rfl, _, _, _, _, _, _, _, hl.get 0 rfl, ?_⟩
  have hl := hl.put (k := 0) rfl rfl (.loop .busy none 59 t (rgP rp60) (rgA rp60) (rgB rp60) S8.size)
  obtain ⟨b1, o1, cs1, ha, _, hrow, htk⟩ := (hi.move (hl.since 0 rfl)).elem (k := 0) (x := 0) rfl
  refine zg ?_; refine xe_sub (L' := [(14, .slice a0 1 1), (13, .int .i64 (j : Int)), (12, ptrTo B12 0), (5, ptrTo B5 0), (3, ptrTo B3 0)]) ⟨rfl, rfl, rfl, rfl, rfl, trivial⟩ ?_; refine xp_draw (idx := [0, 1, 2, 3, 4, 5, 6, 7, 8, 9, 10]) rfl (by kernel_rfl) (by kernel_rfl) ?_; refine zg ?_
  rw [show Int.tmod 0 ((1 : Nat) : Int) = ((0 : Nat) : Int) from rfl]
  refine zg ?_
  have ej : 0 + ((j : Int)).toNat * 1 = j := by simp
  rw [ej]
  have hs := store_row (S := T.set (S8.size + 1) (.loop .busy none 59 t (rgP rp60) (rgA rp60) (rgB rp60) S8.size)) (P := Tryz.prog) (t := 3) (v := .int .i64 0) (by kernel_rfl) (hl.get 4 rfl) (setN_zero W.length j hj)
  have hl := hl.marks (Us := [S4, S]) fun U hU => List.mem_cons_of_mem _ hU
  have hl := hl.putR (k := 4) rfl (fun U hU => by simp only [List.mem_cons, List.not_mem_nil, or_false] at hU; rcases hU with rfl | rfl <;> omega) (.cells (replL W.length [.int .i64 0]) 3 true true [])
  refine rp_store rfl rfl rfl rfl rfl rfl hs zt ?_; refine zg ?_; refine re_storeL hl 5 rfl rfl rfl rfl rfl rfl rfl (by kernel_rfl) (c' := [.int .i64 0]) rfl ?_
  intro S12 hl
  refine zg ?_
  exact ⟨_, _, _, _, _, _, _, _, hl.get 0 rfl, rfl, hl.put (k := 0) rfl rfl (.loop .ready none 59 t (rgP rp60) (rgA rp60) (rgB rp60) S8.size)⟩
 rintro r S9 ⟨v, rfl, rfl, hl⟩
 refine ⟨_, _, _, _, _, _, _, _, hl.get 0 rfl, rfl, ?_⟩
 have hl := hl.put (k := 0) rfl rfl (.loop .exhausted none 59 t (rgP rp60) (rgA rp60) (rgB rp60) S8.size)
 refine xdp_seq rfl (xd_of_xe ?_); refine zg ?_; refine xd_of_xe (xp_ret rfl ?_)
 have hd := hl.get 1 rfl
 have hl := hl.put (k := 1) rfl rfl (.defs true)
 exact ⟨_, _, tm_one hd, ress_tmp rfl (ress_tmp rfl rfl), hl.keep, some ⟨B39, 0, none⟩, by rw [hWl], LsOf.row (f := ic) (fun _ => rfl) ⟨(hl.at_ _ _ (nth_mem (k := 4) rfl)).2.2, true, [], by rw [zs_flat, ← hWl]; exact hl.get 4 rfl⟩ (zs_len _).symm⟩
end Go.Proofs.YtblhfojaiipboaaGreatDoor
namespace Go.Proofs.YtblhfojaiipboaaGreatDoor
open Go.Cm Go
set_option maxRecDepth 100000
variable {S : St}
theorem stays_len {P : Program} {n : Nat} {e : CkE} {S' : St} {t : TypeId} {x : Operand} {u : Value} (hop : e.op = .call ⟨.builtin .len, #[x], #[t]⟩) (hx : Cm.evE e.L x = some u) (hv : lenV P t u S' = some e.v) (hs : sameV 100000 e.v e.v = true) (hf : e.fr = none) {X : Prop} : X → StayOne P n S' e := fun _ => by
 unfold StayOne
 rw [hf]
 exact ⟨fun a ha => by rw [hop]; show lenV P t (a.ev x) S' = _; rw [ha.ev hx, hv], hs⟩
def bc (x : Bool) : List Value := [.bool x]
abbrev Bools := LsOf 4 1 bc
theorem OW.ne {a : Option Addr} {e : TypeId} {z m : Nat} {c : List Value} {fr : List (Nat × Blk)} (h : OW (.slice a m m) e z c m fr) (hm : 0 < m) : ∃ b, a = some ⟨b, 0, none⟩ := by
 rcases h with ⟨_, _, h, _⟩ | ⟨b, dd, h, _, _⟩
 ·omega
 ·cases h
  exact ⟨b, rfl⟩
noncomputable def cd84 : Code := Tryz.f84.body.getD .skip
theorem spec84 {S0 : St} {B13 B14 : Nat} {vA vB : Value} {C : List Int} {D : List Bool} {fA fB : List (Nat × Blk)} (r : List (Nat × Blk)) (hl : HoldG S0 [S0] S ([(B13, Blk.cells [vA] 22 false true []), (B14, .cells [vB] 49 false true [])] ++ (r ++ (fA ++ fB))) []) (hA : OW vA 3 1 ((C.map ic).flatten) C.length fA) (hB : OW vB 4 1 ((D.map bc).flatten) D.length fB) (hC : 0 < C.length) (hD : D.length = C.length) (hC2 : C.length ≤ 27) : CC Tryz.prog KK 84 [.int .i64 0, ptrTo B13 0, ptrTo B14 0] S (fun v S' => v = tupV [] ∧ ∃ (C' : List Int) (D' : List Bool) (fA' fB' : List (Nat × Blk)), OW vA 3 1 ((C'.map ic).flatten) C'.length fA' ∧ OW vB 4 1 ((D'.map bc).flatten) D'.length fB' ∧ C'.length = C.length ∧ D'.length = D.length ∧ HoldG S0 [S0] S' ([(B13, Blk.cells [vA] 22 false true []), (B14, .cells [vB] 49 false true [])] ++ (r ++ (fA' ++ fB'))) []) := by
 refine cc_enter (c := cd84) (n := 17) Tryz.func84 rfl rfl rfl (by kernel_rfl) rfl rfl ?_
 obtain ⟨aA, rfl⟩ := hA.is
 obtain ⟨aB, rfl⟩ := hB.is
 obtain ⟨bA, rfl⟩ := hA.ne hC
 obtain ⟨bB, rfl⟩ := hB.ne (by omega)
 refine xp_draw (idx := [0, 1, 2, 3, 4, 5, 6, 7, 8, 9, 10, 11, 12, 13, 14]) rfl (by kernel_rfl) (by kernel_rfl) ?_; refine zg ?_
 have e15 : 0 + ((C.length : Int) - 1).toNat * 1 = C.length - 1 := by omega
 have e16 : 0 + ((D.length : Int) - 1).toNat * 1 = D.length - 1 := by omega
 rw [e15]
 have hlA : HoldG S0 [S0] S (([(B13, Blk.cells [.slice (some ⟨bA, 0, none⟩) C.length C.length] 22 false true []), (B14, .cells [.slice (some ⟨bB, 0, none⟩) D.length D.length] 49 false true [])] ++ r) ++ (fA ++ fB)) [] := hl.perm (.of_eq (List.append_assoc ..).symm)
 obtain ⟨b, S1, fA', e1, hs1, hA', hl1⟩ := store_W (P := Tryz.prog) hlA hA hC rfl (t := 3) (u := .int .i64 0) (by kernel_rfl) (setN_set (g := fun x => Value.int .i64 x) 0 (k := C.length - 1) (by omega)) ((flat_len (f := fun x => [Value.int .i64 x]) (z := 1) (fun _ => rfl) _).trans ((congrArg (· * 1) (set_len ..)).trans (flat_len (f := ic) (z := 1) (fun _ => rfl) _).symm))
 cases e1
 have hl : HoldG S0 [S0] S1 ([(B13, Blk.cells [.slice (some ⟨bA, 0, none⟩) C.length C.length] 22 false true []), (B14, .cells [.slice (some ⟨bB, 0, none⟩) D.length D.length] 49 false true [])] ++ (r ++ (fA' ++ fB))) [] := hl1.perm (.of_eq (List.append_assoc ..))
 refine rp_store rfl rfl rfl rfl rfl rfl hs1 (by repeat (first| exact trivial| refine stays_left ?_| (refine ⟨by first| exact sZ| exact kf tt (sN rfl qG)| exact kl tt (stays_load rfl rfl qL sQ rfl)| exact stays_len rfl rfl rfl sQ rfl, ?_⟩))) ?_; refine zg ?_
 rw [e16]
 have hlB : HoldG S0 [S0] S1 (([(B13, Blk.cells [.slice (some ⟨bA, 0, none⟩) C.length C.length] 22 false true []), (B14, .cells [.slice (some ⟨bB, 0, none⟩) D.length D.length] 49 false true [])] ++ r) ++ (fB ++ fA')) [] := hl1.perm (List.Perm.append_left _ List.perm_append_comm)
 obtain ⟨b, S2, fB', e2, hs2, hB', hl2⟩ := store_W (P := Tryz.prog) hlB hB (by omega) rfl (t := 4) (u := .bool (0 == 0)) (by kernel_rfl) (setN_set (g := fun x => Value.bool x) (0 == 0) (k := D.length - 1) (by omega)) ((flat_len (f := fun x => [Value.bool x]) (z := 1) (fun _ => rfl) _).trans ((congrArg (· * 1) (set_len ..)).trans (flat_len (f := bc) (z := 1) (fun _ => rfl) _).symm))
 cases e2
 have hl : HoldG S0 [S0] S2 ([(B13, Blk.cells [.slice (some ⟨bA, 0, none⟩) C.length C.length] 22 false true []), (B14, .cells [.slice (some ⟨bB, 0, none⟩) D.length D.length] 49 false true [])] ++ (r ++ (fA' ++ fB'))) [] := (hl2.perm (List.Perm.append_left _ List.perm_append_comm)).perm (.of_eq (List.append_assoc ..))
 refine rp_store rfl rfl rfl rfl rfl rfl hs2 (by repeat (first| exact trivial| refine stays_left ?_| (refine ⟨by first| exact sZ| exact kf tt (sN rfl qG)| exact kl tt (stays_load rfl rfl qL sQ rfl)| exact stays_len rfl rfl rfl sQ rfl, ?_⟩))) ?_; refine zg ?_
 show Done Tryz.prog Tryz.f84.results.toList (fun v S' => v = tupV [] ∧ ∃ (C' : List Int) (D' : List Bool) (fA' fB' : List (Nat × Blk)), OW _ 3 1 ((C'.map ic).flatten) C'.length fA' ∧ OW _ 4 1 ((D'.map bc).flatten) D'.length fB' ∧ C'.length = C.length ∧ D'.length = D.length ∧ HoldG S0 [S0] S' ([(B13, Blk.cells [.slice (some ⟨bA, 0, none⟩) C.length C.length] 22 false true []), (B14, .cells [.slice (some ⟨bB, 0, none⟩) D.length D.length] 49 false true [])] ++ (r ++ (fA' ++ fB'))) []) .normal _ S2
 exact done_normal rfl ⟨rfl, _, _, fA', fB', by rw [set_len]; exact hA', by rw [set_len]; exact hB', set_len .., set_len .., hl⟩
end Go.Proofs.YtblhfojaiipboaaGreatDoor
