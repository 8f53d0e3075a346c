/-
  Times, pitches as data. span: ratio, divisor, Check. span.first. span.Make. span.Add, Sub. span.Compare, align.compare. pitch: Check, of, tone.pitch, tone.height. pitch: Number, Height. pitch.Between. interval: lower, between, simple, Simple. interval.Kind. interval: check, bass.
-/
import Derived.Test.YtgiibikieblicaaGreatDoorWt0
import Derived.Test.YtgiibikieblicaaGreatDoorSy1

import Derived.Test.YtgiibikieblicaaGreatDoorSy2




import Derived.IntWalk
import Derived.KernelRfl
namespace Go.Proofs.YtgiibikieblicaaGreatDoor
open Go.Cm Go
set_option maxRecDepth 100000
variable {S : St}
theorem sN {P : Program} {n : Nat} {e : CkE} {S' : St} {b : Nat} {cs : List Value} {t : TypeId} {r : Bool} (hf : e.fr = some (b, cs, t, r)) (hg : S'.get b = some (.cells cs t r true [])) (hl : cs.length < 100000 := by simp) (ha : ∀ v, v ∈ cs → Atom v := by repeat (first | exact atoms_nil | refine atoms_cons (atom_int _ _) ?_ | refine atoms_cons (atom_bool _) ?_ | refine atoms_cons (atom_slice _ _ _) ?_ | refine atoms_cons (atom_string _) ?_)) {X : Prop} : X → StayOne P n S' e := stays_new hf hg (sameL_atoms _ _ hl ha)
theorem sG {l : List Value} (ha : ∀ v, v ∈ l → Atom v := by repeat (first | exact atoms_nil | refine atoms_cons (atom_int _ _) ?_ | refine atoms_cons (atom_bool _) ?_ | refine atoms_cons (atom_slice _ _ _) ?_ | refine atoms_cons (atom_string _) ?_)) (hn : Nat.blt l.length 90000 = true := by rfl) : sameV 100000 (aggL l) (aggL l) = true := same_agg hn ha
theorem sQ {v : Value} (h : Atom v := by first | exact atom_int _ _ | exact atom_bool _ | exact atom_slice _ _ _ | exact atom_string _) : sameV 100000 v v = true := same_atom h
theorem sZ {e : CkE} {m : Nat} (h : m.testBit e.j = true := by dsimp only; decide +kernel) {X : Prop} : m.testBit e.j = false → X := stays_no h
section
variable {P : Program} {S : St}
theorem l1 {t : TypeId} {b o : Nat} {c : List Value} {e : TypeId} {row own : Bool} {kin : List Nat} {v : Value} (hb : S.get b = some (.cells c e row own kin)) (hv : nth c o = some v) (ha : aggOf P t = some false := by kernel_rfl) : loadV P t (.pointer (some ⟨b, o, none⟩)) S = some v := load1_of ha hb hv
theorem lN {t : TypeId} {b o z : Nat} {c l : List Value} {e : TypeId} {row own : Bool} {kin : List Nat} (hb : S.get b = some (.cells c e row own kin)) (hv : takeN z (dropN o c) = some l) (ha : aggOf P t = some true := by kernel_rfl) (hz : szOf P t = some z := by kernel_rfl) : loadV P t (.pointer (some ⟨b, o, none⟩)) S = some (aggL l) := loadN_of ha hz hb hv
theorem l2 {t : TypeId} {b o : Nat} {e : TypeId} {c : List Value} {v : Value} (hb : RowAt S b e c) (hv : nth c o = some v) (ha : aggOf P t = some false := by kernel_rfl) : loadV P t (ptrTo b o) S = some v := load1_row ha hb hv
theorem lR {t : TypeId} {b o z : Nat} {e : TypeId} {c l : List Value} (hb : RowAt S b e c) (hv : takeN z (dropN o c) = some l) (ha : aggOf P t = some true := by kernel_rfl) (hz : szOf P t = some z := by kernel_rfl) : loadV P t (ptrTo b o) S = some (aggL l) := loadN_row ha hz hb hv
end
theorem sB {L L' : Env} (h : SubL L L' := by repeat (first | exact subL_refl _ | refine subL_skip  rfl ?_)) : SubL L L' := h
def callM : FuncId → List Value → St → Option Value := fun f a _ => match a with
 | [] => bif Nat.beq f 5 then some (.bool true) else none
 | _ => none
abbrev KK : Known := kk callM
theorem nth_some {α : Type} : ∀ {l : List α} {i : Nat}, i < l.length → ∃ x, nth l i = some x
 | x :: _, 0, _ => ⟨x, rfl⟩
 | _ :: l, i + 1, h => nth_some (l := l) (i := i) (by simpa using h)
theorem nth_lt {α : Type} : ∀ {l : List α} {i : Nat} {x : α}, nth l i = some x → i < l.length
 | _ :: _, 0, _, _ => by simp
 | _ :: l, i + 1, x, h => by have := nth_lt (l := l) (i := i) (x := x) h; simp only [List.length_cons]; omega
theorem nth_map {α β : Type} (f : α → β) : ∀ {l : List α} {i : Nat} {x : α}, nth l i = some x → nth (l.map f) i = some (f x)
 | _ :: _, 0, _, h => by cases h; rfl
 | _ :: l, i + 1, x, h => nth_map f (l := l) (i := i) (x := x) h
theorem drop_nth' {α : Type} : ∀ {l : List α} {i : Nat} {x : α}, nth l i = some x → l.drop i = x :: l.drop (i + 1)
 | [], _, _, h => by cases h
 | y :: l, 0, x, h => by cases h; rfl
 | y :: l, i + 1, x, h => by simpa using drop_nth' (l := l) (i := i) h
theorem take_nth' {α : Type} : ∀ {l : List α} {i : Nat} {x : α}, nth l i = some x → l.take (i + 1) = l.take i ++ [x]
 | [], _, _, h => by cases h
 | y :: l, 0, x, h => by cases h; rfl
 | y :: l, i + 1, x, h => by simpa using take_nth' (l := l) (i := i) h
theorem BLs : (∀ b : Bool, (b && true) = b) ∧ (∀ b : Bool, (true && b) = b) ∧ (∀ b : Bool, (b && false) = false) ∧ (∀ b : Bool, (false && b) = false) ∧ (∀ b : Bool, (b || true) = true) ∧ (∀ b : Bool, (true || b) = true) ∧ (∀ b : Bool, (b || false) = b) ∧ (∀ b : Bool, (false || b) = b) ∧ (∀ b : Bool, (!!b) = b) ∧ (!true) = false ∧ (!false) = true :=
 ⟨Bool.and_true, Bool.true_and, Bool.and_false, Bool.false_and, Bool.or_true, Bool.true_or, Bool.or_false, Bool.false_or, Bool.not_not, rfl, rfl⟩
structure Ti where
 n : Int
 d : Int
instance : DecidableEq Ti := fun a b => decidable_of_iff (a.n = b.n ∧ a.d = b.d) ⟨fun h => by cases a; cases b; rw [Ti.mk.injEq]; exact h, fun h => by subst h; simp⟩
def Ti.cells (t : Ti) : List Value := [.int .i64 t.n, .int .i64 t.d]
def Ti.v (t : Ti) : Value := aggL t.cells
def t0 : Ti := ⟨0, 0⟩
def gI (a b : Int) : Int := ((Nat.gcd a.toNat b.toNat : Nat) : Int)
theorem gI_zero {a : Int} (h : 0 ≤ a) : gI a 0 = a := by
 unfold gI
 rw [show (0 : Int).toNat = 0 from rfl, Nat.gcd_zero_right]
 omega
theorem gI_step {a b : Int} (ha : 0 ≤ a) (hb : 0 < b) : gI b (a.tmod b) = gI a b := by
 unfold gI
 rw [Int.tmod_eq_emod_of_nonneg ha, Int.toNat_emod ha (by omega), Nat.gcd_comm a.toNat, Nat.gcd_rec b.toNat a.toNat, Nat.gcd_comm]
theorem gI_pos {a b : Int} (h : 0 < b) : 0 < gI a b := by
 unfold gI
 have : 0 < Nat.gcd a.toNat b.toNat := Nat.gcd_pos_of_pos_right _ (by omega)
 omega
def tB (t : Ti) : Bool := ((decide (t.n < 0) || decide (t.n > 1099511627776)) || decide (t.d < 1)) || decide (t.d > 1048576)
def tE (t : Ti) : Int := bif tB t then 2 else bif decide (gI t.n t.d > 1) then 3 else 0
theorem tB_ok {t : Ti} (h : tB t = false) : 0 ≤ t.n ∧ t.n ≤ 1099511627776 ∧ 1 ≤ t.d ∧ t.d ≤ 1048576 := by
 unfold tB at h
 simp at h
 omega
theorem tE_ok {t : Ti} (h : tE t = 0) : 0 ≤ t.n ∧ t.n ≤ 1099511627776 ∧ 1 ≤ t.d ∧ t.d ≤ 1048576 := by
 cases hb : tB t with
 | true => unfold tE at h; rw [hb] at h; cases h
 | false => exact tB_ok hb
def firstE : List Ti → Int
 | [] => 0
 | t :: r => bif tE t != 0 then tE t else firstE r
theorem first2 {a b : Ti} (h : (firstE [a, b] != 0) = false) : tE a = 0 ∧ tE b = 0 := by
 have h : firstE [a, b] = 0 := by simpa using h
 unfold firstE at h
 cases h1 : (tE a != 0) with
 | true =>
  rw [h1] at h
  have h' : tE a = 0 := h
  rw [h'] at h1; cases h1
 | false =>
  rw [h1] at h
  refine ⟨by simpa using h1, ?_⟩
  unfold firstE at h
  cases h2 : (tE b != 0) with
  | true =>
   rw [h2] at h
   have h' : tE b = 0 := h
   rw [h'] at h2; cases h2
  | false => simpa using h2
theorem mul_bd {x y A B : Int} (hx : 0 ≤ x) (hx2 : x ≤ A) (hy : 0 ≤ y) (hy2 : y ≤ B) : 0 ≤ x * y ∧ x * y ≤ A * B :=
 ⟨Int.mul_nonneg hx hy, Int.mul_le_mul hx2 hy2 hy (by omega)⟩
def mkE (n d : Int) : Ti × Int :=
 bif decide (n < 0) || decide (d < 0) then (t0, 2) else bif d == 0 then (t0, 5)
 else bif decide (n.tdiv (gI n d) > 1099511627776) || decide (d.tdiv (gI n d) > 1048576) then (t0, 4) else (⟨n.tdiv (gI n d), d.tdiv (gI n d)⟩, 0)
def addE (a b : Ti) : Ti × Int := bif firstE [a, b] != 0 then (t0, firstE [a, b]) else mkE (a.n * b.d + b.n * a.d) (a.d * b.d)
def subE (a b : Ti) : Ti × Int := bif firstE [a, b] != 0 then (t0, firstE [a, b]) else mkE (a.n * b.d - b.n * a.d) (a.d * b.d)
def sgn (x : Int) : Int := bif decide (x < 0) then -1 else bif decide (x > 0) then 1 else 0
def cmpE (a b : Ti) : Int × Int := bif firstE [a, b] != 0 then (0, firstE [a, b]) else (sgn (a.n * b.d - b.n * a.d), 0)
structure Pt where
 s : Int
 o : Int
 a : Int
instance : DecidableEq Pt := fun a b => decidable_of_iff (a.s = b.s ∧ a.o = b.o ∧ a.a = b.a) ⟨fun h => by cases a; cases b; rw [Pt.mk.injEq]; exact h, fun h => by subst h; simp⟩
def Pt.cells (p : Pt) : List Value := [.int .i64 p.s, .int .i64 p.o, .int .i64 p.a]
def Pt.v (p : Pt) : Value := aggL p.cells
def p0 : Pt := ⟨0, 0, 0⟩
def pB (p : Pt) : Bool := ((((decide (p.s < 0) || decide (p.s > 6)) || decide (p.o < 0)) || decide (p.o > 8)) || decide (p.a < -1)) || decide (p.a > 1)
def pE (p : Pt) : Int := bif pB p then 2 else 0
theorem pB_ok {p : Pt} (h : pB p = false) : 0 ≤ p.s ∧ p.s ≤ 6 ∧ 0 ≤ p.o ∧ p.o ≤ 8 ∧ -1 ≤ p.a ∧ p.a ≤ 1 := by
 unfold pB at h
 simp at h
 omega
def numI (p : Pt) : Int := 7 * p.o + p.s
def halfI (k : Int) : Int := bif k == 0 then 0 else bif k == 1 then 2 else bif k == 2 then 4 else bif k == 3 then 5 else bif k == 4 then 7 else bif k == 5 then 9 else 11
def hgtI (k a : Int) : Int := 12 * (k.tdiv 7) + halfI (k.tmod 7) + a
def numE (p : Pt) : Int × Int := bif pB p then (0, 2) else (numI p, 0)
def hgtE (p : Pt) : Int × Int := bif pB p then (0, 2) else (hgtI (numI p) p.a, 0)
section
variable {P : Program} {t : TypeId} {xo yo : Operand} {a b : Int}
theorem quo_bd (hb : 0 < b) (h0 : 0 ≤ a) : 0 ≤ a.tdiv b ∧ a.tdiv b ≤ a :=
 ⟨Int.tdiv_nonneg h0 (by omega), Int.tdiv_le_self b h0⟩
theorem rem_bd (hb : 0 < b) (h0 : 0 ≤ a) : 0 ≤ a.tmod b ∧ a.tmod b < b :=
 ⟨Int.tmod_nonneg b h0, Int.tmod_lt_of_pos a hb⟩
theorem quoV (hb : 0 < b) (h0 : 0 ≤ a) (h1 : a ≤ 9223372036854775807) : binV P .quo t xo yo (.int .i64 a) (.int .i64 b) = some (.int .i64 (a.tdiv b)) := by
 have h := quo_bd hb h0
 show (if b = 0 then none else some (Value.int .i64 (IntKind.i64.wrap (a.tdiv b)))) = _
 rw [if_neg (by omega), IntWalk.i64_in _ (by omega)]
theorem remV (hb : 0 < b) : binV P .rem t xo yo (.int .i64 a) (.int .i64 b) = some (.int .i64 (a.tmod b)) := by
 show (if b = 0 then none else some (Value.int .i64 (a.tmod b))) = _
 rw [if_neg (by omega)]
end
theorem tE_1 {t : Ti} (h : tB t = true) : tE t = 2 := by unfold tE; rw [h]; rfl
theorem tE_2 {t : Ti} (h : tB t = false) (h2 : decide (gI t.n t.d > 1) = true) : tE t = 3 := by unfold tE; rw [h, h2]; rfl
theorem tE_3 {t : Ti} (h : tB t = false) (h2 : decide (gI t.n t.d > 1) = false) : tE t = 0 := by unfold tE; rw [h, h2]; rfl
theorem first_go {t : Ti} {r : List Ti} (h : (tE t != 0) = false) : firstE (t :: r) = firstE r := by show (bif tE t != 0 then tE t else firstE r) = _; rw [h]; rfl
theorem first_bad {t : Ti} {r : List Ti} (h : (tE t != 0) = true) : firstE (t :: r) = tE t := by show (bif tE t != 0 then tE t else firstE r) = _; rw [h]; rfl
theorem mkE_1 {n d : Int} (h : (decide (n < 0) || decide (d < 0)) = true) : mkE n d = (t0, 2) := by unfold mkE; rw [h]; rfl
theorem mkE_2 {n d : Int} (h : (decide (n < 0) || decide (d < 0)) = false) (h2 : (d == 0) = true) : mkE n d = (t0, 5) := by unfold mkE; rw [h, h2]; rfl
theorem mkE_3 {n d : Int} (h : (decide (n < 0) || decide (d < 0)) = false) (h2 : (d == 0) = false) (h3 : (decide (n.tdiv (gI n d) > 1099511627776) || decide (d.tdiv (gI n d) > 1048576)) = true) : mkE n d = (t0, 4) := by unfold mkE; rw [h, h2, h3]; rfl
theorem mkE_4 {n d : Int} (h : (decide (n < 0) || decide (d < 0)) = false) (h2 : (d == 0) = false) (h3 : (decide (n.tdiv (gI n d) > 1099511627776) || decide (d.tdiv (gI n d) > 1048576)) = false) : mkE n d = (⟨n.tdiv (gI n d), d.tdiv (gI n d)⟩, 0) := by unfold mkE; rw [h, h2, h3]; rfl
def r2 (x : Ti × Int) : Value := tupV [x.1.v, .int .i64 x.2]
theorem gI_z {a b : Int} (h : (b == 0) = true) (ha : 0 ≤ a) : a = gI a b := by
 have e : b = 0 := by simpa using h
 rw [e, gI_zero ha]
theorem firstBd {a b : Ti} (h : (firstE [a, b] != 0) = false) : (0 ≤ a.n * b.d ∧ a.n * b.d ≤ 1152921504606846976) ∧ (0 ≤ b.n * a.d ∧ b.n * a.d ≤ 1152921504606846976) ∧ 0 ≤ a.d * b.d ∧ a.d * b.d ≤ 1099511627776 := by
 have h2 := first2 h
 have ha := tE_ok h2.1
 have hb := tE_ok h2.2
 exact ⟨mul_bd ha.1 ha.2.1 (by omega) hb.2.2.2, mul_bd hb.1 hb.2.1 (by omega) ha.2.2.2, mul_bd (by omega) ha.2.2.2 (by omega) hb.2.2.2⟩
theorem addE_1 {a b : Ti} (h : (firstE [a, b] != 0) = true) : addE a b = (t0, firstE [a, b]) := by unfold addE; rw [h]; rfl
theorem addE_2 {a b : Ti} (h : (firstE [a, b] != 0) = false) : addE a b = mkE (a.n * b.d + b.n * a.d) (a.d * b.d) := by unfold addE; rw [h]; rfl
theorem subE_1 {a b : Ti} (h : (firstE [a, b] != 0) = true) : subE a b = (t0, firstE [a, b]) := by unfold subE; rw [h]; rfl
theorem subE_2 {a b : Ti} (h : (firstE [a, b] != 0) = false) : subE a b = mkE (a.n * b.d - b.n * a.d) (a.d * b.d) := by unfold subE; rw [h]; rfl
theorem cmpE_1 {a b : Ti} (h : (firstE [a, b] != 0) = true) : cmpE a b = (0, firstE [a, b]) := by unfold cmpE; rw [h]; rfl
theorem cmpE_2 {a b : Ti} (h : (firstE [a, b] != 0) = false) : cmpE a b = (sgn (a.n * b.d - b.n * a.d), 0) := by unfold cmpE; rw [h]; rfl
theorem sgn_1 {x : Int} (h : decide (x < 0) = true) : sgn x = -1 := by unfold sgn; rw [h]; rfl
theorem sgn_2 {x : Int} (h : decide (x < 0) = false) (h2 : decide (x > 0) = true) : sgn x = 1 := by unfold sgn; rw [h, h2]; rfl
theorem sgn_3 {x : Int} (h : decide (x < 0) = false) (h2 : decide (x > 0) = false) : sgn x = 0 := by unfold sgn; rw [h, h2]; rfl
def kindsL : List Value := [.int .i64 1, .int .i64 0, .int .i64 0, .int .i64 0, .int .i64 0, .int .i64 0, .int .i64 0, .int .i64 0, .int .i64 0, .int .i64 0, .int .i64 0, .int .i64 0, .int .i64 0, .int .i64 0, .int .i64 0, .int .i64 0, .int .i64 0, .int .i64 0, .int .i64 0, .int .i64 0, .int .i64 0, .int .i64 0, .int .i64 0, .int .i64 0, .int .i64 0, .int .i64 0, .int .i64 0, .int .i64 0, .int .i64 0, .int .i64 2, .int .i64 2, .int .i64 0, .int .i64 0, .int .i64 0, .int .i64 0, .int .i64 0, .int .i64 0, .int .i64 0, .int .i64 0, .int .i64 0, .int .i64 0, .int .i64 0, .int .i64 0, .int .i64 0, .int .i64 3, .int .i64 4, .int .i64 0, .int .i64 0, .int .i64 0, .int .i64 0, .int .i64 0, .int .i64 0, .int .i64 0, .int .i64 0, .int .i64 0, .int .i64 0, .int .i64 0, .int .i64 0, .int .i64 4, .int .i64 1, .int .i64 0, .int .i64 0, .int .i64 0, .int .i64 0, .int .i64 0, .int .i64 0, .int .i64 0, .int .i64 0, .int .i64 0, .int .i64 0, .int .i64 0, .int .i64 0, .int .i64 0, .int .i64 2, .int .i64 2, .int .i64 0, .int .i64 0, .int .i64 0, .int .i64 0, .int .i64 0, .int .i64 0, .int .i64 0, .int .i64 0, .int .i64 0, .int .i64 0, .int .i64 0, .int .i64 0, .int .i64 0, .int .i64 0, .int .i64 0, .int .i64 0]
def halvesL : List Value := [.int .i64 0, .int .i64 2, .int .i64 4, .int .i64 5, .int .i64 7, .int .i64 9, .int .i64 11]
def Gl (S : St) : Prop := 1 < S.size ∧ S.get 0 = some (.cells kindsL 0 false false []) ∧ S.get 1 = some (.cells halvesL 0 false false [])
theorem Gl.keep {S T : St} (h : Gl S) (k : Keep S T) : Gl T := ⟨Nat.lt_of_lt_of_le h.1 k.1, (k.2 0 (by have := h.1; omega)).trans h.2.1, (k.2 1 h.1).trans h.2.2⟩
theorem halves_at {k : Int} (h0 : 0 ≤ k) (h1 : k < 7) : nth halvesL (0 + k.toNat * 1) = some (.int .i64 (halfI k)) := by
 obtain rfl | rfl | rfl | rfl | rfl | rfl | rfl : k = 0 ∨ k = 1 ∨ k = 2 ∨ k = 3 ∨ k = 4 ∨ k = 5 ∨ k = 6 := by omega
 all_goals rfl
theorem half_bd {k : Int} (h0 : 0 ≤ k) (h1 : k < 7) : 0 ≤ halfI k ∧ halfI k ≤ 11 := by
 obtain rfl | rfl | rfl | rfl | rfl | rfl | rfl : k = 0 ∨ k = 1 ∨ k = 2 ∨ k = 3 ∨ k = 4 ∨ k = 5 ∨ k = 6 := by omega
 all_goals decide
theorem hgt_bd {k a : Int} (h0 : 0 ≤ k) (h1 : k ≤ 62) (h2 : -1 ≤ a) (h3 : a ≤ 1) : -1 ≤ hgtI k a ∧ hgtI k a ≤ 2000 := by
 have h4 := quo_bd (a := k) (b := 7) (by omega) h0
 have h5 := rem_bd (a := k) (b := 7) (by omega) h0
 have h6 := half_bd h5.1 h5.2
 unfold hgtI
 omega
theorem pE_1 {p : Pt} (h : pB p = true) : pE p = 2 := by unfold pE; rw [h]; rfl
theorem pE_2 {p : Pt} (h : pB p = false) : pE p = 0 := by unfold pE; rw [h]; rfl
theorem pE_no {p : Pt} (h : (pE p != 0) = false) : pB p = false := by
 cases hb : pB p with
 | false => rfl
 | true => rw [pE_1 hb] at h; cases h
theorem pE_yes {p : Pt} (h : (pE p != 0) = true) : pB p = true := by
 cases hb : pB p with
 | true => rfl
 | false => rw [pE_2 hb] at h; cases h
theorem num_bd {p : Pt} (h : pB p = false) : 0 ≤ numI p ∧ numI p ≤ 62 := by
 have := pB_ok h
 unfold numI
 omega
def fstP : List Pt → Int
 | [] => 0
 | p :: r => bif pE p != 0 then pE p else fstP r
theorem fstP_go {p : Pt} {r : List Pt} (h : (pE p != 0) = false) : fstP (p :: r) = fstP r := by show (bif pE p != 0 then pE p else fstP r) = _; rw [h]; rfl
theorem fstP_bad {p : Pt} {r : List Pt} (h : (pE p != 0) = true) : fstP (p :: r) = pE p := by show (bif pE p != 0 then pE p else fstP r) = _; rw [h]; rfl
theorem fstP2 {p q : Pt} (h : fstP [p, q] = 0) : pB p = false ∧ pB q = false := by
 cases h1 : (pE p != 0) with
 | true => rw [fstP_bad h1] at h; rw [h] at h1; cases h1
 | false =>
  rw [fstP_go h1] at h
  refine ⟨pE_no h1, ?_⟩
  cases h2 : (pE q != 0) with
  | true => rw [fstP_bad h2] at h; rw [h] at h2; cases h2
  | false => exact pE_no h2
theorem fstP_ne {p q : Pt} {x : Pt} (hx : fstP [p, q] = pE x) (h : (pE x != 0) = true) : (fstP [p, q] != 0) = true := by rw [hx]; exact h
structure Iv where
 st : Int
 hf : Int
def Iv.cells (i : Iv) : List Value := [.int .i64 i.st, .int .i64 i.hf]
def Iv.v (i : Iv) : Value := aggL i.cells
def i0 : Iv := ⟨0, 0⟩
def ivP (p q : Pt) : Iv := ⟨numI q - numI p, hgtI (numI q) q.a - hgtI (numI p) p.a⟩
def btwE (p q : Pt) : Iv × Int := bif fstP [p, q] != 0 then (i0, fstP [p, q]) else (ivP p q, 0)
def ri (x : Iv × Int) : Value := tupV [x.1.v, .int .i64 x.2]
theorem btw_1 {p q : Pt} (h : (fstP [p, q] != 0) = true) : btwE p q = (i0, fstP [p, q]) := by unfold btwE; rw [h]; rfl
theorem btw_2 {p q : Pt} (h : fstP [p, q] = 0) : btwE p q = (ivP p q, 0) := by unfold btwE; rw [h]; rfl
def lowB (p q : Pt) : Bool := decide ((numE q).1 < (numE p).1) || (((numE q).1 == (numE p).1) && decide ((hgtE q).1 < (hgtE p).1))
def lowE (p q : Pt) : Pt × Pt := bif lowB p q then (q, p) else (p, q)
theorem low_1 {p q : Pt} (h : lowB p q = true) : lowE p q = (q, p) := by unfold lowE; rw [h]; rfl
theorem low_2 {p q : Pt} (h : lowB p q = false) : lowE p q = (p, q) := by unfold lowE; rw [h]; rfl
def bwE (p q : Pt) : Iv × Int := bif pE p != 0 then (i0, pE p) else bif pE q != 0 then (i0, pE q) else btwE (lowE p q).1 (lowE p q).2
theorem bw_1 {p q : Pt} (h : (pE p != 0) = true) : bwE p q = (i0, pE p) := by unfold bwE; rw [h]; rfl
theorem bw_2 {p q : Pt} (h : (pE p != 0) = false) (h2 : (pE q != 0) = true) : bwE p q = (i0, pE q) := by unfold bwE; rw [h, h2]; rfl
theorem bw_3 {p q : Pt} (h : (pE p != 0) = false) (h2 : (pE q != 0) = false) : bwE p q = btwE (lowE p q).1 (lowE p q).2 := by unfold bwE; rw [h, h2]; rfl
theorem fstP_ok {p q : Pt} (h : pB p = false) (h2 : pB q = false) : fstP [p, q] = 0 := by
 rw [fstP_go (by rw [pE_2 h]; rfl), fstP_go (by rw [pE_2 h2]; rfl)]; rfl
theorem bw_ok {p q : Pt} (h : ((bwE p q).2 != 0) = false) : pB p = false ∧ pB q = false ∧ bwE p q = (ivP (lowE p q).1 (lowE p q).2, 0) := by
 cases h1 : (pE p != 0) with
 | true => rw [bw_1 h1] at h; rw [h1] at h; cases h
 | false =>
  cases h2 : (pE q != 0) with
  | true => rw [bw_2 h1 h2] at h; rw [h2] at h; cases h
  | false =>
   have hp := pE_no h1
   have hq := pE_no h2
   refine ⟨hp, hq, ?_⟩
   rw [bw_3 h1 h2]
   cases h3 : lowB p q with
   | true => rw [low_1 h3]; exact btw_2 (fstP_ok hq hp)
   | false => rw [low_2 h3]; exact btw_2 (fstP_ok hp hq)
theorem numE_ok {p : Pt} (h : pB p = false) : numE p = (numI p, 0) := by unfold numE; rw [h]; rfl
theorem hgtE_ok {p : Pt} (h : pB p = false) : hgtE p = (hgtI (numI p) p.a, 0) := by unfold hgtE; rw [h]; rfl
theorem ivP_bd {p q : Pt} (hp : pB p = false) (hq : pB q = false) : 0 ≤ (ivP (lowE p q).1 (lowE p q).2).st ∧ (ivP (lowE p q).1 (lowE p q).2).st ≤ 62 ∧ -5000 ≤ (ivP (lowE p q).1 (lowE p q).2).hf ∧ (ivP (lowE p q).1 (lowE p q).2).hf ≤ 5000 := by
 have a1 := num_bd hp
 have a2 := num_bd hq
 have b1 := pB_ok hp
 have b2 := pB_ok hq
 have c1 := hgt_bd a1.1 a1.2 b1.2.2.2.2.1 b1.2.2.2.2.2
 have c2 := hgt_bd a2.1 a2.2 b2.2.2.2.2.1 b2.2.2.2.2.2
 cases h3 : lowB p q with
 | true =>
  rw [low_1 h3]
  unfold lowB at h3
  rw [numE_ok hp, numE_ok hq] at h3
  simp at h3
  show 0 ≤ numI p - numI q ∧ numI p - numI q ≤ 62 ∧ -5000 ≤ hgtI (numI p) p.a - hgtI (numI q) q.a ∧ hgtI (numI p) p.a - hgtI (numI q) q.a ≤ 5000
  omega
 | false =>
  rw [low_2 h3]
  unfold lowB at h3
  rw [numE_ok hp, numE_ok hq] at h3
  simp at h3
  show 0 ≤ numI q - numI p ∧ numI q - numI p ≤ 62 ∧ -5000 ≤ hgtI (numI q) q.a - hgtI (numI p) p.a ∧ hgtI (numI q) q.a - hgtI (numI p) p.a ≤ 5000
  omega
def spI (i : Iv) : Iv := ⟨i.st.tmod 7, i.hf - 12 * (i.st.tdiv 7)⟩
def spE (p q : Pt) : Iv × Int := bif (bwE p q).2 != 0 then (i0, (bwE p q).2) else (spI (bwE p q).1, 0)
theorem sp_1 {p q : Pt} (h : ((bwE p q).2 != 0) = true) : spE p q = (i0, (bwE p q).2) := by unfold spE; rw [h]; rfl
theorem sp_2 {p q : Pt} (h : ((bwE p q).2 != 0) = false) : spE p q = (spI (bwE p q).1, 0) := by unfold spE; rw [h]; rfl
theorem bw_bd {p q : Pt} (h : ((bwE p q).2 != 0) = false) : 0 ≤ (bwE p q).1.st ∧ (bwE p q).1.st ≤ 62 ∧ -5000 ≤ (bwE p q).1.hf ∧ (bwE p q).1.hf ≤ 5000 := by
 obtain ⟨hp, hq, e⟩ := bw_ok h
 rw [e]
 exact ivP_bd hp hq
theorem sp_no {p q : Pt} (h : ((spE p q).2 != 0) = false) : ((bwE p q).2 != 0) = false := by
 cases h1 : ((bwE p q).2 != 0) with
 | false => rfl
 | true => rw [sp_1 h1] at h; rw [h1] at h; cases h
theorem spI_bd {i : Iv} (h0 : 0 ≤ i.st) : 0 ≤ (spI i).st ∧ (spI i).st < 7 := rem_bd (by omega) h0
theorem sp_bd {p q : Pt} (h : ((spE p q).2 != 0) = false) : 0 ≤ (spE p q).1.st ∧ (spE p q).1.st < 7 := by
 have h1 := sp_no h
 rw [sp_2 h1]
 exact spI_bd (bw_bd h1).1
def kindsN : List Int := [1, 0, 0, 0, 0, 0, 0, 0, 0, 0, 0, 0, 0, 0, 0, 0, 0, 0, 0, 0, 0, 0, 0, 0, 0, 0, 0, 0, 0, 2, 2, 0, 0, 0, 0, 0, 0, 0, 0, 0, 0, 0, 0, 0, 3, 4, 0, 0, 0, 0, 0, 0, 0, 0, 0, 0, 0, 0, 4, 1, 0, 0, 0, 0, 0, 0, 0, 0, 0, 0, 0, 0, 0, 2, 2, 0, 0, 0, 0, 0, 0, 0, 0, 0, 0, 0, 0, 0, 0, 0, 0]
def kI (s h : Int) : Int := (nth kindsN (s.toNat * 13 + h.toNat)).getD 0
theorem kinds_eq : kindsL = kindsN.map (Value.int .i64) := rfl
theorem kinds_at {s h : Int} (h0 : 0 ≤ s) (h1 : s < 7) (h2 : 0 ≤ h) (h3 : h < 13) : nth kindsL (0 + s.toNat * 13 + h.toNat * 1) = some (.int .i64 (kI s h)) := by
 obtain ⟨x, hx⟩ : ∃ x, nth kindsN (s.toNat * 13 + h.toNat) = some x := nth_some (by show _ < 91; omega)
 have e : kI s h = x := by unfold kI; rw [hx]; rfl
 rw [e, kinds_eq, show 0 + s.toNat * 13 + h.toNat * 1 = s.toNat * 13 + h.toNat by omega]
 exact nth_map _ hx
def kdB (i : Iv) : Bool := (decide (i.hf ≥ 0) && decide (i.hf < 13)) && (kI i.st i.hf != 0)
def kdE (p q : Pt) : Int × Int := bif (spE p q).2 != 0 then (0, (spE p q).2) else bif kdB (spE p q).1 then (kI (spE p q).1.st (spE p q).1.hf, 0) else (5, 0)
theorem kd_1 {p q : Pt} (h : ((spE p q).2 != 0) = true) : kdE p q = (0, (spE p q).2) := by unfold kdE; rw [h]; rfl
theorem kd_2 {p q : Pt} (h : ((spE p q).2 != 0) = false) (h2 : kdB (spE p q).1 = true) : kdE p q = (kI (spE p q).1.st (spE p q).1.hf, 0) := by unfold kdE; rw [h, h2]; rfl
theorem kd_3 {p q : Pt} (h : ((spE p q).2 != 0) = false) (h2 : kdB (spE p q).1 = false) : kdE p q = (5, 0) := by unfold kdE; rw [h, h2]; rfl
theorem kdB_ok {i : Iv} (h : kdB i = true) : 0 ≤ i.hf ∧ i.hf < 13 := by
 unfold kdB at h
 simp at h
 omega
def chkE (C : List Pt) : Int := bif decide ((C.length : Int) > 8) then 11 else fstP C
theorem chk_1 {C : List Pt} (h : decide ((C.length : Int) > 8) = true) : chkE C = 11 := by unfold chkE; rw [h]; rfl
theorem chk_2 {C : List Pt} (h : decide ((C.length : Int) > 8) = false) : chkE C = fstP C := by unfold chkE; rw [h]; rfl
def bsB (x y : Pt) : Bool := decide ((hgtE x).1 < (hgtE y).1) || (((hgtE x).1 == (hgtE y).1) && decide ((numE x).1 < (numE y).1))
def bsG (C : List Pt) : List Pt → Nat → Nat → Nat
 | [], _, b => b
 | x :: r, i, b => bsG C r (i + 1) (bif bsB x ((nth C b).getD p0) then i else b)
def bsE (C : List Pt) : Nat := bsG C C 0 0
theorem bsG_yes {C : List Pt} {i b : Nat} {x y : Pt} (hx : nth C i = some x) (hy : nth C b = some y) (h : bsB x y = true) : bsG C (C.drop i) i b = bsG C (C.drop (i + 1)) (i + 1) i := by
 rw [drop_nth' hx]
 show bsG C _ (i + 1) (bif bsB x ((nth C b).getD p0) then i else b) = _
 rw [hy, Option.getD_some, h]; rfl
theorem bsG_no {C : List Pt} {i b : Nat} {x y : Pt} (hx : nth C i = some x) (hy : nth C b = some y) (h : bsB x y = false) : bsG C (C.drop i) i b = bsG C (C.drop (i + 1)) (i + 1) b := by
 rw [drop_nth' hx]
 show bsG C _ (i + 1) (bif bsB x ((nth C b).getD p0) then i else b) = _
 rw [hy, Option.getD_some, h]; rfl
theorem tk_nth {z o j : Nat} {c l : List Value} {v : Value} (h : takeN z (dropN o c) = some l) (hj : nth l j = some v) : nth c (o + j) = some v := by
 obtain ⟨_, _, e⟩ := takeN_spec _ _ _ h
 subst e
 have := nth_take hj
 rw [dropN_eq] at this
 rw [nth_eq] at this ⊢
 rw [List.getElem?_drop] at this
 exact this
section
variable {α : Type} {e : TypeId} {z : Nat} {f : α → List Value} {S S' : St} {v : Value} {C : List α} {a : Option Addr} {n cap : Nat}
def LsOf (e : TypeId) (z : Nat) (f : α → List Value) (S : St) (v : Value) (C : List α) : Prop := SliceAt S e z v (C.map f)
theorem LsOf.move (h : RK S S') (hs : LsOf e z f S v C) : LsOf e z f S' v C := SliceAt.move h hs
theorem LsOf.is (h : LsOf e z f S v C) : ∃ a cap, v = .slice a C.length cap := by
 obtain ⟨a, cap, e⟩ := SliceAt.is h
 exact ⟨a, cap, by simpa using e⟩
theorem LsOf.len (h : LsOf e z f S (.slice a n cap) C) : n = C.length := by
 obtain ⟨a, cap, e⟩ := LsOf.is h
 injection e
theorem LsOf.elem (h : LsOf e z f S (.slice a n cap) C) {k : Nat} {x : α} (hk : nth C k = some x) :
  ∃ b o cs, a = some ⟨b, o, none⟩ ∧ n = C.length ∧ RowAt S b e cs ∧ takeN z (dropN (o + k * z) cs) = some (f x) := by
 obtain ⟨b, o, cs, h1, h2, h3, h4⟩ := SliceAt.elem h (nth_map f hk)
 exact ⟨b, o, cs, h1, by simpa using h2, h3, h4⟩
theorem LsOf.nil : LsOf e z f S (.slice none 0 0) [] := .inl ⟨rfl, .inl rfl⟩
theorem nth_unmap {f : α → List Value} : ∀ {C : List α} {k : Nat} {y : List Value}, nth (C.map f) k = some y → ∃ x, nth C k = some x ∧ y = f x
 | [], _, _, h => by cases h
 | x :: _, 0, y, h => by cases h; exact ⟨x, rfl, rfl⟩
 | _ :: C, k + 1, y, h => nth_unmap (C := C) (k := k) h
theorem dropN_add {β : Type} : ∀ (n m : Nat) (l : List β), dropN (n + m) l = dropN m (dropN n l) := fun n m l => by
 rw [dropN_eq, dropN_eq, dropN_eq, List.drop_drop]
theorem flat_take (hz : ∀ x, (f x).length = z) : ∀ {C : List α} {k : Nat} {x : α}, nth C k = some x → takeN z (dropN (0 + k * z) ((C.map f).flatten)) = some (f x)
 | [], _, _, h => by cases h
 | y :: C, 0, x, h => by
  cases h
  rw [show 0 + 0 * z = 0 by omega]
  show takeN z (f y ++ _) = _
  rw [← hz y, takeN_some _ _ (by simp), List.take_left]
 | y :: C, k + 1, x, h => by
  rw [show 0 + (k + 1) * z = z + (0 + k * z) by rw [Nat.add_mul]; omega, dropN_add]
  rw [show dropN z ((List.map f (y :: C)).flatten) = (C.map f).flatten by
   rw [dropN_eq]
   show (f y ++ _).drop z = _
   rw [← hz y, List.drop_left]]
  exact flat_take hz (C := C) (k := k) h
theorem flat_len (hz : ∀ x, (f x).length = z) : ∀ C : List α, ((C.map f).flatten).length = C.length * z
 | [] => by simp
 | x :: C => by
  show (f x ++ _).length = _
  rw [List.length_append, hz x, flat_len hz C, List.length_cons, Nat.add_mul]
  omega
theorem LsOf.row {B : Nat} (hz : ∀ x, (f x).length = z) (h : RowAt S B e ((C.map f).flatten)) (hn : n = C.length) : LsOf e z f S (.slice (some ⟨B, 0, none⟩) n n) C := by
 subst hn
 refine .inr ⟨B, 0, C.length, _, by simp, by simp, h, fun k y hk => ?_⟩
 obtain ⟨x, hx, rfl⟩ := nth_unmap hk
 exact flat_take hz hx
def gOf (e : TypeId) (z : Nat) (f : α → List Value) (v : Value) (C : List α) : Gr := ⟨v, e, z, (C.map f).flatten, C.length⟩
theorem Grow.ls {S0 : St} (hz : ∀ x, (f x).length = z) (h : Grow S0 S (gOf e z f v C)) : LsOf e z f S v C := by
 rcases Grow.row h with ⟨h1, h2, h3⟩ | ⟨b, h1, h2⟩
 ·have h3 : C.length = 0 := h3
  have h1 : v = .slice none 0 0 := h1
  have : C = [] := List.length_eq_zero_iff.1 h3
  subst this; subst h1
  exact LsOf.nil
 ·have h1 : v = .slice (some ⟨b, 0, none⟩) C.length C.length := h1
  subst h1
  exact LsOf.row hz h2 rfl
theorem flat_push (x : α) : ((C ++ [x]).map f).flatten = (C.map f).flatten ++ f x := by simp
end
theorem indexAddr_sl {P : Program} {t e : TypeId} {a : Option Addr} {b o len cap z : Nat} {k : IntKind} {i : Int} (ha : a = some ⟨b, o, none⟩) (hu : P.underlying t = some (.slice e)) (hz : szOf P e = some z) (hi : 0 ≤ i ∧ i < len) :
  indexAddrV P t (.slice a len cap) (.int k i) = some (ptrTo b (o + i.toNat * z)) := by
 subst ha
 exact indexAddr_slice hu hz hi
abbrev Tis := LsOf 50 2 Ti.cells
theorem index_arrayF {α : Type} {f : α → List Value} {P : Program} {t e : TypeId} {C : List α} {len z : Nat} {k : IntKind} {i : Int} {x : α} (hu : P.underlying t = some (.array len e)) (hzz : szOf P e = some z) (ha : aggOf P e = some true) (hz : ∀ x, (f x).length = z) (hi : 0 ≤ i ∧ i < len) (hx : nth C i.toNat = some x) :
  indexV P t (aggL ((C.map f).flatten)) (.int k i) = some (aggL (f x)) := by
 show indexV P t (.agg _) (.int k i) = _
 unfold indexV
 simp only [hu]
 rw [if_pos hi]
 have h := flat_take (f := f) hz hx
 rw [Nat.zero_add] at h
 simp only [hzz, partL, ha]
 show (match takeN z (dropN (i.toNat * z) ((C.map f).flatten)) with
  | some l => some (aggL l)
  | none => none) = _
 rw [h]
abbrev Pts := LsOf 52 3 Pt.cells
theorem src_row {S : St} {b o n cap z : Nat} {e : TypeId} {c new : List Value} (h : RowAt S b e c) (hn : takeN (n * z) (dropN o c) = some new) : sourceCells S z n (.slice (some ⟨b, o, none⟩) n cap) = some new := by
 obtain ⟨_, own, kin, hg⟩ := h
 show readCells S b o (n * z) = _
 unfold readCells
 rw [hg]
 exact hn
theorem Grow.is {S0 S : St} {g : Gr} (h : Grow S0 S g) : ∃ a, g.v = .slice a g.n g.n := by
 rcases Grow.row h with ⟨h1, _, h3⟩ | ⟨b, h1, _⟩
 ·exact ⟨none, by rw [h1, h3]⟩
 ·exact ⟨_, h1⟩
theorem stays_left {P : Program} {n : Nat} {S' : St} {m m2 : Nat} : ∀ {E : List CkE}, Stays P n S' m E → Stays P n S' m (left m2 E)
 | [], _ => trivial
 | e :: r, h => by
  unfold left
  cases m2.testBit e.j with
  | true => exact stays_left h.2
  | false => exact ⟨h.1, stays_left h.2⟩
theorem gOf_push {α : Type} {e : TypeId} {z : Nat} {f : α → List Value} {a : Option Addr} {C : List α} {x : α} : gOf e z f (.slice a (C ++ [x]).length (C ++ [x]).length) (C ++ [x]) = ⟨.slice a (C.length + 1) (C.length + 1), e, z, (C.map f).flatten ++ f x, C.length + 1⟩ := by
 unfold gOf
 rw [flat_push, List.length_append]
 rfl
structure Ev where
 at_ : Ti
 dur : Ti
 p : Pt
 rest : Bool
 sign : Int
 pass : Int
def Ev.cells (x : Ev) : List Value := [.int .i64 x.at_.n, .int .i64 x.at_.d, .int .i64 x.dur.n, .int .i64 x.dur.d, .int .i64 x.p.s, .int .i64 x.p.o, .int .i64 x.p.a, .bool x.rest, .int .i64 x.sign, .int .i64 x.pass]
def Ev.v (x : Ev) : Value := aggL x.cells
def zT : Ti := ⟨0, 1⟩
def midE (x : Ev) : Int := bif x.rest then (bif !decide (x.p = p0) then 3 else 0) else pE x.p
def oneE (x : Ev) : Int := bif firstE [x.at_, x.dur] != 0 then firstE [x.at_, x.dur] else bif x.dur.n == 0 then 2 else bif midE x != 0 then midE x else bif decide (x.sign < 0) || decide (x.pass < 0) then 2 else 0
theorem one_1 {x : Ev} (h : (firstE [x.at_, x.dur] != 0) = true) : oneE x = firstE [x.at_, x.dur] := by unfold oneE; rw [h]; rfl
theorem one_2 {x : Ev} (h : firstE [x.at_, x.dur] = 0) (h2 : (x.dur.n == 0) = true) : oneE x = 2 := by unfold oneE; rw [h, h2]; rfl
theorem one_3 {x : Ev} (h : firstE [x.at_, x.dur] = 0) (h2 : (x.dur.n == 0) = false) (h3 : (midE x != 0) = true) : oneE x = midE x := by unfold oneE; rw [h, h2, h3]; rfl
theorem one_4 {x : Ev} (h : firstE [x.at_, x.dur] = 0) (h2 : (x.dur.n == 0) = false) (h3 : midE x = 0) (h4 : (decide (x.sign < 0) || decide (x.pass < 0)) = true) : oneE x = 2 := by unfold oneE; rw [h, h2, h3, h4]; rfl
theorem one_5 {x : Ev} (h : firstE [x.at_, x.dur] = 0) (h2 : (x.dur.n == 0) = false) (h3 : midE x = 0) (h4 : (decide (x.sign < 0) || decide (x.pass < 0)) = false) : oneE x = 0 := by unfold oneE; rw [h, h2, h3, h4]; rfl
theorem mid_1 {x : Ev} (h : x.rest = true) (h2 : (!decide (x.p = p0)) = true) : midE x = 3 := by unfold midE; rw [h, h2]; rfl
theorem mid_2 {x : Ev} (h : x.rest = true) (h2 : (!decide (x.p = p0)) = false) : midE x = 0 := by unfold midE; rw [h, h2]; rfl
theorem mid_3 {x : Ev} (h : x.rest = false) : midE x = pE x.p := by unfold midE; rw [h]; rfl
def evG : List Ev → Ti → Nat → Int × Int
 | [], _, _ => (0, 0)
 | x :: r, now, i => bif oneE x != 0 then (oneE x, (i : Int)) else bif !decide (x.at_ = now) then (6, (i : Int)) else bif (addE x.at_ x.dur).2 != 0 then ((addE x.at_ x.dur).2, (i : Int)) else evG r (addE x.at_ x.dur).1 (i + 1)
theorem evG_1 {x : Ev} {r : List Ev} {now : Ti} {i : Nat} (h : (oneE x != 0) = true) : evG (x :: r) now i = (oneE x, (i : Int)) := by unfold evG; rw [h]; rfl
theorem evG_2 {x : Ev} {r : List Ev} {now : Ti} {i : Nat} (h : (oneE x != 0) = false) (h2 : (!decide (x.at_ = now)) = true) : evG (x :: r) now i = (6, (i : Int)) := by rw [evG, h, h2]; rfl
theorem evG_3 {x : Ev} {r : List Ev} {now : Ti} {i : Nat} (h : (oneE x != 0) = false) (h2 : (!decide (x.at_ = now)) = false) (h3 : ((addE x.at_ x.dur).2 != 0) = true) : evG (x :: r) now i = ((addE x.at_ x.dur).2, (i : Int)) := by rw [evG, h, h2, h3]; rfl
theorem evG_4 {x : Ev} {r : List Ev} {now : Ti} {i : Nat} (h : (oneE x != 0) = false) (h2 : (!decide (x.at_ = now)) = false) (h3 : ((addE x.at_ x.dur).2 != 0) = false) : evG (x :: r) now i = evG r (addE x.at_ x.dur).1 (i + 1) := by rw [evG, h, h2, h3]; rfl
def evE (C : List Ev) : Int × Int := bif decide ((C.length : Int) > 2000) then (11, 0) else evG C zT 0
theorem ev_1 {C : List Ev} (h : decide ((C.length : Int) > 2000) = true) : evE C = (11, 0) := by unfold evE; rw [h]; rfl
theorem ev_2 {C : List Ev} (h : decide ((C.length : Int) > 2000) = false) : evE C = evG C zT 0 := by unfold evE; rw [h]; rfl
def endE (C : List Ev) : Ti × Int := bif (evE C).1 != 0 then (t0, (evE C).1) else match nth C (C.length - 1) with
 | none => (zT, 0)
 | some x => addE x.at_ x.dur
theorem end_1 {C : List Ev} (h : ((evE C).1 != 0) = true) : endE C = (t0, (evE C).1) := by unfold endE; rw [h]; rfl
theorem end_2 {C : List Ev} (h : ((evE C).1 != 0) = false) (h2 : ((C.length : Int) == 0) = true) : endE C = (zT, 0) := by
 unfold endE
 rw [h]
 cases C with
 | nil => rfl
 | cons x r => simp at h2; omega
theorem end_3 {C : List Ev} {x : Ev} (h : ((evE C).1 != 0) = false) (hx : nth C (C.length - 1) = some x) : endE C = addE x.at_ x.dur := by unfold endE; rw [h, hx]; rfl
abbrev Evs := LsOf 54 10 Ev.cells
section
variable {P : Program} {K : Known} {n : Nat} {ro : Option Nat} {L : Env} {S : St} {Q : Post}
theorem xe_cutR {c : Code} (I : Env → St → Prop) (h : XE P K n ro c L S fun e L' S' => (e = .normal ∧ I L' S') ∨ (e ≠ .normal ∧ Q e L' S')) (hq : ∀ L' S', I L' S' → Q .normal L' S') : XE P K n ro c L S Q :=
 xe_mono h fun e L' S' hh => by
  rcases hh with ⟨he, hi⟩ | ⟨_, hi⟩
  ·subst he; exact hq L' S' hi
  ·exact hi
theorem cut_ret {I : Prop} (h : Q .ret L S) : ((Exit.ret = .normal) ∧ I) ∨ (Exit.ret ≠ .normal ∧ Q .ret L S) := .inr ⟨nofun, h⟩
end
structure Cl where
 a : Int
 b : Int
 k : Int
def Cl.cells (c : Cl) : List Value := [.int .i64 c.a, .int .i64 c.b, .int .i64 c.k]
def Cl.v (c : Cl) : Value := aggL c.cells
abbrev Cls := LsOf 106 3 Cl.cells
def clB (low x y : Pt) : Bool := ((kdE x y).1 == 5) || ((((kdE x y).1 == 3) || ((kdE x y).1 == 4)) && decide ((lowE x y).1 = low))
def clI (low x : Pt) (a : Nat) : List Pt → Nat → List Cl
 | [], _ => []
 | y :: r, b => (bif decide ((b : Int) ≤ (a : Int)) then [] else bif clB low x y then [⟨a, b, (kdE x y).1⟩] else []) ++ clI low x a r (b + 1)
theorem clI_1 {low x y : Pt} {a b : Nat} {r : List Pt} (h : decide ((b : Int) ≤ (a : Int)) = true) : clI low x a (y :: r) b = clI low x a r (b + 1) := by rw [clI, h]; rfl
theorem clI_2 {low x y : Pt} {a b : Nat} {r : List Pt} (h : decide ((b : Int) ≤ (a : Int)) = false) (h2 : clB low x y = true) : clI low x a (y :: r) b = ⟨a, b, (kdE x y).1⟩ :: clI low x a r (b + 1) := by rw [clI, h, h2]; rfl
theorem clI_3 {low x y : Pt} {a b : Nat} {r : List Pt} (h : decide ((b : Int) ≤ (a : Int)) = false) (h2 : clB low x y = false) : clI low x a (y :: r) b = clI low x a r (b + 1) := by rw [clI, h, h2]; rfl
def clO (low : Pt) (C : List Pt) : List Pt → Nat → List Cl
 | [], _ => []
 | x :: r, a => clI low x a C 0 ++ clO low C r (a + 1)
def clE (C : List Pt) : List Cl := clO ((nth C (bsE C)).getD p0) C C 0
theorem clO_step {low x : Pt} {C r : List Pt} {a : Nat} : clO low C (x :: r) a = clI low x a C 0 ++ clO low C r (a + 1) := rfl
theorem bsG_lt (C : List Pt) : ∀ (r : List Pt) (i b : Nat), i + r.length ≤ C.length → b < C.length → bsG C r i b < C.length
 | [], _, b, _, h => h
 | x :: r, i, b, hi, h => by
  have hi : i + (r.length + 1) ≤ C.length := hi
  show bsG C r (i + 1) (bif bsB x ((nth C b).getD p0) then i else b) < _
  refine bsG_lt C r (i + 1) _ (by omega) ?_
  cases bsB x ((nth C b).getD p0) with
  | true => show i < _; omega
  | false => exact h
theorem bsE_lt {C : List Pt} (h : 0 < C.length) : bsE C < C.length := bsG_lt C C 0 0 (by omega) h
def clsE (C : List Pt) : List Cl × Int := bif chkE C != 0 then ([], chkE C) else (clE C, 0)
theorem cls_1 {C : List Pt} (h : (chkE C != 0) = true) : clsE C = ([], chkE C) := by unfold clsE; rw [h]; rfl
theorem cls_2 {C : List Pt} (h : (chkE C != 0) = false) : clsE C = (clE C, 0) := by unfold clsE; rw [h]; rfl
theorem chk_len {C : List Pt} (h : (chkE C != 0) = false) : C.length ≤ 8 := by
 cases h1 : decide ((C.length : Int) > 8) with
 | true => rw [chk_1 h1] at h; cases h
 | false => have := of_decide_eq_false h1; omega
theorem ev_len {C : List Ev} (h : ((evE C).1 != 0) = false) : C.length ≤ 2000 := by
 cases h1 : decide ((C.length : Int) > 2000) with
 | true => rw [ev_1 h1] at h; cases h
 | false => have := of_decide_eq_false h1; omega
theorem LsOf.tail {α : Type} {P : Program} {e t : TypeId} {z : Nat} {f : α → List Value} {S S1 : St} {a : Option Addr} {n cap : Nat} {x : α} {C : List α} (h : LsOf e z f S (.slice a n cap) (x :: C)) (hk : RK S S1) (hu : P.underlying t = some (.slice e)) (hz : szOf P e = some z) :
  ∃ a2 cap2, sliceV P t (.slice a n cap) (some (.int .i64 1)) none none S1 = some (.slice a2 C.length cap2) ∧ LsOf e z f S (.slice a2 C.length cap2) C := by
 rcases h with ⟨h1, _⟩ | ⟨b, o, cap0, cs, e1, hcap, hr, h3⟩
 ·cases h1
 ·rw [List.length_map] at e1 hcap
  cases e1
  obtain ⟨_, own, kin, hg⟩ := hk.2 _ _ _ hr
  have hc : C.length + 1 ≤ cap := hcap
  refine ⟨some ⟨b, o + 1 * z, none⟩, cap - 1, ?_, .inr ⟨b, o + 1 * z, cap - 1, cs, ?_, ?_, hr, fun j y hy => ?_⟩⟩
  ·unfold sliceV
   have hb3 : bounds3 (C.length + 1) cap (some (.int .i64 1)) none none = some (1, C.length + 1, cap) := by
    unfold bounds3 sliceBnd
    simp only
    rw [if_pos ⟨by omega, by omega⟩]
    rfl
   have hrs : rowSize P S1 b z = true := by
    unfold rowSize
    rw [hg]
    simp only [hz]
    exact nbeq_tt _
   simp only [hu, hz, hb3, hrs, cond_true, Option.isSome_none, Bool.false_and, cond_false, List.length_cons, Nat.add_sub_cancel]
  ·rw [List.length_map]
  ·rw [List.length_map]; omega
  ·have := h3 (j + 1) y hy
   rw [show o + 1 * z + j * z = o + (j + 1) * z by rw [Nat.add_mul]; omega]
   exact this
def Vs (S : St) (v : Value) (V : List (List Ev)) : Prop := ∃ ws : List Value, LsOf 27 1 (fun w => [w]) S v ws ∧ ws.length = V.length ∧ ∀ k w x, nth ws k = some w → nth V k = some x → Evs S w x
theorem Vs.move {S S' : St} (h : RK S S') {v : Value} {V : List (List Ev)} (hs : Vs S v V) : Vs S' v V := by
 obtain ⟨ws, h1, h2, h3⟩ := hs
 exact ⟨ws, h1.move h, h2, fun k w x a b => (h3 k w x a b).move h⟩
theorem Vs.is {S : St} {v : Value} {V : List (List Ev)} (h : Vs S v V) : ∃ a cap, v = .slice a V.length cap := by
 obtain ⟨ws, h1, h2, _⟩ := h
 obtain ⟨a, cap, e⟩ := h1.is
 exact ⟨a, cap, by rw [e, h2]⟩
theorem Vs.elem {S : St} {a : Option Addr} {n cap : Nat} {V : List (List Ev)} (h : Vs S (.slice a n cap) V) {k : Nat} {x : List Ev} (hk : nth V k = some x) :
  ∃ b o cs aw cw, a = some ⟨b, o, none⟩ ∧ n = V.length ∧ RowAt S b 27 cs ∧ nth cs (o + k * 1) = some (.slice aw x.length cw) ∧ Evs S (.slice aw x.length cw) x := by
 obtain ⟨ws, h1, h2, h3⟩ := h
 obtain ⟨w, hw⟩ := nth_some (l := ws) (i := k) (by have := nth_lt hk; omega)
 obtain ⟨b, o, cs, e1, e2, e3, e4⟩ := h1.elem hw
 have hv := h3 k w x hw hk
 obtain ⟨aw, cw, rfl⟩ := hv.is
 exact ⟨b, o, cs, aw, cw, e1, e2.trans h2, e3, tk_nth e4 (j := 0) rfl, hv⟩
def acG : List (List Ev) → Nat → Int × Int
 | [], _ => (0, 0)
 | x :: r, i => bif (evE x).1 != 0 then ((evE x).1, (i : Int)) else acG r (i + 1)
theorem acG_1 {x : List Ev} {r : List (List Ev)} {i : Nat} (h : ((evE x).1 != 0) = true) : acG (x :: r) i = ((evE x).1, (i : Int)) := by unfold acG; rw [h]; rfl
theorem acG_2 {x : List Ev} {r : List (List Ev)} {i : Nat} (h : ((evE x).1 != 0) = false) : acG (x :: r) i = acG r (i + 1) := by rw [acG, h]; rfl
def acE (V : List (List Ev)) : Int × Int := bif decide ((V.length : Int) > 8) then (11, 0) else acG V 0
theorem ac_1 {V : List (List Ev)} (h : decide ((V.length : Int) > 8) = true) : acE V = (11, 0) := by unfold acE; rw [h]; rfl
theorem ac_2 {V : List (List Ev)} (h : decide ((V.length : Int) > 8) = false) : acE V = acG V 0 := by unfold acE; rw [h]; rfl
def hdT (A : List Ti) : Ti := (nth A 0).getD zT
def swB (A B : List Ti) : Bool := ((A.length : Int) == 0) || (decide ((B.length : Int) > 0) && decide ((cmpE (hdT B) (hdT A)).1 < 0))
def swp (A B : List Ti) : List Ti × List Ti := bif swB A B then (B, A) else (A, B)
def psB (O : List Ti) (x : Ti) : Bool := ((O.length : Int) == 0) || (!decide ((nth O (O.length - 1)).getD zT = x))
def psh (O : List Ti) (x : Ti) : List Ti := bif psB O x then O ++ [x] else O
def mgG : Nat → List Ti → List Ti → List Ti → List Ti
 | 0, _, _, O => O
 | n + 1, A, B, O => match (swp A B).1 with
  | [] => O
  | x :: r => mgG n r (swp A B).2 (psh O x)
def mgE (A B : List Ti) : List Ti := mgG (A.length + B.length) A B []
theorem swp_len (A B : List Ti) : (swp A B).1.length + (swp A B).2.length = A.length + B.length := by
 unfold swp
 cases swB A B with
 | true => show B.length + A.length = _; omega
 | false => rfl
theorem swp_pos {A B : List Ti} (h : 0 < A.length + B.length) : ∃ x r, (swp A B).1 = x :: r := by
 unfold swp
 cases hs : swB A B with
 | true =>
  show ∃ x r, B = x :: r
  cases B with
  | cons x r => exact ⟨x, r, rfl⟩
  | nil =>
   unfold swB at hs
   cases A with
   | nil => exact absurd h (by simp)
   | cons y q => simp at hs; omega
 | false =>
  show ∃ x r, A = x :: r
  cases A with
  | cons x r => exact ⟨x, r, rfl⟩
  | nil => unfold swB at hs; simp at hs
theorem mg_step {n : Nat} {A B A1 B1 O : List Ti} {x : Ti} {r : List Ti} (h : swp A B = (A1, B1)) (hx : A1 = x :: r) : mgG (n + 1) A B O = mgG n r B1 (psh O x) := by
 rw [mgG, h, hx]
def moG : List (List Ev) → List Ti → List Ti
 | [], O => O
 | v :: r, O => moG r (mgE O (v.map Ev.at_ ++ bif decide ((v.length : Int) > 0) then [(endE v).1] else []))
def moE (V : List (List Ev)) : List Ti := moG V []
theorem eqTime (s r : Ti) : eqV Tryz.prog eqDepth 50 s.v r.v = some (decide (s = r)) := by
 have h : eqV Tryz.prog 40 50 (aggL s.cells) (aggL r.cells) = _ := eq_struct Tryz.underlying50 (by kernel_rfl) (eqFields_cons (by kernel_rfl) (part1 (by kernel_rfl) rfl) (part1 (by kernel_rfl) rfl) (eq_int Tryz.underlying3) (eqFields_cons (by kernel_rfl) (part1 (by kernel_rfl) rfl) (part1 (by kernel_rfl) rfl) (eq_int Tryz.underlying3) rfl))
 refine h.trans (congrArg some ?_)
 cases s; cases r
 simp only [Ti.mk.injEq]
 rw [Bool.eq_iff_iff]
 simp [and_assoc]
theorem neTime (xo yo : Operand) (s r : Ti) : binV Tryz.prog .neq 50 xo yo s.v r.v = some (.bool (!decide (s = r))) := bin_ne (by kernel_rfl) (eqTime s r)
theorem isTime (xo yo : Operand) (s r : Ti) : binV Tryz.prog .eql 50 xo yo s.v r.v = some (.bool (decide (s = r))) := bin_eq (by kernel_rfl) (eqTime s r)
theorem eqPitch (s r : Pt) : eqV Tryz.prog eqDepth 52 s.v r.v = some (decide (s = r)) := by
 have h : eqV Tryz.prog 40 52 (aggL s.cells) (aggL r.cells) = _ := eq_struct Tryz.underlying52 (by kernel_rfl) (eqFields_cons (by kernel_rfl) (part1 (by kernel_rfl) rfl) (part1 (by kernel_rfl) rfl) (eq_int Tryz.underlying3) (eqFields_cons (by kernel_rfl) (part1 (by kernel_rfl) rfl) (part1 (by kernel_rfl) rfl) (eq_int Tryz.underlying3) (eqFields_cons (by kernel_rfl) (part1 (by kernel_rfl) rfl) (part1 (by kernel_rfl) rfl) (eq_int Tryz.underlying3) rfl)))
 refine h.trans (congrArg some ?_)
 cases s; cases r
 simp only [Pt.mk.injEq]
 rw [Bool.eq_iff_iff]
 simp [and_assoc]
theorem nePitch (xo yo : Operand) (s r : Pt) : binV Tryz.prog .neq 52 xo yo s.v r.v = some (.bool (!decide (s = r))) := bin_ne (by kernel_rfl) (eqPitch s r)
theorem isPitch (xo yo : Operand) (s r : Pt) : binV Tryz.prog .eql 52 xo yo s.v r.v = some (.bool (decide (s = r))) := bin_eq (by kernel_rfl) (eqPitch s r)
theorem i6 {x : Int} (h : -9223372036854775808 ≤ x ∧ x ≤ 9223372036854775807) : some (Value.int .i64 (IntKind.i64.wrap x)) = some (.int .i64 x) := congrArg some (congrArg (Value.int .i64) (IntWalk.i64_in x h))
theorem az24 : allSz Tryz.prog 24 = true := by kernel_rfl
theorem az50 : allSz Tryz.prog 50 = true := by kernel_rfl
theorem az52 : allSz Tryz.prog 52 = true := by kernel_rfl
theorem az54 : allSz Tryz.prog 54 = true := by kernel_rfl
theorem az61 : allSz Tryz.prog 61 = true := by kernel_rfl
theorem az66 : allSz Tryz.prog 66 = true := by kernel_rfl
theorem az73 : allSz Tryz.prog 73 = true := by kernel_rfl
theorem az97 : allSz Tryz.prog 97 = true := by kernel_rfl
theorem az106 : allSz Tryz.prog 106 = true := by kernel_rfl
theorem az110 : allSz Tryz.prog 110 = true := by kernel_rfl
theorem az137 : allSz Tryz.prog 137 = true := by kernel_rfl
theorem az143 : allSz Tryz.prog 143 = true := by kernel_rfl
theorem az163 : allSz Tryz.prog 163 = true := by kernel_rfl
def lkn {α : Type} : List (Nat × α) → Nat → Option α
 | [], _ => none
 | (k, a) :: r, t => bif Nat.beq k t then some a else lkn r t
theorem lkn_mem {α : Type} : ∀ {l : List (Nat × α)} {t : Nat} {a : α}, lkn l t = some a → (t, a) ∈ l
 | (k, b) :: r, t, a, h => by
  rw [lkn] at h
  cases hb : Nat.beq k t with
  | true => rw [hb] at h; cases h; rw [of_nbeq hb]; exact List.mem_cons_self ..
  | false => rw [hb] at h; exact List.mem_cons_of_mem _ (lkn_mem h)
theorem ks {α : Type} {x : Option α} {a : α} (_ : x.isSome = true) (h : x = some a) : x = some a := h
def tN : List (Nat × Nat) := [(7, 4), (8, 4), (13, 2), (14, 2), (18, 1), (19, 1), (23, 3), (24, 3), (37, 2), (38, 2), (49, 2), (50, 2), (51, 3), (52, 3), (53, 10), (54, 10), (59, 4), (60, 5), (61, 5), (65, 5), (66, 5), (72, 2), (73, 2), (96, 3), (97, 3), (105, 3), (106, 3), (107, 2), (109, 5), (110, 5), (111, 4), (112, 4), (136, 2), (137, 2), (142, 5), (143, 5), (162, 2), (163, 2), (165, 13), (166, 91), (184, 6), (187, 7), (189, 4), (190, 4), (191, 0), (192, 0), (193, 0), (201, 11), (202, 11)]
def t1 : List (Nat × Unit) := [(2, ()), (3, ()), (4, ()), (5, ()), (6, ()), (9, ()), (10, ()), (11, ()), (12, ()), (21, ()), (22, ()), (27, ()), (29, ()), (39, ()), (42, ()), (55, ()), (56, ()), (62, ()), (70, ()), (71, ()), (95, ()), (98, ()), (101, ()), (104, ()), (108, ()), (116, ()), (126, ()), (146, ()), (194, ()), (195, ()), (196, ()), (199, ()), (200, ())]
def tS : List (Nat × Nat × Nat) := [(22, 27, 1), (27, 54, 10), (39, 3, 1), (56, 61, 5), (62, 66, 5), (71, 110, 5), (95, 104, 1), (98, 52, 3), (101, 106, 3), (116, 50, 2), (146, 144, 1)]
theorem tN_ok : tN.all (fun p => (Tryz.prog.info? p.1 |>.map (·.size)) == some p.2 && aggOf Tryz.prog p.1 == some true) = true := by kernel_rfl
theorem t1_ok : t1.all (fun p => aggOf Tryz.prog p.1 == some false) = true := by kernel_rfl
theorem tS_ok : ∀ p, p ∈ tS → Tryz.prog.underlying p.1 = some (.slice p.2.1) ∧ szOf Tryz.prog p.2.1 = some p.2.2 := by
 intro p hp
 simp only [tS, List.mem_cons, List.not_mem_nil, or_false] at hp
 rcases hp with rfl | rfl | rfl | rfl | rfl | rfl | rfl | rfl | rfl | rfl | rfl
 ·exact ⟨Tryz.underlying22, by kernel_rfl⟩
 ·exact ⟨Tryz.underlying27, by kernel_rfl⟩
 ·exact ⟨Tryz.underlying39, by kernel_rfl⟩
 ·exact ⟨Tryz.underlying56, by kernel_rfl⟩
 ·exact ⟨Tryz.underlying62, by kernel_rfl⟩
 ·exact ⟨Tryz.underlying71, by kernel_rfl⟩
 ·exact ⟨Tryz.underlying95, by kernel_rfl⟩
 ·exact ⟨Tryz.underlying98, by kernel_rfl⟩
 ·exact ⟨Tryz.underlying101, by kernel_rfl⟩
 ·exact ⟨Tryz.underlying116, by kernel_rfl⟩
 ·exact ⟨Tryz.underlying146, by kernel_rfl⟩
theorem uN {t z : Nat} (h : lkn tN t = some z) : aggOf Tryz.prog t = some true ∧ szOf Tryz.prog t = some z := by
 have := List.all_eq_true.1 tN_ok _ (lkn_mem h)
 simp only [Bool.and_eq_true, beq_iff_eq, Option.map_eq_some_iff] at this
 obtain ⟨⟨i, hi, rfl⟩, h2⟩ := this
 exact ⟨h2, by unfold szOf; rw [hi]⟩
theorem u1 {t : Nat} (h : lkn t1 t = some ()) : aggOf Tryz.prog t = some false := by
 have := List.all_eq_true.1 t1_ok _ (lkn_mem h)
 simpa using this
section
variable {S : St} {t b o : Nat} {c l : List Value} {e : TypeId} {row own : Bool} {kin : List Nat} {v : Value} {z : Nat}
theorem q1 (h : lkn t1 t = some ()) (hb : S.get b = some (.cells c e row own kin)) (hv : nth c o = some v) : loadV Tryz.prog t (ptrTo b o) S = some v := load1_of (u1 h) hb hv
theorem q2 (h : lkn t1 t = some ()) (hb : RowAt S b e c) (hv : nth c o = some v) : loadV Tryz.prog t (ptrTo b o) S = some v := load1_row (u1 h) hb hv
theorem q3 (h : lkn tN t = some z) (hb : S.get b = some (.cells c e row own kin)) (hv : takeN z (dropN o c) = some l) : loadV Tryz.prog t (ptrTo b o) S = some (aggL l) := loadN_of (uN h).1 (uN h).2 hb hv
theorem q4 (h : lkn tN t = some z) (hb : RowAt S b e c) (hv : takeN z (dropN o c) = some l) : loadV Tryz.prog t (ptrTo b o) S = some (aggL l) := loadN_row (uN h).1 (uN h).2 hb hv
theorem q5 {a : Option Addr} {n cap : Nat} (h : lkn tS t = some (e, z)) : lenV Tryz.prog t (.slice a n cap) S = some (.int .i64 n) := len_slice (tS_ok _ (lkn_mem h)).1
theorem q6 {a : Option Addr} {n cap : Nat} {k : IntKind} {i : Int} (h : lkn tS t = some (e, z)) (ha : a = some ⟨b, o, none⟩) (hi : 0 ≤ i ∧ i < n) : indexAddrV Tryz.prog t (.slice a n cap) (.int k i) = some (ptrTo b (o + i.toNat * z)) := indexAddr_sl ha (tS_ok _ (lkn_mem h)).1 (tS_ok _ (lkn_mem h)).2 hi
theorem q9 {a : Option Addr} {n cap : Nat} {k : IntKind} {i : Int} (h : lkn tS t = some (e, z)) (_ : takeN z (dropN (o + i.toNat * z) c) = some l) (ha : a = some ⟨b, o, none⟩) (hi : 0 ≤ i ∧ i < n) : indexAddrV Tryz.prog t (.slice a n cap) (.int k i) = some (ptrTo b (o + i.toNat * z)) := q6 h ha hi
variable {P : Program} {K : Known} {n : Nat} {ro : Option Nat} {L : Env} {Q : Post}
theorem qg {c : Code} (h : Nat.beq (pK c) 1 = true) (hc : constsOk P (pO c) = true) (k : RE P K n (pO c) 0 L S Q) : XE P K n ro c L S Q := xp_region (of_nbeq h) hc k
theorem qs {c : Code} (h : (Nat.beq (pK c) 3 && Nat.beq (pK (pA c)) 1) = true) (hc : constsOk P (pO (pA c)) = true) (k : RE P K n (pO (pA c)) 0 L S (Thn P K n ro (Go.Cm.pB c) Q)) : XE P K n ro c L S Q := by
 rw [Bool.and_eq_true] at h
 exact xp_seq (of_nbeq h.1) (qg h.2 hc k)
end
def kd : Op → Nat
 | .load .. => 1
 | .fieldAddr .. => 2
 | .binOp .. => 3
 | .indexAddr .. => 4
 | .call _ => 5
 | .nilCheck .. => 6
 | .move .. => 7
 | .assign .. => 7
 | .extract .. => 7
 | .pick .. => 7
 | _ => 0
def ki (ops : List Oper) (i : Nat) : Nat := match nth ops i with
 | some o => kd o.op
 | none => 9
def kp (pl : List (Oper × Nat)) (i : Nat) : Nat := match nth pl i with
 | some o => kd o.1.op
 | none => 9
theorem tt : true = true := rfl
theorem rb {n : Nat} {P : Program} {L : Env} {S : St} {o : Oper} {op : BinOp} {t t' : TypeId} {x y : Operand} {u w : Value} {b : Bool} (hop : o.op = .binOp op t x y t') (hx : Go.Cm.evE L x = some u) (hy : Go.Cm.evE L y = some w) (hv : binV P op t x y u w = some (.bool b)) : Rd P n L S o (.bool b) := rd_bin hop hx hy hv
section
variable {P : Program} {S : St} {t j b o : Nat} {u w v : Value}
theorem qF (h : fieldAddrV P t u j = some v := by first| exact fa Tryz.underlying24 az24 rfl| exact fa Tryz.underlying50 az50 rfl| exact fa Tryz.underlying52 az52 rfl| exact fa Tryz.underlying54 az54 rfl| exact fa Tryz.underlying61 az61 rfl| exact fa Tryz.underlying66 az66 rfl| exact fa Tryz.underlying73 az73 rfl| exact fa Tryz.underlying97 az97 rfl| exact fa Tryz.underlying106 az106 rfl| exact fa Tryz.underlying110 az110 rfl| exact fa Tryz.underlying137 az137 rfl| exact fa Tryz.underlying143 az143 rfl| exact fa Tryz.underlying163 az163 rfl) : fieldAddrV P t u j = some v := h
theorem qG {x : Blk} (h : S.get b = some x := by first| exact hl.get 0 rfl| exact hl.get 1 rfl| exact hl.get 2 rfl| exact hl.get 3 rfl| exact hl.get 4 rfl| exact hl.get 5 rfl| exact hl.get 6 rfl| exact hl.get 7 rfl| exact hl.get 8 rfl| exact hd.at_ hl.keep| exact hd.d.at_ hl.keep) : S.get b = some x := h
theorem qR {e : TypeId} {c : List Value} (h : RowAt S b e c := by first| assumption| exact row_move (hl.since 0 rfl) (by assumption)| exact row_move (hl.since 1 rfl) (by assumption)| exact row_move (hl.since 2 rfl) (by assumption)) : RowAt S b e c := h
theorem qT {c : List Value} (h : nth c o = some v := by first| assumption| exact tk_nth (j := 0) (by assumption) rfl| exact tk_nth (j := 1) (by assumption) rfl| exact tk_nth (j := 2) (by assumption) rfl| exact tk_nth (j := 3) (by assumption) rfl| exact tk_nth (j := 4) (by assumption) rfl| exact tk_nth (j := 5) (by assumption) rfl| exact tk_nth (j := 6) (by assumption) rfl| exact tk_nth (j := 7) (by assumption) rfl| exact tk_nth (j := 8) (by assumption) rfl| exact tk_nth (j := 9) (by assumption) rfl) : nth c o = some v := h
theorem qW {z : Nat} {c l : List Value} (h : takeN z (dropN o c) = some l := by first| assumption| exact tk_part (j := 0) (by assumption) rfl| exact tk_part (j := 2) (by assumption) rfl| exact tk_part (j := 4) (by assumption) rfl) : takeN z (dropN o c) = some l := h
theorem qL (h : loadV P t u S = some v := by first| exact q1 (ks tt rfl) qG (by rfl)| exact q3 (ks tt rfl) qG (by rfl)| exact q4 (ks tt rfl) qR qW| exact q2 (ks tt rfl) qR qT) : loadV P t u S = some v := h
variable {n d i : Nat} {ro : Option Nat} {K : Known} {L : Env} {ops : List Oper} {o : Oper} {Q : Post} {bef : List Nat} {pl : List (Oper × Nat)} {E : List CkE}
theorem kq {m : Nat} (_ : Nat.beq (kd o.op) m = true) (x : Rd P n L S o v) : Rd P n L S o v := x
theorem rn (_ : Nat.beq (ki ops i) 7 = true) (h : stV ops i L n = some (d, v)) (k : RE P K n ops (i + 1) ((d, v) :: L) S Q) : RE P K n ops i L S Q := rm h k
theorem pn (_ : Nat.beq (kp pl i) 7 = true) (h : psV pl ops i L n = some (d, v)) (k : RP P K n ops bef pl (i + 1) E ((d, v) :: L) S Q) : RP P K n ops bef pl i E L S Q := pm h k
theorem qq (h : Rd P n L S o v := by first| exact kq (m := 1) tt (rd_load rfl rfl qL)| exact kq (m := 2) tt (rd_fieldAddr rfl rfl qF)| exact kq (m := 3) tt (rd_bin rfl rfl rfl (isPitch _ _ _ _))| exact kq (m := 3) tt (rd_bin rfl rfl rfl (isTime _ _ _ _))| exact kq (m := 3) tt (rd_bin rfl rfl rfl (neTime _ _ _ _))| exact kq (m := 3) tt (rb rfl rfl rfl rfl)| exact kq (m := 3) tt (rd_bin rfl rfl rfl (i6 (by omega)))| exact kq (m := 5) tt (rd_len rfl rfl (q5 rfl))| exact kq (m := 4) tt (rd_indexAddr rfl rfl rfl (q9 rfl (by assumption) (by assumption) ⟨by omega, by omega⟩))| exact kq (m := 4) tt (rd_indexAddr rfl rfl rfl (q6 rfl (by assumption) ⟨by omega, by omega⟩))| exact kq (m := 6) tt (rd_nilCheck rfl rfl rfl)) : Rd P n L S o v := h
theorem rj (h : RE P K n ops i L S Q) : RE P K n ops i L S Q := h
theorem pj (h : RP P K n ops bef pl i E L S Q) : RP P K n ops bef pl i E L S Q := h
theorem x3 {c : Code} (h : Nat.beq (pK c) 3 = true) (k : XE P K n ro (pA c) L S (Thn P K n ro (Go.Cm.pB c) Q)) : XE P K n ro c L S Q := xp_seq (of_nbeq h) k
theorem x9 {c : Code} (h : Nat.beq (pK c) 9 = true) (k : Q .ret L S) : XE P K n ro c L S Q := xp_ret (of_nbeq h) k
theorem x0 {c : Code} (h : Nat.beq (pK c) 0 = true) (k : Q .normal L S) : XE P K n ro c L S Q := xp_skip (of_nbeq h) k
theorem x7 {c : Code} (h : Nat.beq (pK c) 7 = true) (k : Q (.exit (pI c)) L S) : XE P K n ro c L S Q := xp_exit (of_nbeq h) k
theorem x5 {c : Code} (h : Nat.beq (pK c) 5 = true) (k : XE P K n ro (pA c) L S (Blk' (pI c) Q)) : XE P K n ro c L S Q := xp_block (of_nbeq h) k
theorem zi {c : Code} {b : Bool} (hk : Nat.beq (pK c) 4 = true) (hc : Go.Cm.evE L (pC c) = some (.bool b)) (k : (b = true → XE P K n ro (pA c) L S Q) ∧ (b = false → XE P K n ro (Go.Cm.pB c) L S Q)) : XE P K n ro c L S Q := xp_cond (of_nbeq hk) hc k.1 k.2
theorem xj {c : Code} (h : XE P K n ro c L S Q) : XE P K n ro c L S Q := h
end
section
variable {P : Program} {K : Known} {n : Nat} {L : Env} {S S' S0 : St} {ops : List Oper} {i d : Nat} {Q : Post} {bef : List Nat} {pl : List (Oper × Nat)} {E : List CkE} {Ts : List St} {l : List (Nat × Blk)} {gs : List Gr} {f : FuncId} {vs : List Value}
def caO (o : Oper) (L : Env) : Option (FuncId × List Value) := match o.op with
 | .call ⟨.value x, ys, _⟩ => match Go.Cm.evE L x with
  | some (.func (.func f) fi ca) => match evs L ys.toList with
   | some vs => some (f, (fi.toList ++ vs) ++ ca.toList)
   | none => none
  | _ => none
 | _ => none
def caF (ops : List Oper) (i : Nat) (L : Env) (n : Nat) : Option (Nat × FuncId × List Value) := match st1 ops i L n with
 | some (o, d) => match caO o L with
  | some x => some (d, x)
  | none => none
 | none => none
def caP (pl : List (Oper × Nat)) (ops : List Oper) (q : Nat) (L : Env) (n : Nat) : Option (Nat × Nat × FuncId × List Value) := match nth pl q with
 | some (o, j) => match wantE ops L o with
  | some true => match o.dst with
   | some d => bif Nat.blt d n then match caO o L with
    | some x => some (j, d, x)
    | none => none
    else none
   | none => none
  | _ => none
 | none => none
theorem caO_is {o : Oper} (h : caO o L = some (f, vs)) : ∃ x ys ts fi ca ws, o.op = .call ⟨.value x, ys, ts⟩ ∧ Go.Cm.evE L x = some (.func (.func f) fi ca) ∧ evs L ys.toList = some ws ∧ vs = (fi.toList ++ ws) ++ ca.toList := by
 unfold caO at h
 split at h
 ·rename_i x ys ts h1
  split at h
  ·rename_i f' fi ca h2
   split at h
   ·rename_i ws h3
    cases h
    exact ⟨_, _, _, _, _, _, h1, h2, h3, rfl⟩
   ·cases h
  ·cases h
 ·cases h
theorem zc (hl : HoldG S0 Ts S l gs) {R : Value → St → Prop} (h : caF ops i L n = some (d, f, vs)) (hc : CC P K f vs S fun v S' => Keep S S' ∧ R v S') (k : ∀ v S', Keep S S' → R v S' → HoldG S0 Ts S' l gs → RE P K n ops (i + 1) ((d, v) :: L) S' Q) : RE P K n ops i L S Q := by
 unfold caF at h
 split at h
 ·rename_i o d' h1
  split at h
  ·rename_i x h2
   cases h
   obtain ⟨a1, a2, a3, a4⟩ := st1_some h1
   obtain ⟨x, ys, ts, fi, ca, ws, b1, b2, b3, rfl⟩ := caO_is h2
   exact re_callL hl a1 b1 a2 a3 a4 b2 b3 hc k
  ·cases h
 ·cases h
theorem zp {j : Nat} (hl : HoldG S0 Ts S l gs) {R : Value → St → Prop} (h : caP pl ops i L n = some (j, d, f, vs)) (hc : CC P K f vs S fun v S' => Keep S S' ∧ R v S') (k : ∀ v S', Keep S S' → R v S' → HoldG S0 Ts S' l gs → Stays P n S' ((nth bef j).getD 0) E ∧ RP P K n ops bef pl (i + 1) (left ((nth bef j).getD 0) E) ((d, v) :: L) S' Q) : RP P K n ops bef pl i E L S Q := by
 unfold caP at h
 split at h
 ·rename_i o j' h1
  split at h
  ·rename_i h2
   split at h
   ·rename_i d' h3
    cases hb : Nat.blt d' n with
    | true =>
     rw [hb] at h
     simp only [cond_true] at h
     split at h
     ·rename_i x h4
      cases h
      obtain ⟨x, ys, ts, fi, ca, ws, b1, b2, b3, rfl⟩ := caO_is h4
      exact rp_callL hl h1 b1 h2 h3 hb b2 b3 hc k
     ·cases h
    | false => rw [hb] at h; cases h
   ·cases h
  ·cases h
 ·cases h
theorem kf {e : CkE} {X : Prop} (_ : e.fr.isSome = true) (y : X → StayOne P n S' e) : X → StayOne P n S' e := y
theorem kl {e : CkE} {X : Prop} (_ : Nat.beq (kd e.op) 1 = true) (y : X → StayOne P n S' e) : X → StayOne P n S' e := y
theorem zt {m : Nat} (h : Stays P n S' m E := by repeat (first| exact trivial| refine stays_left ?_| (refine ⟨by first| exact sZ| exact kf tt (sN rfl qG)| exact kl tt (stays_load rfl rfl qL sG rfl)| exact kl tt (stays_load rfl rfl qL sQ rfl), ?_⟩))) : Stays P n S' m E := h
variable {R : Value → St → Prop} {x y : Tmp} {u v : Value} {ro : Option Nat} {c : Code}
theorem y1 (h : Go.Cm.look L x = some v) (q : R v S) : Done P [.tmp x] R .ret L S := done_ret (ress_tmp h rfl) q
theorem y2 (h : Go.Cm.look L x = some v) (k : Go.Cm.look L y = some u) (q : R (tupV [v, u]) S) : Done P [.tmp x, .tmp y] R .ret L S := done_ret (ress_tmp h (ress_tmp k rfl)) q
theorem z1 (h : Go.Cm.look L x = some v) (q : R v S) : Thn P K n ro c (Done P [.tmp x] R) .ret L S := y1 h q
theorem z2 (h : Go.Cm.look L x = some v) (k : Go.Cm.look L y = some u) (q : R (tupV [v, u]) S) : Thn P K n ro c (Done P [.tmp x, .tmp y] R) .ret L S := y2 h k q
end
structure Wr (H : Prop) : Prop where
 out : H
theorem zg {G H : Prop} (k : H) (h : Wr H → G := by intro k; (repeat (first| (refine rj ?_; first| refine rn tt rfl ?_| refine re_end tt ?_| refine rr rfl qq ?_| refine rz rfl ?_)| (refine pj ?_; first| refine pn tt rfl ?_| refine pk rfl qq ?_| refine pr rfl qq ?_| refine rp_end tt ?_| refine pz rfl ?_)| (refine xj ?_; first| refine qs tt (by kernel_rfl) ?_| refine qg tt (by kernel_rfl) ?_| refine x3 tt ?_| refine x9 tt ?_| refine x0 tt ?_| refine x7 tt ?_| refine x5 tt ?_| refine zi tt rfl ?_))); exact k.1) : G := h ⟨k⟩
theorem zA {G H : Prop} (k : H) (h : Wr H → G := by intro k; (repeat (first| (refine rj ?_; first| refine rn tt rfl ?_| refine re_end tt ?_| refine rr rfl qq ?_| refine rz rfl ?_)| (refine pj ?_; first| refine pn tt rfl ?_| refine pk rfl qq ?_| refine pr rfl qq ?_| refine rp_end tt ?_| refine pz rfl ?_))); exact k.1) : G := h ⟨k⟩
theorem zS {G H : Prop} (k : H) (h : Wr H → G := by intro k; (first| refine qs tt (by kernel_rfl) ?_| refine qg tt (by kernel_rfl) ?_); (repeat (first| (refine rj ?_; first| refine rn tt rfl ?_| refine re_end tt ?_| refine rr rfl qq ?_| refine rz rfl ?_)| (refine pj ?_; first| refine pn tt rfl ?_| refine pk rfl qq ?_| refine pr rfl qq ?_| refine rp_end tt ?_| refine pz rfl ?_))); exact k.1) : G := h ⟨k⟩
end Go.Proofs.YtgiibikieblicaaGreatDoor
namespace Go.Proofs.YtgiibikieblicaaGreatDoor
open Go.Cm Go
set_option maxRecDepth 100000
variable {S : St}
noncomputable def cd129 : Code := Tryz.f129.body.getD .skip
theorem spec129 (a b : Int) (ha : 0 ≤ a) (ha2 : a ≤ 9223372036854775807) (hb : 0 < b) : CC Tryz.prog KK 129 [.int .i64 a, .int .i64 b] S (fun v S' => Keep S S' ∧ v = tupV [.int .i64 (a.tdiv b), .int .i64 (a.tmod b)]) := by
 refine cc_enter (c := cd129) (n := 12) Tryz.func129 rfl rfl rfl (by kernel_rfl) rfl rfl ?_
 have hl := Hold.start S
 refine zg ?_; refine xp_draw (idx := [0, 1, 2, 3, 4, 5, 6, 7]) rfl (by kernel_rfl) (by kernel_rfl) ?_; refine zg ?_; refine pr rfl (rd_bin rfl rfl rfl (quoV hb ha ha2)) ?_; refine zg ?_; refine pr rfl (rd_bin rfl rfl rfl (remV hb)) ?_; refine zg ?_
 refine y2 rfl rfl ⟨hl.keep, rfl⟩
noncomputable def cd126 : Code := Tryz.f126.body.getD .skip
theorem spec126 (k : Nat) : ∀ {S : St} (a b : Int), b < (k : Int) → 0 ≤ a → a ≤ 9223372036854775807 → 0 ≤ b → b ≤ 9223372036854775807 → CC Tryz.prog KK 126 [.int .i64 a, .int .i64 b] S (fun v S' => Keep S S' ∧ v = .int .i64 (gI a b)) := by
 induction k with
 | zero => intro S a b h1 _ _ h2 _; omega
 | succ k ih => ?_
 intro S a b hk ha ha2 hb0 hb2
 refine cc_enter (c := cd126) (n := 19) Tryz.func126 rfl rfl rfl (by kernel_rfl) rfl rfl ?_
 have hl := Hold.start S
 refine zg ?_
 constructor <;> intro h8
 ·
  refine zg ?_
  exact (z1 rfl ⟨hl.keep, congrArg (Value.int .i64) (gI_z h8 ha)⟩)
 ·
  have hb : 0 < b := by simp at h8; omega
  have hr := rem_bd (a := a) hb ha
  refine zg ?_
  refine zc hl rfl (spec129 a b ha ha2 hb) ?_; rintro v S1 hk1 rfl hl
  refine zg ?_
  refine zc hl rfl (ih b (a.tmod b) (by omega) (by omega) hb2 hr.1 (by omega)) ?_; rintro v S1 hk1 rfl hl
  refine zg ?_
  refine y1 rfl ⟨hl.keep, congrArg (Value.int .i64) (gI_step ha hb)⟩
noncomputable def cd125 : Code := Tryz.f125.body.getD .skip
theorem spec125 (t : Ti) : CC Tryz.prog KK 125 [t.v] S (fun v S' => Keep S S' ∧ v = .int .i64 (tE t)) := by
 refine cc_enter (c := cd125) (n := 29) Tryz.func125 rfl rfl rfl (by kernel_rfl) rfl rfl ?_
 have hl := Hold.start S
 refine zg ?_; refine re_boxL hl rfl rfl rfl rfl rfl rfl ?_; intro B1 S1 hl; refine zA ?_; refine xp_seq rfl ?_; refine xp_block rfl ?_; refine xp_seq rfl (xe_toE hl 3 (.bool (tB t)) ?_ rfl ?_)
 ·
  refine zg ?_; refine re_bool (d := 7) rfl (fun h7 => ?_) (fun h7 => ?_)
  ·
   refine zg ?_
   exact ⟨rfl, bl (by unfold tB; rw [h7]; rfl), sB, hl⟩
  ·
   refine zg ?_; refine re_bool (d := 12) rfl (fun h12 => ?_) (fun h12 => ?_)
   ·
    refine zg ?_
    exact ⟨rfl, bl (by unfold tB; rw [h7, h12]; rfl), sB, hl⟩
   ·
    refine zg ?_; refine re_bool (d := 17) rfl (fun h17 => ?_) (fun h17 => ?_)
    ·
     refine zg ?_
     exact ⟨rfl, bl (by unfold tB; rw [h7, h12, h17]; rfl), sB, hl⟩
    ·
     refine zg ?_
     exact ⟨rfl, bl (by unfold tB; rw [h7, h12, h17]; rfl), sB, hl⟩
 intro S1 hl
 refine zg ?_
 constructor <;> intro h3
 ·
  refine zg ?_
  refine blk_ret ((z1 rfl ⟨hl.keep, congrArg (Value.int .i64) (tE_1 h3).symm⟩))
 ·
  have hb := tB_ok h3
  refine zg ?_
  refine zc hl rfl (spec126 ((t.d).toNat + 1) t.n t.d (by omega) (by omega) (by omega) (by omega) (by omega)) ?_; rintro v S1 hk1 rfl hl
  refine zg ?_
  constructor <;> intro h22
  ·
   refine zg ?_
   refine blk_ret ((z1 rfl ⟨hl.keep, congrArg (Value.int .i64) (tE_2 h3 h22).symm⟩))
  ·
   refine zg ?_
   refine y1 rfl ⟨hl.keep, congrArg (Value.int .i64) (tE_3 h3 h22).symm⟩
end Go.Proofs.YtgiibikieblicaaGreatDoor
namespace Go.Proofs.YtgiibikieblicaaGreatDoor
open Go.Cm Go
set_option maxRecDepth 100000
variable {S : St}
noncomputable def cd118 : Code := Tryz.f118.body.getD .skip
theorem spec118 (a : Option Addr) (cap : Nat) (C : List Ti) (hn : C.length ≤ 1000) (hv : Tis S (.slice a C.length cap) C) : CC Tryz.prog KK 118 [.slice a C.length cap] S (fun v S' => Keep S S' ∧ v = .int .i64 (firstE C)) := by
 refine cc_enter (c := cd118) (n := 18) Tryz.func118 rfl rfl rfl (by kernel_rfl) rfl rfl ?_
 have hl := Hold.start S
 refine zS ?_; refine xp_seq rfl ?_; refine zS ?_; refine xp_block rfl ?_
 -- LOOP
 refine xe_sub (L' := [(8, .int .i64 0), (7, .int .i64 C.length), (6, .slice a C.length cap), (2, .int .i64 0)]) ⟨rfl, rfl, rfl, rfl, trivial⟩ ?_
 refine xp_loop rfl (fun m Le S' => ∃ i : Nat, i ≤ C.length ∧ m = C.length - i ∧ SubE [(8, .int .i64 (i : Int)), (7, .int .i64 C.length), (6, .slice a C.length cap), (2, .int .i64 0)] Le ∧ firstE (C.drop i) = firstE C ∧ Hold S [S] S' []) ?_ (m := C.length) ⟨0, by omega, rfl, ⟨rfl, rfl, rfl, rfl, trivial⟩, rfl, hl⟩
 clear hl; rintro m Le S' ⟨i, hi, rfl, hsub, hin, hl⟩; refine xe_sub hsub ?_
 refine zg ?_
 constructor <;> intro h9
 ·
  have hlt : i < C.length := by have := of_decide_eq_true h9; omega
  obtain ⟨x, hx⟩ := nth_some hlt
  obtain ⟨b1, o1, cs1, ha, _, hrow, htk⟩ := hv.elem hx
  refine zg ?_; refine re_allocL hl rfl rfl rfl rfl rfl (z := [.int .i64 0, .int .i64 0]) (by kernel_rfl) ?_; intro B4 S4 hl; refine re_storeL hl 0 rfl rfl rfl rfl rfl rfl rfl (by kernel_rfl) rfl ?_; intro S1 hl; refine zg ?_
  refine zc hl rfl (spec125 x) ?_; rintro v S1 hk1 rfl hl
  refine zg ?_
  constructor <;> intro h15
  ·
   refine zg ?_
   refine blk_ret (thn_ret (round_ret (blk_ret ((z1 rfl ⟨hl.keep, congrArg (Value.int .i64) (by rw [← hin, drop_nth' hx, first_bad h15])⟩)))))
  ·
   refine zg ?_
   exact ⟨C.length - (i + 1), by omega, i + 1, by omega, rfl, ⟨rfl, rfl, rfl, rfl, trivial⟩, by rw [← first_go h15, ← drop_nth' hx]; exact hin, hl.tail⟩
 ·
  refine zg ?_
  refine y1 rfl ⟨hl.keep, congrArg (Value.int .i64) (by rw [← hin, List.drop_eq_nil_of_le (by have := of_decide_eq_false h9; omega)]; rfl)⟩
end Go.Proofs.YtgiibikieblicaaGreatDoor
namespace Go.Proofs.YtgiibikieblicaaGreatDoor
open Go.Cm Go
set_option maxRecDepth 100000
variable {S : St}
noncomputable def cd119 : Code := Tryz.f119.body.getD .skip
theorem spec119 (n d : Int) (hF : Fresh S) (hn : n ≤ 9223372036854775807) (hd : d ≤ 9223372036854775807) : CC Tryz.prog KK 119 [.int .i64 n, .int .i64 d] S (fun v S' => Keep S S' ∧ v = r2 (mkE n d)) := by
 refine cc_enter (c := cd119) (n := 40) Tryz.func119 rfl rfl rfl (by kernel_rfl) rfl rfl ?_
 have hl := Hold.start S
 refine zg ?_; refine re_allocL hl rfl rfl rfl rfl rfl (z := [.int .i64 0, .int .i64 0]) (by kernel_rfl) ?_; intro B4 S4 hl; refine zA ?_; refine xp_seq rfl ?_; refine xp_block rfl ?_; refine xp_seq rfl (xe_toE hl 8 (.bool (decide (n < 0) || decide (d < 0))) ?_ rfl ?_)
 ·
  refine zg ?_; refine re_bool (d := 11) rfl (fun h11 => ?_) (fun h11 => ?_)
  ·
   refine zg ?_
   exact ⟨rfl, bl (by first | (simp [h11]; done) | (simp only [h11, BLs])), sB, hl⟩
  ·
   refine zg ?_
   exact ⟨rfl, bl (by first | (simp [h11]; done) | (simp only [h11, BLs])), sB, hl⟩
 intro S1 hl
 refine zg ?_
 constructor <;> intro h8
 ·
  refine zg ?_; refine rr rfl (rd_build rfl rfl (v := aggL [.int .i64 0, .int .i64 0]) (by rfl)) ?_; refine re_storeL hl 0 rfl rfl rfl rfl rfl rfl rfl (by kernel_rfl) rfl ?_; intro S1 hl; refine zg ?_
  refine blk_ret (thn_ret (done_ret (ress_cell rfl (lN (z := 2) (hl.get 0 rfl) rfl) (ress_tmp rfl rfl)) ⟨hl.keep, by rw [mkE_1 h8]; rfl⟩))
 ·
  refine zg ?_
  constructor <;> intro h16
  ·
   refine zg ?_; refine rr rfl (rd_build rfl rfl (v := aggL [.int .i64 0, .int .i64 0]) (by rfl)) ?_; refine re_storeL hl 0 rfl rfl rfl rfl rfl rfl rfl (by kernel_rfl) rfl ?_; intro S1 hl; refine zg ?_
   refine blk_ret (thn_ret (done_ret (ress_cell rfl (lN (z := 2) (hl.get 0 rfl) rfl) (ress_tmp rfl rfl)) ⟨hl.keep, by rw [mkE_2 h8 h16]; rfl⟩))
  ·
   refine zg ?_
   have hb : 0 ≤ n ∧ 0 < d := by simp at h8 h16; omega
   have hg := gI_pos (a := n) hb.2
   refine zc hl rfl (spec126 ((d).toNat + 1) n d (by omega) hb.1 hn (by omega) hd) ?_; rintro v S1 hk1 rfl hl
   refine zg ?_; refine xp_draw (idx := [0, 1, 2, 3, 4, 5, 6, 7, 8]) rfl (by kernel_rfl) (by kernel_rfl) ?_; refine zg ?_; refine pr rfl (rd_bin rfl rfl rfl (quoV hg hb.1 hn)) ?_; refine zg ?_; refine pr rfl (rd_bin rfl rfl rfl (quoV hg (by omega) hd)) ?_; refine pr rfl (rd_build rfl rfl (v := aggL [.int .i64 (n.tdiv (gI n d)), .int .i64 (d.tdiv (gI n d))]) (by rfl)) ?_; refine rp_allocL hF hl rfl rfl rfl rfl rfl (z := [.int .i64 0, .int .i64 0]) (by kernel_rfl) ?_; intro B7 S7 hl
   refine rp_storeL hl 0 rfl rfl rfl rfl rfl rfl rfl (by kernel_rfl) rfl ?_; intro S1 hl; refine ⟨stays_all (by kernel_rfl), ?_⟩
   refine zA ?_; refine xp_seq rfl ?_; refine xp_seq rfl (xe_toE hl 37 (.bool (decide (n.tdiv (gI n d) > 1099511627776) || decide (d.tdiv (gI n d) > 1048576))) ?_ rfl ?_)
   ·
    refine zg ?_; refine re_bool (d := 33) rfl (fun h33 => ?_) (fun h33 => ?_)
    ·
     refine zg ?_
     exact ⟨rfl, bl (by first | (simp [h33]; done) | (simp only [h33, BLs])), sB, hl⟩
    ·
     refine zg ?_
     exact ⟨rfl, bl (by first | (simp [h33]; done) | (simp only [h33, BLs])), sB, hl⟩
   intro S1 hl
   refine zg ?_
   constructor <;> intro h37
   ·
    refine zg ?_; refine rr rfl (rd_build rfl rfl (v := aggL [.int .i64 0, .int .i64 0]) (by rfl)) ?_; refine re_storeL hl 1 rfl rfl rfl rfl rfl rfl rfl (by kernel_rfl) rfl ?_; intro S1 hl; refine zg ?_
    refine thn_ret (done_ret (ress_cell rfl (lN (z := 2) (hl.get 1 rfl) rfl) (ress_tmp rfl rfl)) ⟨hl.keep, by rw [mkE_3 h8 h16 h37]; rfl⟩)
   ·
    refine zg ?_; refine re_storeL hl 1 rfl rfl rfl rfl rfl rfl rfl (by kernel_rfl) rfl ?_; intro S1 hl; refine zg ?_
    refine done_ret (ress_cell rfl (lN (z := 2) (hl.get 1 rfl) rfl) (ress_tmp rfl rfl)) ⟨hl.keep, by rw [mkE_4 h8 h16 h37]; rfl⟩
end Go.Proofs.YtgiibikieblicaaGreatDoor
namespace Go.Proofs.YtgiibikieblicaaGreatDoor
open Go.Cm Go
set_option maxRecDepth 100000
variable {S : St}
noncomputable def cd116 : Code := Tryz.f116.body.getD .skip
theorem spec116 (a b : Ti) (hF : Fresh S) : CC Tryz.prog KK 116 [a.v, b.v] S (fun v S' => Keep S S' ∧ v = r2 (addE a b)) := by
 refine cc_enter (c := cd116) (n := 34) Tryz.func116 rfl rfl rfl (by kernel_rfl) rfl rfl ?_
 have hl := Hold.start S
 refine zg ?_; refine re_boxL hl rfl rfl rfl rfl rfl rfl ?_; intro B2 S2 hl; refine re_boxL hl rfl rfl rfl rfl rfl rfl ?_; intro B3 S3 hl; refine re_allocL hl rfl rfl rfl rfl rfl (z := [.int .i64 0, .int .i64 0]) (by kernel_rfl) ?_; intro B4 S4 hl; refine zg ?_; refine re_buildSliceR hl rfl rfl rfl rfl rfl Tryz.underlying116 rfl (c := ([a, b].map Ti.cells).flatten) (by kernel_rfl) ?_; intro B9 S1 hr9 hl
 refine zc hl rfl (spec118 (some ⟨B9, 0, none⟩) 2 [a, b] (by simp) (LsOf.row (fun _ => rfl) hr9 rfl)) ?_; rintro v S1 hk1 rfl hl
 refine zg ?_
 constructor <;> intro h12
 ·
  refine zg ?_; refine rr rfl (rd_build rfl rfl (v := aggL [.int .i64 0, .int .i64 0]) (by rfl)) ?_; refine zg ?_; refine re_storeL hl 0 rfl rfl rfl rfl rfl rfl rfl (by kernel_rfl) rfl ?_; intro S1 hl; refine zg ?_
  refine thn_ret (done_ret (ress_cell rfl (lN (z := 2) (hl.get 0 rfl) rfl) (ress_tmp rfl rfl)) ⟨hl.keep, by rw [addE_1 h12]; rfl⟩)
 ·
  have hbd := firstBd h12
  refine zg ?_
  refine zc hl rfl (spec119 _ _ (hl.keep.3 hF) (by omega) (by omega)) ?_; rintro v S1 hk1 rfl hl
  refine zg ?_; refine re_storeL hl 0 rfl rfl rfl rfl rfl rfl rfl (by kernel_rfl) rfl ?_; intro S1 hl; refine zg ?_
  refine done_ret (ress_cell rfl (lN (z := 2) (hl.get 0 rfl) rfl) (ress_tmp rfl rfl)) ⟨hl.keep, by rw [addE_2 h12]; rfl⟩
noncomputable def cd89 : Code := Tryz.f89.body.getD .skip
theorem spec89 (a b : Ti) (hF : Fresh S) : CC Tryz.prog KK 89 [a.v, b.v] S (fun v S' => Keep S S' ∧ v = r2 (subE a b)) := by
 refine cc_enter (c := cd89) (n := 34) Tryz.func89 rfl rfl rfl (by kernel_rfl) rfl rfl ?_
 have hl := Hold.start S
 refine zg ?_; refine re_boxL hl rfl rfl rfl rfl rfl rfl ?_; intro B2 S2 hl; refine re_boxL hl rfl rfl rfl rfl rfl rfl ?_; intro B3 S3 hl; refine re_allocL hl rfl rfl rfl rfl rfl (z := [.int .i64 0, .int .i64 0]) (by kernel_rfl) ?_; intro B4 S4 hl; refine zg ?_; refine re_buildSliceR hl rfl rfl rfl rfl rfl Tryz.underlying116 rfl (c := ([a, b].map Ti.cells).flatten) (by kernel_rfl) ?_; intro B9 S1 hr9 hl
 refine zc hl rfl (spec118 (some ⟨B9, 0, none⟩) 2 [a, b] (by simp) (LsOf.row (fun _ => rfl) hr9 rfl)) ?_; rintro v S1 hk1 rfl hl
 refine zg ?_
 constructor <;> intro h12
 ·
  refine zg ?_; refine rr rfl (rd_build rfl rfl (v := aggL [.int .i64 0, .int .i64 0]) (by rfl)) ?_; refine zg ?_; refine re_storeL hl 0 rfl rfl rfl rfl rfl rfl rfl (by kernel_rfl) rfl ?_; intro S1 hl; refine zg ?_
  refine thn_ret (done_ret (ress_cell rfl (lN (z := 2) (hl.get 0 rfl) rfl) (ress_tmp rfl rfl)) ⟨hl.keep, by rw [subE_1 h12]; rfl⟩)
 ·
  have hbd := firstBd h12
  refine zg ?_
  refine zc hl rfl (spec119 _ _ (hl.keep.3 hF) (by omega) (by omega)) ?_; rintro v S1 hk1 rfl hl
  refine zg ?_; refine re_storeL hl 0 rfl rfl rfl rfl rfl rfl rfl (by kernel_rfl) rfl ?_; intro S1 hl; refine zg ?_
  refine done_ret (ress_cell rfl (lN (z := 2) (hl.get 0 rfl) rfl) (ress_tmp rfl rfl)) ⟨hl.keep, by rw [subE_2 h12]; rfl⟩
end Go.Proofs.YtgiibikieblicaaGreatDoor
namespace Go.Proofs.YtgiibikieblicaaGreatDoor
open Go.Cm Go
set_option maxRecDepth 100000
variable {S : St}
noncomputable def cd120 : Code := Tryz.f120.body.getD .skip
theorem spec120 (a b : Ti) : CC Tryz.prog KK 120 [a.v, b.v] S (fun v S' => Keep S S' ∧ v = tupV [.int .i64 (cmpE a b).1, .int .i64 (cmpE a b).2]) := by
 refine cc_enter (c := cd120) (n := 32) Tryz.func120 rfl rfl rfl (by kernel_rfl) rfl rfl ?_
 have hl := Hold.start S
 refine zg ?_; refine re_boxL hl rfl rfl rfl rfl rfl rfl ?_; intro B2 S2 hl; refine re_boxL hl rfl rfl rfl rfl rfl rfl ?_; intro B3 S3 hl; refine zg ?_; refine re_buildSliceR hl rfl rfl rfl rfl rfl Tryz.underlying116 rfl (c := ([a, b].map Ti.cells).flatten) (by kernel_rfl) ?_; intro B10 S1 hr10 hl
 refine zc hl rfl (spec118 (some ⟨B10, 0, none⟩) 2 [a, b] (by simp) (LsOf.row (fun _ => rfl) hr10 rfl)) ?_; rintro v S1 hk1 rfl hl
 refine zg ?_
 constructor <;> intro h13
 ·
  refine zg ?_
  exact (z2 rfl rfl ⟨hl.keep, by rw [cmpE_1 h13]⟩)
 ·
  have hbd := firstBd h13
  refine zg ?_
  constructor <;> intro h26
  ·
   refine zg ?_
   refine blk_ret ((z2 rfl rfl ⟨hl.keep, by rw [cmpE_2 h13, sgn_1 h26]⟩))
  ·
   refine zg ?_
   constructor <;> intro h29
   ·
    refine zg ?_
    refine blk_ret ((z2 rfl rfl ⟨hl.keep, by rw [cmpE_2 h13, sgn_2 h26 h29]⟩))
   ·
    refine zg ?_
    refine y2 rfl rfl ⟨hl.keep, by rw [cmpE_2 h13, sgn_3 h26 h29]⟩
noncomputable def cd90 : Code := Tryz.f90.body.getD .skip
theorem spec90 (a b : Ti) : CC Tryz.prog KK 90 [a.v, b.v] S (fun v S' => Keep S S' ∧ v = .int .i64 (cmpE a b).1) := by
 refine cc_enter (c := cd90) (n := 14) Tryz.func90 rfl rfl rfl (by kernel_rfl) rfl rfl ?_
 have hl := Hold.start S
 refine zg ?_; refine re_boxL hl rfl rfl rfl rfl rfl rfl ?_; intro B2 S2 hl; refine re_boxL hl rfl rfl rfl rfl rfl rfl ?_; intro B3 S3 hl; refine zg ?_
 refine zc hl rfl (spec120 a b) ?_; rintro v S1 hk1 rfl hl
 refine zg ?_
 refine y1 rfl ⟨hl.keep, rfl⟩
end Go.Proofs.YtgiibikieblicaaGreatDoor
namespace Go.Proofs.YtgiibikieblicaaGreatDoor
open Go.Cm Go
set_option maxRecDepth 100000
variable {S : St}
noncomputable def cd92 : Code := Tryz.f92.body.getD .skip
theorem spec92 (p : Pt) : CC Tryz.prog KK 92 [p.v] S (fun v S' => Keep S S' ∧ v = .int .i64 (pE p)) := by
 refine cc_enter (c := cd92) (n := 31) Tryz.func92 rfl rfl rfl (by kernel_rfl) rfl rfl ?_
 have hl := Hold.start S
 refine zg ?_; refine re_boxL hl rfl rfl rfl rfl rfl rfl ?_; intro B1 S1 hl; refine zA ?_; refine xp_seq rfl ?_; refine xp_seq rfl (xe_toE hl 30 (.bool (pB p)) ?_ rfl ?_)
 ·
  refine zg ?_; refine re_bool (d := 6) rfl (fun h6 => ?_) (fun h6 => ?_)
  ·
   refine zg ?_
   exact ⟨rfl, bl (by unfold pB; rw [h6]; rfl), sB, hl⟩
  ·
   refine zg ?_; refine re_bool (d := 11) rfl (fun h11 => ?_) (fun h11 => ?_)
   ·
    refine zg ?_
    exact ⟨rfl, bl (by unfold pB; rw [h6, h11]; rfl), sB, hl⟩
   ·
    refine zg ?_; refine re_bool (d := 16) rfl (fun h16 => ?_) (fun h16 => ?_)
    ·
     refine zg ?_
     exact ⟨rfl, bl (by unfold pB; rw [h6, h11, h16]; rfl), sB, hl⟩
    ·
     refine zg ?_; refine re_bool (d := 21) rfl (fun h21 => ?_) (fun h21 => ?_)
     ·
      refine zg ?_
      exact ⟨rfl, bl (by unfold pB; rw [h6, h11, h16, h21]; rfl), sB, hl⟩
     ·
      refine zg ?_; refine re_bool (d := 26) rfl (fun h26 => ?_) (fun h26 => ?_)
      ·
       refine zg ?_
       exact ⟨rfl, bl (by unfold pB; rw [h6, h11, h16, h21, h26]; rfl), sB, hl⟩
      ·
       refine zg ?_
       exact ⟨rfl, bl (by unfold pB; rw [h6, h11, h16, h21, h26]; rfl), sB, hl⟩
 intro S1 hl
 refine zg ?_
 constructor <;> intro h30
 ·
  refine zg ?_
  exact (z1 rfl ⟨hl.keep, congrArg (Value.int .i64) (pE_1 h30).symm⟩)
 ·
  refine zg ?_
  refine y1 rfl ⟨hl.keep, congrArg (Value.int .i64) (pE_2 h30).symm⟩
noncomputable def cd93 : Code := Tryz.f93.body.getD .skip
theorem spec93 (p : Pt) (hp : pB p = false) : CC Tryz.prog KK 93 [p.v] S (fun v S' => Keep S S' ∧ v = aggL [.int .i64 (numI p), .int .i64 p.a]) := by
 refine cc_enter (c := cd93) (n := 12) Tryz.func93 rfl rfl rfl (by kernel_rfl) rfl rfl ?_
 have hl := Hold.start S
 have hb := pB_ok hp
 refine zg ?_; refine re_boxL hl rfl rfl rfl rfl rfl rfl ?_; intro B1 S1 hl; refine re_allocL hl rfl rfl rfl rfl rfl (z := [.int .i64 0, .int .i64 0]) (by kernel_rfl) ?_; intro B2 S2 hl; refine zg ?_; refine rr rfl (rd_build rfl rfl (v := aggL [.int .i64 (numI p), .int .i64 p.a]) (by rfl)) ?_; refine re_storeL hl 0 rfl rfl rfl rfl rfl rfl rfl (by kernel_rfl) rfl ?_; intro S1 hl; refine zg ?_
 refine done_ret (ress_cell rfl (lN (z := 2) (hl.get 0 rfl) rfl) rfl) ⟨hl.keep, rfl⟩
noncomputable def cd127 : Code := Tryz.f127.body.getD .skip
theorem spec127 (k a : Int) (hG : Gl S) (h0 : 0 ≤ k) (h1 : k ≤ 62) (h2 : -1 ≤ a) (h3 : a ≤ 1) : CC Tryz.prog KK 127 [aggL [.int .i64 k, .int .i64 a]] S (fun v S' => Keep S S' ∧ v = .int .i64 (hgtI k a)) := by
 refine cc_enter (c := cd127) (n := 16) Tryz.func127 rfl rfl rfl (by kernel_rfl) rfl rfl ?_
 have hl := Hold.start S
 have hq := quo_bd (a := k) (b := 7) (by omega) h0
 have hr := rem_bd (a := k) (b := 7) (by omega) h0
 have hh := half_bd hr.1 hr.2
 refine zg ?_; refine re_boxL hl rfl rfl rfl rfl rfl rfl ?_; intro B1 S1 hl; refine zg ?_; refine xp_draw (idx := [0, 1, 2, 3, 4, 5, 6, 7, 8, 9, 10, 11, 12, 13]) rfl (by kernel_rfl) (by kernel_rfl) ?_; refine pr rfl (rd_fieldAddr rfl rfl (fa Tryz.underlying163 az163 rfl)) ?_; refine pk rfl (rd_load rfl rfl (l1 (hl.get 0 rfl) rfl)) ?_; refine pr rfl (rd_bin rfl rfl rfl (quoV (by omega) (by omega) (by omega))) ?_; refine zg ?_; refine pr rfl (rd_bin rfl rfl rfl (remV (by omega))) ?_
 refine pr rfl (rd_indexAddr rfl rfl rfl (indexAddr_array (b := 1) (o := 0) (len := 7) (z := 1) Tryz.underlying187 (by kernel_rfl) ⟨hr.1, hr.2⟩)) ?_; refine pk rfl (rd_load rfl rfl (l1 (hG.keep hl.keep).2.2 (halves_at hr.1 hr.2))) ?_; refine zA ?_; refine xp_ret rfl ?_
 refine done_ret (ress_tmp rfl rfl) ⟨hl.keep, rfl⟩
end Go.Proofs.YtgiibikieblicaaGreatDoor
namespace Go.Proofs.YtgiibikieblicaaGreatDoor
open Go.Cm Go
set_option maxRecDepth 100000
variable {S : St}
noncomputable def cd62 : Code := Tryz.f62.body.getD .skip
theorem spec62 (p : Pt) : CC Tryz.prog KK 62 [p.v] S (fun v S' => Keep S S' ∧ v = tupV [.int .i64 (numE p).1, .int .i64 (numE p).2]) := by
 refine cc_enter (c := cd62) (n := 13) Tryz.func62 rfl rfl rfl (by kernel_rfl) rfl rfl ?_
 have hl := Hold.start S
 refine zg ?_; refine re_boxL hl rfl rfl rfl rfl rfl rfl ?_; intro B1 S1 hl; refine zg ?_
 refine zc hl rfl (spec92 p) ?_; rintro v S1 hk1 rfl hl
 refine zg ?_
 constructor <;> intro h8
 ·
  refine zg ?_
  exact (z2 rfl rfl ⟨hl.keep, by unfold numE; rw [pE_yes h8, pE_1 (pE_yes h8)]; rfl⟩)
 ·
  refine zg ?_
  refine zc hl rfl (spec93 p (pE_no h8)) ?_; rintro v S1 hk1 rfl hl
  refine rr rfl (rd_field rfl rfl (field1_of Tryz.underlying163 rfl (by kernel_rfl) rfl)) ?_; refine zg ?_
  refine y2 rfl rfl ⟨hl.keep, by unfold numE; rw [pE_no h8]; rfl⟩
noncomputable def cd122 : Code := Tryz.f122.body.getD .skip
theorem spec122 (p : Pt) (hG : Gl S) : CC Tryz.prog KK 122 [p.v] S (fun v S' => Keep S S' ∧ v = tupV [.int .i64 (hgtE p).1, .int .i64 (hgtE p).2]) := by
 refine cc_enter (c := cd122) (n := 13) Tryz.func122 rfl rfl rfl (by kernel_rfl) rfl rfl ?_
 have hl := Hold.start S
 refine zg ?_; refine re_boxL hl rfl rfl rfl rfl rfl rfl ?_; intro B1 S1 hl; refine zg ?_
 refine zc hl rfl (spec92 p) ?_; rintro v S1 hk1 rfl hl
 refine zg ?_
 constructor <;> intro h8
 ·
  refine zg ?_
  exact (z2 rfl rfl ⟨hl.keep, by unfold hgtE; rw [pE_yes h8, pE_1 (pE_yes h8)]; rfl⟩)
 ·
  have hb := num_bd (pE_no h8)
  have hb2 := pB_ok (pE_no h8)
  refine zg ?_
  refine zc hl rfl (spec93 p (pE_no h8)) ?_; rintro v S1 hk1 rfl hl
  refine zc hl rfl (spec127 _ _ (hG.keep hl.keep) hb.1 hb.2 hb2.2.2.2.2.1 hb2.2.2.2.2.2) ?_; rintro v S1 hk1 rfl hl
  refine zg ?_
  refine y2 rfl rfl ⟨hl.keep, by unfold hgtE; rw [pE_no h8]; rfl⟩
end Go.Proofs.YtgiibikieblicaaGreatDoor
namespace Go.Proofs.YtgiibikieblicaaGreatDoor
open Go.Cm Go
set_option maxRecDepth 100000
variable {S : St}
noncomputable def cd121 : Code := Tryz.f121.body.getD .skip
theorem spec121 (p q : Pt) (hF : Fresh S) (hG : Gl S) : CC Tryz.prog KK 121 [p.v, q.v] S (fun v S' => Keep S S' ∧ v = ri (btwE p q)) := by
 refine cc_enter (c := cd121) (n := 39) Tryz.func121 rfl rfl rfl (by kernel_rfl) rfl rfl ?_
 have hl := Hold.start S
 refine zg ?_; refine re_boxL hl rfl rfl rfl rfl rfl rfl ?_; intro B2 S2 hl; refine re_boxL hl rfl rfl rfl rfl rfl rfl ?_; intro B3 S3 hl; refine re_allocL hl rfl rfl rfl rfl rfl (z := [.int .i64 0, .int .i64 0]) (by kernel_rfl) ?_; intro B4 S4 hl; refine zg ?_; refine rr rfl (rd_build rfl rfl (v := aggL (([p, q].map Pt.cells).flatten)) (by rfl)) ?_; refine zA ?_; refine xp_block rfl ?_
 -- LOOP
 refine xe_sub (L' := [(14, .int .i64 0), (13, aggL (([p, q].map Pt.cells).flatten)), (5, .int .i64 0), (4, ptrTo B4 0), (3, ptrTo B3 0), (2, ptrTo B2 0)]) ⟨rfl, rfl, rfl, rfl, rfl, rfl, trivial⟩ ?_
 refine xp_loop rfl (fun m Le S' => ∃ i : Nat, i ≤ 2 ∧ m = 2 - i ∧ SubE [(14, .int .i64 (i : Int)), (13, aggL (([p, q].map Pt.cells).flatten)), (5, .int .i64 0), (4, ptrTo B4 0), (3, ptrTo B3 0), (2, ptrTo B2 0)] Le ∧ fstP ([p, q].drop i) = fstP [p, q] ∧ Hold S [S] S' [(B4, .cells [.int .i64 0, .int .i64 0] 137 false true []), (B3, .cells q.cells 52 false true []), (B2, .cells p.cells 52 false true [])]) ?_ (m := 2) ⟨0, by omega, rfl, ⟨rfl, rfl, rfl, rfl, rfl, rfl, trivial⟩, rfl, hl⟩
 clear hl; rintro m Le S' ⟨i, hi, rfl, hsub, hin, hl⟩; refine xe_sub hsub ?_
 refine zg ?_
 constructor <;> intro h15
 ·
  have hlt : i < 2 := by have := of_decide_eq_true h15; omega
  obtain ⟨x, hx⟩ := nth_some (l := [p, q]) hlt
  refine zg ?_; refine rr rfl (rd_index rfl rfl rfl (index_arrayF (f := Pt.cells) (x := x) (C := [p, q]) (i := (i : Int)) (z := 3) (len := 2) Tryz.underlying184 (by kernel_rfl) (by kernel_rfl) (fun _ => rfl) ⟨by omega, by omega⟩ hx)) ?_; refine re_allocL hl rfl rfl rfl rfl rfl (z := [.int .i64 0, .int .i64 0, .int .i64 0]) (by kernel_rfl) ?_; intro B7 S7 hl; refine re_storeL hl 0 rfl rfl rfl rfl rfl rfl rfl (by kernel_rfl) rfl ?_; intro S1 hl; refine zg ?_
  refine zc hl rfl (spec92 x) ?_; rintro v S1 hk1 rfl hl
  refine zg ?_
  constructor <;> intro h20
  ·
   refine zg ?_; refine rr rfl (rd_build rfl rfl (v := aggL [.int .i64 0, .int .i64 0]) (by rfl)) ?_; refine zg ?_; refine re_storeL hl 1 rfl rfl rfl rfl rfl rfl rfl (by kernel_rfl) rfl ?_; intro S1 hl; refine zg ?_
   refine blk_ret (thn_ret (round_ret (blk_ret (thn_ret (done_ret (ress_cell rfl (lN (z := 2) (hl.get 1 rfl) rfl) (ress_tmp rfl rfl)) ⟨hl.keep, by have hx2 : fstP [p, q] = pE x := (by rw [← hin, drop_nth' hx]; exact (fstP_bad h20)); rw [btw_1 (fstP_ne hx2 h20), hx2]; rfl⟩)))))
  ·
   refine zg ?_
   exact ⟨2 - (i + 1), by omega, i + 1, by omega, rfl, ⟨rfl, rfl, rfl, rfl, rfl, rfl, trivial⟩, by rw [← fstP_go h20, ← drop_nth' hx]; exact hin, hl.tail⟩
 ·
  have h0 : fstP [p, q] = 0 := by rw [← hin, List.drop_eq_nil_of_le (by have := of_decide_eq_false h15; simp; omega)]; rfl
  have hb := fstP2 h0
  have hn1 := num_bd hb.1
  have hn2 := num_bd hb.2
  have hp := pB_ok hb.1
  have hq := pB_ok hb.2
  have hg1 := hgt_bd hn1.1 hn1.2 hp.2.2.2.2.1 hp.2.2.2.2.2
  have hg2 := hgt_bd hn2.1 hn2.2 hq.2.2.2.2.1 hq.2.2.2.2.2
  refine zg ?_; refine xp_draw (idx := [0, 2, 4, 5, 1, 3, 6, 7]) rfl (by kernel_rfl) (by kernel_rfl) ?_; refine zg ?_; refine rp_allocL hF hl rfl rfl rfl rfl rfl (z := [.int .i64 0, .int .i64 0]) (by kernel_rfl) ?_; intro B9 S9 hl; refine rp_allocL hF hl rfl rfl rfl rfl rfl (z := [.int .i64 0, .int .i64 0]) (by kernel_rfl) ?_; intro B10 S10 hl
  refine zp hl rfl (spec93 p hb.1) ?_; rintro v S1 hk1 rfl hl; refine ⟨zt, ?_⟩
  refine zp hl rfl (spec93 q hb.2) ?_; rintro v S1 hk1 rfl hl; refine ⟨zt, ?_⟩
  refine rp_storeL hl 1 rfl rfl rfl rfl rfl rfl rfl (by kernel_rfl) rfl ?_; intro S1 hl; refine ⟨stays_all (by kernel_rfl), ?_⟩
  refine rp_storeL hl 0 rfl rfl rfl rfl rfl rfl rfl (by kernel_rfl) rfl ?_; intro S1 hl; refine ⟨stays_all (by kernel_rfl), ?_⟩
  refine zg ?_; refine xp_draw (idx := [0, 1, 2, 3, 4, 5, 7, 6, 8, 9, 10, 11, 12]) rfl (by kernel_rfl) (by kernel_rfl) ?_; refine zg ?_
  refine zp hl rfl (spec127 _ _ (hG.keep hl.keep) hn2.1 hn2.2 hq.2.2.2.2.1 hq.2.2.2.2.2) ?_; rintro v S1 hk1 rfl hl; refine ⟨zt, ?_⟩
  refine zp hl rfl (spec127 _ _ (hG.keep hl.keep) hn1.1 hn1.2 hp.2.2.2.2.1 hp.2.2.2.2.2) ?_; rintro v S1 hk1 rfl hl; refine ⟨zt, ?_⟩
  refine zg ?_; refine pr rfl (rd_build rfl rfl (v := aggL [.int .i64 (numI q - numI p), .int .i64 (hgtI (numI q) q.a - hgtI (numI p) p.a)]) (by rfl)) ?_
  refine rp_storeL hl 2 rfl rfl rfl rfl rfl rfl rfl (by kernel_rfl) rfl ?_; intro S1 hl; refine ⟨stays_all (by kernel_rfl), ?_⟩
  refine zg ?_
  refine done_ret (ress_cell rfl (lN (z := 2) (hl.get 2 rfl) rfl) (ress_tmp rfl rfl)) ⟨hl.keep, by rw [btw_2 h0]; rfl⟩
end Go.Proofs.YtgiibikieblicaaGreatDoor
namespace Go.Proofs.YtgiibikieblicaaGreatDoor
open Go.Cm Go
set_option maxRecDepth 100000
variable {S : St}
noncomputable def cd97 : Code := Tryz.f97.body.getD .skip
theorem spec97 (p q : Pt) (hG : Gl S) : CC Tryz.prog KK 97 [p.v, q.v] S (fun v S' => Keep S S' ∧ v = tupV [(lowE p q).1.v, (lowE p q).2.v]) := by
 refine cc_enter (c := cd97) (n := 51) Tryz.func97 rfl rfl rfl (by kernel_rfl) rfl rfl ?_
 have hl := Hold.start S
 refine zg ?_; refine re_boxL hl rfl rfl rfl rfl rfl rfl ?_; intro B2 S2 hl; refine re_boxL hl rfl rfl rfl rfl rfl rfl ?_; intro B3 S3 hl; refine re_allocL hl rfl rfl rfl rfl rfl (z := [.int .i64 0, .int .i64 0, .int .i64 0]) (by kernel_rfl) ?_; intro B4 S4 hl; refine re_allocL hl rfl rfl rfl rfl rfl (z := [.int .i64 0, .int .i64 0, .int .i64 0]) (by kernel_rfl) ?_; intro B5 S5 hl; refine zg ?_
 refine zc hl rfl (spec62 p) ?_; rintro v S1 hk1 rfl hl
 refine zg ?_
 refine zc hl rfl (spec62 q) ?_; rintro v S1 hk1 rfl hl
 refine zg ?_
 refine zc hl rfl (spec122 p (hG.keep hl.keep)) ?_; rintro v S1 hk1 rfl hl
 refine zg ?_
 refine zc hl rfl (spec122 q (hG.keep hl.keep)) ?_; rintro v S1 hk1 rfl hl
 refine zA ?_; refine xp_seq rfl ?_; refine xp_seq rfl (xe_toE hl 46 (.bool (lowB p q)) ?_ rfl ?_)
 ·
  refine zg ?_; refine re_bool (d := 37) rfl (fun h37 => ?_) (fun h37 => ?_)
  ·
   refine zg ?_
   exact ⟨rfl, bl (by unfold lowB; rw [h37]; rfl), sB, hl⟩
  ·
   refine zg ?_; refine re_bool (d := 41) rfl (fun h41 => ?_) (fun h41 => ?_)
   ·
    refine zg ?_
    exact ⟨rfl, bl (by unfold lowB; rw [h37, h41]; rfl), sB, hl⟩
   ·
    refine zg ?_
    exact ⟨rfl, bl (by unfold lowB; rw [h37, h41]; rfl), sB, hl⟩
 intro S1 hl
 refine zg ?_
 constructor <;> intro h46
 ·
  refine zg ?_; refine xp_draw (idx := [0, 1, 2, 3]) rfl (by kernel_rfl) (by kernel_rfl) ?_; refine zg ?_
  refine rp_storeL hl 1 rfl rfl rfl rfl rfl rfl rfl (by kernel_rfl) rfl ?_; intro S1 hl; refine ⟨zt, ?_⟩
  refine rp_storeL hl 0 rfl rfl rfl rfl rfl rfl rfl (by kernel_rfl) rfl ?_; intro S1 hl; refine ⟨zt, ?_⟩
  refine zg ?_
  refine thn_ret (done_ret (ress_cell rfl (lN (z := 3) (hl.get 1 rfl) rfl) (ress_cell rfl (lN (z := 3) (hl.get 0 rfl) rfl) rfl)) ⟨hl.keep, by rw [low_1 h46]; rfl⟩)
 ·
  refine zg ?_; refine xp_draw (idx := [0, 1, 2, 3]) rfl (by kernel_rfl) (by kernel_rfl) ?_; refine zg ?_
  refine rp_storeL hl 1 rfl rfl rfl rfl rfl rfl rfl (by kernel_rfl) rfl ?_; intro S1 hl; refine ⟨zt, ?_⟩
  refine rp_storeL hl 0 rfl rfl rfl rfl rfl rfl rfl (by kernel_rfl) rfl ?_; intro S1 hl; refine ⟨zt, ?_⟩
  refine zg ?_
  refine done_ret (ress_cell rfl (lN (z := 3) (hl.get 1 rfl) rfl) (ress_cell rfl (lN (z := 3) (hl.get 0 rfl) rfl) rfl)) ⟨hl.keep, by rw [low_2 h46]; rfl⟩
noncomputable def cd94 : Code := Tryz.f94.body.getD .skip
theorem spec94 (p q : Pt) (hF : Fresh S) (hG : Gl S) : CC Tryz.prog KK 94 [p.v, q.v] S (fun v S' => Keep S S' ∧ v = ri (bwE p q)) := by
 refine cc_enter (c := cd94) (n := 33) Tryz.func94 rfl rfl rfl (by kernel_rfl) rfl rfl ?_
 have hl := Hold.start S
 refine zg ?_; refine re_boxL hl rfl rfl rfl rfl rfl rfl ?_; intro B2 S2 hl; refine re_boxL hl rfl rfl rfl rfl rfl rfl ?_; intro B3 S3 hl; refine re_allocL hl rfl rfl rfl rfl rfl (z := [.int .i64 0, .int .i64 0]) (by kernel_rfl) ?_; intro B4 S4 hl; refine zg ?_
 refine zc hl rfl (spec92 p) ?_; rintro v S1 hk1 rfl hl
 refine zg ?_
 constructor <;> intro h13
 ·
  refine zg ?_; refine rr rfl (rd_build rfl rfl (v := aggL [.int .i64 0, .int .i64 0]) (by rfl)) ?_; refine zg ?_; refine re_storeL hl 0 rfl rfl rfl rfl rfl rfl rfl (by kernel_rfl) rfl ?_; intro S1 hl; refine zg ?_
  refine thn_ret (done_ret (ress_cell rfl (lN (z := 2) (hl.get 0 rfl) rfl) (ress_tmp rfl rfl)) ⟨hl.keep, by rw [bw_1 h13]; rfl⟩)
 ·
  refine zg ?_
  refine zc hl rfl (spec92 q) ?_; rintro v S1 hk1 rfl hl
  refine zg ?_
  constructor <;> intro h19
  ·
   refine zg ?_; refine rr rfl (rd_build rfl rfl (v := aggL [.int .i64 0, .int .i64 0]) (by rfl)) ?_; refine zg ?_; refine re_storeL hl 0 rfl rfl rfl rfl rfl rfl rfl (by kernel_rfl) rfl ?_; intro S1 hl; refine zg ?_
   refine thn_ret (done_ret (ress_cell rfl (lN (z := 2) (hl.get 0 rfl) rfl) (ress_tmp rfl rfl)) ⟨hl.keep, by rw [bw_2 h13 h19]; rfl⟩)
  ·
   refine zg ?_
   refine zc hl rfl (spec97 p q (hG.keep hl.keep)) ?_; rintro v S1 hk1 rfl hl
   refine zg ?_; refine re_allocL hl rfl rfl rfl rfl rfl (z := [.int .i64 0, .int .i64 0, .int .i64 0]) (by kernel_rfl) ?_; intro B8 S8 hl; refine re_allocL hl rfl rfl rfl rfl rfl (z := [.int .i64 0, .int .i64 0, .int .i64 0]) (by kernel_rfl) ?_; intro B9 S9 hl; refine re_storeL hl 1 rfl rfl rfl rfl rfl rfl rfl (by kernel_rfl) rfl ?_; intro S1 hl; refine re_storeL hl 0 rfl rfl rfl rfl rfl rfl rfl (by kernel_rfl) rfl ?_; intro S1 hl; refine zg ?_
   refine zc hl rfl (spec121 (lowE p q).1 (lowE p q).2 (hl.keep.3 hF) (hG.keep hl.keep)) ?_; rintro v S1 hk1 rfl hl
   refine zg ?_; refine re_storeL hl 2 rfl rfl rfl rfl rfl rfl rfl (by kernel_rfl) rfl ?_; intro S1 hl; refine zg ?_
   refine done_ret (ress_cell rfl (lN (z := 2) (hl.get 2 rfl) rfl) (ress_tmp rfl rfl)) ⟨hl.keep, by rw [bw_3 h13 h19]; rfl⟩
noncomputable def cd95 : Code := Tryz.f95.body.getD .skip
theorem spec95 (i : Iv) (h0 : 0 ≤ i.st) (h1 : i.st ≤ 62) (h2 : -5000 ≤ i.hf) (h3 : i.hf ≤ 5000) : CC Tryz.prog KK 95 [i.v] S (fun v S' => Keep S S' ∧ v = (spI i).v) := by
 refine cc_enter (c := cd95) (n := 14) Tryz.func95 rfl rfl rfl (by kernel_rfl) rfl rfl ?_
 have hl := Hold.start S
 have hq := quo_bd (a := i.st) (b := 7) (by omega) h0
 refine zg ?_; refine re_boxL hl rfl rfl rfl rfl rfl rfl ?_; intro B1 S1 hl; refine re_allocL hl rfl rfl rfl rfl rfl (z := [.int .i64 0, .int .i64 0]) (by kernel_rfl) ?_; intro B2 S2 hl; refine zg ?_; refine rr rfl (rd_bin rfl rfl rfl (remV (by omega))) ?_; refine rr rfl (rd_fieldAddr rfl rfl (fa Tryz.underlying137 az137 rfl)) ?_; refine rr rfl (rd_load rfl rfl (l1 (hl.get 1 rfl) rfl)) ?_; refine rr rfl (rd_fieldAddr rfl rfl (fa Tryz.underlying137 az137 rfl)) ?_; refine rr rfl (rd_load rfl rfl (l1 (hl.get 1 rfl) rfl)) ?_
 refine rr rfl (rd_bin rfl rfl rfl (quoV (by omega) (by omega) (by omega))) ?_; refine zg ?_; refine rr rfl (rd_build rfl rfl (v := aggL [.int .i64 (i.st.tmod 7), .int .i64 (i.hf - 12 * (i.st.tdiv 7))]) (by rfl)) ?_; refine re_storeL hl 0 rfl rfl rfl rfl rfl rfl rfl (by kernel_rfl) rfl ?_; intro S1 hl; refine zg ?_
 refine done_ret (ress_cell rfl (lN (z := 2) (hl.get 0 rfl) rfl) rfl) ⟨hl.keep, rfl⟩
noncomputable def cd64 : Code := Tryz.f64.body.getD .skip
theorem spec64 (p q : Pt) (hF : Fresh S) (hG : Gl S) : CC Tryz.prog KK 64 [p.v, q.v] S (fun v S' => Keep S S' ∧ v = ri (spE p q)) := by
 refine cc_enter (c := cd64) (n := 20) Tryz.func64 rfl rfl rfl (by kernel_rfl) rfl rfl ?_
 have hl := Hold.start S
 refine zg ?_; refine re_boxL hl rfl rfl rfl rfl rfl rfl ?_; intro B2 S2 hl; refine re_boxL hl rfl rfl rfl rfl rfl rfl ?_; intro B3 S3 hl; refine re_allocL hl rfl rfl rfl rfl rfl (z := [.int .i64 0, .int .i64 0]) (by kernel_rfl) ?_; intro B4 S4 hl; refine zg ?_
 refine zc hl rfl (spec94 p q (hl.keep.3 hF) (hG.keep hl.keep)) ?_; rintro v S1 hk1 rfl hl
 refine zg ?_; refine re_allocL hl rfl rfl rfl rfl rfl (z := [.int .i64 0, .int .i64 0]) (by kernel_rfl) ?_; intro B6 S6 hl; refine re_storeL hl 0 rfl rfl rfl rfl rfl rfl rfl (by kernel_rfl) rfl ?_; intro S1 hl; refine zg ?_
 constructor <;> intro h15
 ·
  refine zg ?_; refine rr rfl (rd_build rfl rfl (v := aggL [.int .i64 0, .int .i64 0]) (by rfl)) ?_; refine zg ?_; refine re_storeL hl 1 rfl rfl rfl rfl rfl rfl rfl (by kernel_rfl) rfl ?_; intro S1 hl; refine zg ?_
  refine thn_ret (done_ret (ress_cell rfl (lN (z := 2) (hl.get 1 rfl) rfl) (ress_tmp rfl rfl)) ⟨hl.keep, by rw [sp_1 h15]; rfl⟩)
 ·
  have hb := bw_bd h15
  refine zg ?_
  refine zc hl rfl (spec95 (bwE p q).1 hb.1 hb.2.1 hb.2.2.1 hb.2.2.2) ?_; rintro v S1 hk1 rfl hl
  refine re_storeL hl 1 rfl rfl rfl rfl rfl rfl rfl (by kernel_rfl) rfl ?_; intro S1 hl; refine zg ?_
  refine done_ret (ress_cell rfl (lN (z := 2) (hl.get 1 rfl) rfl) (ress_tmp rfl rfl)) ⟨hl.keep, by rw [sp_2 h15]; rfl⟩
end Go.Proofs.YtgiibikieblicaaGreatDoor
namespace Go.Proofs.YtgiibikieblicaaGreatDoor
open Go.Cm Go
set_option maxRecDepth 100000
variable {S : St}
noncomputable def cd63 : Code := Tryz.f63.body.getD .skip
theorem spec63 (p q : Pt) (hF : Fresh S) (hG : Gl S) : CC Tryz.prog KK 63 [p.v, q.v] S (fun v S' => Keep S S' ∧ v = tupV [.int .i64 (kdE p q).1, .int .i64 (kdE p q).2]) := by
 refine cc_enter (c := cd63) (n := 42) Tryz.func63 rfl rfl rfl (by kernel_rfl) rfl rfl ?_
 have hl := Hold.start S
 refine zg ?_; refine re_boxL hl rfl rfl rfl rfl rfl rfl ?_; intro B2 S2 hl; refine re_boxL hl rfl rfl rfl rfl rfl rfl ?_; intro B3 S3 hl; refine zg ?_
 refine zc hl rfl (spec64 p q (hl.keep.3 hF) (hG.keep hl.keep)) ?_; rintro v S1 hk1 rfl hl
 refine zg ?_; refine re_allocL hl rfl rfl rfl rfl rfl (z := [.int .i64 0, .int .i64 0]) (by kernel_rfl) ?_; intro B6 S6 hl; refine re_storeL hl 0 rfl rfl rfl rfl rfl rfl rfl (by kernel_rfl) rfl ?_; intro S1 hl; refine zg ?_
 constructor <;> intro h15
 ·
  refine zg ?_
  exact (z2 rfl rfl ⟨hl.keep, by rw [kd_1 h15]⟩)
 ·
  have hb := sp_bd h15
  refine xp_skip rfl ?_; refine xp_seq rfl ?_; refine xp_seq rfl (xe_toE hl 34 (.bool (kdB (spE p q).1)) ?_ rfl ?_)
  ·
   refine xp_draw (idx := [0, 1, 2, 3, 4, 5, 6, 7, 8, 9, 10, 11, 12, 13, 14, 15, 16, 17]) rfl (by kernel_rfl) (by kernel_rfl) ?_; refine zg ?_; refine rp_bool (d := 20) rfl (fun h20 => ?_) (fun h20 => ?_)
   ·
    refine zg ?_; refine rp_bool (d := 25) rfl (fun h25 => ?_) (fun h25 => ?_)
    ·
     refine zg ?_
     have hh : 0 ≤ (spE p q).1.hf ∧ (spE p q).1.hf < 13 := by simp at h20 h25; omega
     refine pr rfl (rd_indexAddr rfl rfl rfl (indexAddr_array (b := 0) (o := 0) (len := 7) (z := 13) Tryz.underlying166 (by kernel_rfl) ⟨hb.1, hb.2⟩)) ?_; refine pr rfl (rd_indexAddr rfl rfl rfl (indexAddr_array (b := 0) (o := 0 + (spE p q).1.st.toNat * 13) (len := 13) (z := 1) Tryz.underlying165 (by kernel_rfl) ⟨hh.1, hh.2⟩)) ?_; refine pk rfl (rd_load rfl rfl (l1 (hG.keep hl.keep).2.1 (kinds_at hb.1 hb.2 hh.1 hh.2))) ?_; refine zA ?_
     exact ⟨rfl, bl (by unfold kdB; rw [h20, h25]; rfl), sB, hl⟩
    ·
     refine zg ?_
     exact ⟨rfl, bl (by unfold kdB; rw [h20, h25]; rfl), sB, hl⟩
   ·
    refine zg ?_
    exact ⟨rfl, bl (by unfold kdB; rw [h20]; rfl), sB, hl⟩
  intro S1 hl
  refine zg ?_
  constructor <;> intro h34
  ·
   refine zg ?_
   have hh := kdB_ok h34
   refine xp_draw (idx := [0, 1, 2, 3, 4, 5, 6, 7, 8]) rfl (by kernel_rfl) (by kernel_rfl) ?_; refine zA ?_; refine pr rfl (rd_indexAddr rfl rfl rfl (indexAddr_array (b := 0) (o := 0) (len := 7) (z := 13) Tryz.underlying166 (by kernel_rfl) ⟨hb.1, hb.2⟩)) ?_; refine pr rfl (rd_indexAddr rfl rfl rfl (indexAddr_array (b := 0) (o := 0 + (spE p q).1.st.toNat * 13) (len := 13) (z := 1) Tryz.underlying165 (by kernel_rfl) ⟨hh.1, hh.2⟩)) ?_; refine pk rfl (rd_load rfl rfl (l1 (hG.keep hl.keep).2.1 (kinds_at hb.1 hb.2 hh.1 hh.2))) ?_; refine zA ?_; refine xp_ret rfl ?_
   refine thn_ret (done_ret (ress_tmp rfl (ress_tmp rfl rfl)) ⟨hl.keep, by rw [kd_2 h15 h34]⟩)
  ·
   refine zg ?_
   refine y2 rfl rfl ⟨hl.keep, by rw [kd_3 h15 h34]⟩
end Go.Proofs.YtgiibikieblicaaGreatDoor
namespace Go.Proofs.YtgiibikieblicaaGreatDoor
open Go.Cm Go
set_option maxRecDepth 100000
variable {S : St}
noncomputable def cd65 : Code := Tryz.f65.body.getD .skip
theorem spec65 (a : Option Addr) (cap : Nat) (C : List Pt) (hv : Pts S (.slice a C.length cap) C) : CC Tryz.prog KK 65 [.slice a C.length cap] S (fun v S' => Keep S S' ∧ v = .int .i64 (chkE C)) := by
 refine cc_enter (c := cd65) (n := 21) Tryz.func65 rfl rfl rfl (by kernel_rfl) rfl rfl ?_
 have hl := Hold.start S
 refine zg ?_
 constructor <;> intro h8
 ·
  refine zg ?_
  exact (z1 rfl ⟨hl.keep, congrArg (Value.int .i64) (chk_1 h8).symm⟩)
 ·
  refine xp_skip rfl ?_; refine xp_seq rfl ?_; refine zS ?_; refine xp_block rfl ?_
  -- LOOP
  have hn : (C.length : Int) ≤ 8 := by have := of_decide_eq_false h8; omega
  refine xe_sub (L' := [(11, .int .i64 0), (10, .int .i64 C.length), (9, .slice a C.length cap), (2, .int .i64 0)]) ⟨rfl, rfl, rfl, rfl, trivial⟩ ?_
  refine xp_loop rfl (fun m Le S' => ∃ i : Nat, i ≤ C.length ∧ m = C.length - i ∧ SubE [(11, .int .i64 (i : Int)), (10, .int .i64 C.length), (9, .slice a C.length cap), (2, .int .i64 0)] Le ∧ fstP (C.drop i) = fstP C ∧ Hold S [S] S' []) ?_ (m := C.length) ⟨0, by omega, rfl, ⟨rfl, rfl, rfl, rfl, trivial⟩, rfl, hl⟩
  clear hl; rintro m Le S' ⟨i, hi, rfl, hsub, hin, hl⟩; refine xe_sub hsub ?_
  refine zg ?_
  constructor <;> intro h12
  ·
   have hlt : i < C.length := by have := of_decide_eq_true h12; omega
   obtain ⟨x, hx⟩ := nth_some hlt
   obtain ⟨b1, o1, cs1, ha, _, hrow, htk⟩ := hv.elem hx
   refine zg ?_; refine re_allocL hl rfl rfl rfl rfl rfl (z := [.int .i64 0, .int .i64 0, .int .i64 0]) (by kernel_rfl) ?_; intro B4 S4 hl; refine re_storeL hl 0 rfl rfl rfl rfl rfl rfl rfl (by kernel_rfl) rfl ?_; intro S1 hl; refine zg ?_
   refine zc hl rfl (spec92 x) ?_; rintro v S1 hk1 rfl hl
   refine zg ?_
   constructor <;> intro h18
   ·
    refine zg ?_
    refine blk_ret (thn_ret (round_ret (blk_ret ((z1 rfl ⟨hl.keep, congrArg (Value.int .i64) (by rw [chk_2 h8, ← hin, drop_nth' hx, fstP_bad h18])⟩)))))
   ·
    refine zg ?_
    exact ⟨C.length - (i + 1), by omega, i + 1, by omega, rfl, ⟨rfl, rfl, rfl, rfl, trivial⟩, by rw [← fstP_go h18, ← drop_nth' hx]; exact hin, hl.tail⟩
  ·
   refine zg ?_
   refine y1 rfl ⟨hl.keep, congrArg (Value.int .i64) (by rw [chk_2 h8, ← hin, List.drop_eq_nil_of_le (by have := of_decide_eq_false h12; omega)]; rfl)⟩
noncomputable def cd96 : Code := Tryz.f96.body.getD .skip
theorem spec96 (a : Option Addr) (cap : Nat) (C : List Pt) (hG : Gl S) (hn : C.length ≤ 1000) (hv : Pts S (.slice a C.length cap) C) : CC Tryz.prog KK 96 [.slice a C.length cap] S (fun v S' => Keep S S' ∧ v = .int .i64 (bsE C : Nat)) := by
 refine cc_enter (c := cd96) (n := 66) Tryz.func96 rfl rfl rfl (by kernel_rfl) rfl rfl ?_
 have hl := Hold.start S
 iterate 2 refine zS ?_
 refine xp_seq rfl ?_; refine zS ?_; refine xp_block rfl ?_
 -- LOOP
 refine xe_sub (L' := [(15, .int .i64 0), (14, .int .i64 C.length), (3, .int .i64 0), (2, .int .i64 0), (0, .slice a C.length cap)]) ⟨rfl, rfl, rfl, rfl, rfl, trivial⟩ ?_
 refine xp_loop rfl (fun m Le S' => ∃ i k : Nat, i ≤ C.length ∧ m = C.length - i ∧ (0 < C.length → k < C.length) ∧ SubE [(15, .int .i64 (i : Int)), (14, .int .i64 C.length), (3, .int .i64 (k : Int)), (2, .int .i64 0), (0, .slice a C.length cap)] Le ∧ bsG C (C.drop i) i k = bsE C ∧ Hold S [S] S' []) ?_ (m := C.length) ⟨0, 0, by omega, rfl, id, ⟨rfl, rfl, rfl, rfl, rfl, trivial⟩, rfl, hl⟩
 clear hl; rintro m Le S' ⟨i, k, hi, rfl, hk, hsub, hin, hl⟩; refine xe_sub hsub ?_
 refine zg ?_
 constructor <;> intro h16
 ·
  have hlt : i < C.length := by have := of_decide_eq_true h16; omega
  have hk2 : k < C.length := hk (by omega)
  obtain ⟨x, hx⟩ := nth_some hlt
  obtain ⟨y, hy⟩ := nth_some hk2
  obtain ⟨b1, o1, cs1, ha, _, hrow, htk⟩ := hv.elem hx
  obtain ⟨b2, o2, cs2, ha2, _, hrow2, htk2⟩ := hv.elem hy
  refine zg ?_
  refine zc hl rfl (spec122 x (hG.keep hl.keep)) ?_; rintro v S1 hk1 rfl hl
  refine zg ?_
  refine zc hl rfl (spec122 y (hG.keep hl.keep)) ?_; rintro v S1 hk1 rfl hl
  refine zg ?_
  refine zc hl rfl (spec62 x) ?_; rintro v S1 hk1 rfl hl
  refine zg ?_
  refine zc hl rfl (spec62 y) ?_; rintro v S1 hk1 rfl hl
  refine zA ?_; refine xp_seq rfl (xe_toE hl 62 (.bool (bsB x y)) ?_ rfl ?_)
  ·
   refine zg ?_; refine re_bool (d := 53) rfl (fun h53 => ?_) (fun h53 => ?_)
   ·
    refine zg ?_
    exact ⟨rfl, bl (by unfold bsB; rw [h53]; rfl), sB, hl⟩
   ·
    refine zg ?_; refine re_bool (d := 57) rfl (fun h57 => ?_) (fun h57 => ?_)
    ·
     refine zg ?_
     exact ⟨rfl, bl (by unfold bsB; rw [h53, h57]; rfl), sB, hl⟩
    ·
     refine zg ?_
     exact ⟨rfl, bl (by unfold bsB; rw [h53, h57]; rfl), sB, hl⟩
  intro S1 hl
  refine zg ?_
  constructor <;> intro h62
  ·
   refine zg ?_
   exact ⟨C.length - (i + 1), by omega, i + 1, i, by omega, rfl, fun _ => hlt, ⟨rfl, rfl, rfl, rfl, rfl, trivial⟩, by rw [← bsG_yes hx hy h62]; exact hin, hl⟩
  ·
   refine zg ?_
   exact ⟨C.length - (i + 1), by omega, i + 1, k, by omega, rfl, hk, ⟨rfl, rfl, rfl, rfl, rfl, trivial⟩, by rw [← bsG_no hx hy h62]; exact hin, hl⟩
 ·
  refine zg ?_
  refine y1 rfl ⟨hl.keep, congrArg (fun n : Nat => Value.int .i64 n) (by rw [← hin, List.drop_eq_nil_of_le (by have := of_decide_eq_false h16; omega)]; rfl)⟩
end Go.Proofs.YtgiibikieblicaaGreatDoor
