/-
  Times, pitches as data. span: ratio, divisor, Check. span.first. span.Make. span.Add, Sub. span.Compare, align.compare. pitch: Check, of, tone.pitch, tone.height. pitch: Number, Height. pitch.Between.
-/
import Derived.Test.YtlnenodplgpceaaDoorWs0
import Derived.Test.YtlnenodplgpceaaDoorSy1

import Derived.Test.YtlnenodplgpceaaDoorSy2



import Derived.IntWalk
import Derived.KernelRfl
namespace Go.Proofs.YtlnenodplgpceaaDoor
open Go.Cm Go
set_option maxRecDepth 100000
variable {S : St}
def callM : FuncId → List Value → St → Option Value := fun f a _ => match a with
 | [] => bif Nat.beq f 6 then some (.bool true) else none
 | _ => none
abbrev KK : Known := kk callM
theorem nth_some {α : Type} : ∀ {l : List α} {i : Nat}, i < l.length → ∃ x, nth l i = some x
 | x :: _, 0, _ => ⟨x, rfl⟩
 | _ :: l, i + 1, h => nth_some (l := l) (i := i) (by simpa using h)
theorem nth_lt {α : Type} : ∀ {l : List α} {i : Nat} {x : α}, nth l i = some x → i < l.length
 | _ :: _, 0, _, _ => by simp
 | _ :: l, i + 1, x, h => by have := nth_lt (l := l) (i := i) (x := x) h; simp only [List.length_cons]; omega
theorem nth_map {α β : Type} (f : α → β) : ∀ {l : List α} {i : Nat} {x : α}, nth l i = some x → nth (l.map f) i = some (f x)
 | _ :: _, 0, _, h => by cases h; rfl
 | _ :: l, i + 1, x, h => nth_map f (l := l) (i := i) (x := x) h
theorem nth_none {α : Type} : ∀ {l : List α} {i : Nat}, l.length ≤ i → nth l i = none
 | [], _, _ => rfl
 | _ :: l, 0, h => by simp at h
 | _ :: l, i + 1, h => nth_none (l := l) (i := i) (by simpa using h)
theorem drop_nth' {α : Type} : ∀ {l : List α} {i : Nat} {x : α}, nth l i = some x → l.drop i = x :: l.drop (i + 1)
 | [], _, _, h => by cases h
 | y :: l, 0, x, h => by cases h; rfl
 | y :: l, i + 1, x, h => by simpa using drop_nth' (l := l) (i := i) h
theorem take_nth' {α : Type} : ∀ {l : List α} {i : Nat} {x : α}, nth l i = some x → l.take (i + 1) = l.take i ++ [x]
 | [], _, _, h => by cases h
 | y :: l, 0, x, h => by cases h; rfl
 | y :: l, i + 1, x, h => by simpa using take_nth' (l := l) (i := i) h
theorem BLs : (∀ b : Bool, (b && true) = b) ∧ (∀ b : Bool, (true && b) = b) ∧ (∀ b : Bool, (b && false) = false) ∧ (∀ b : Bool, (false && b) = false) ∧ (∀ b : Bool, (b || true) = true) ∧ (∀ b : Bool, (true || b) = true) ∧ (∀ b : Bool, (b || false) = b) ∧ (∀ b : Bool, (false || b) = b) ∧ (∀ b : Bool, (!!b) = b) ∧ (!true) = false ∧ (!false) = true :=
 ⟨Bool.and_true, Bool.true_and, Bool.and_false, Bool.false_and, Bool.or_true, Bool.true_or, Bool.or_false, Bool.false_or, Bool.not_not, rfl, rfl⟩
structure Ti where
 n : Int
 d : Int
instance : DecidableEq Ti := fun a b => decidable_of_iff (a.n = b.n ∧ a.d = b.d) ⟨fun h => by cases a; cases b; rw [Ti.mk.injEq]; exact h, fun h => by subst h; simp⟩
def Ti.cells (t : Ti) : List Value := [.int .i64 t.n, .int .i64 t.d]
def Ti.v (t : Ti) : Value := aggL t.cells
def t0 : Ti := ⟨0, 0⟩
def gI (a b : Int) : Int := ((Nat.gcd a.toNat b.toNat : Nat) : Int)
theorem gI_zero {a : Int} (h : 0 ≤ a) : gI a 0 = a := by
 unfold gI
 rw [show (0 : Int).toNat = 0 from rfl, Nat.gcd_zero_right]
 omega
theorem gI_step {a b : Int} (ha : 0 ≤ a) (hb : 0 < b) : gI b (a.tmod b) = gI a b := by
 unfold gI
 rw [Int.tmod_eq_emod_of_nonneg ha, Int.toNat_emod ha (by omega), Nat.gcd_comm a.toNat, Nat.gcd_rec b.toNat a.toNat, Nat.gcd_comm]
theorem gI_pos {a b : Int} (h : 0 < b) : 0 < gI a b := by
 unfold gI
 have : 0 < Nat.gcd a.toNat b.toNat := Nat.gcd_pos_of_pos_right _ (by omega)
 omega
def tB (t : Ti) : Bool := ((decide (t.n < 0) || decide (t.n > 1099511627776)) || decide (t.d < 1)) || decide (t.d > 1048576)
def tE (t : Ti) : Int := bif tB t then 2 else bif decide (gI t.n t.d > 1) then 3 else 0
theorem tB_ok {t : Ti} (h : tB t = false) : 0 ≤ t.n ∧ t.n ≤ 1099511627776 ∧ 1 ≤ t.d ∧ t.d ≤ 1048576 := by
 unfold tB at h
 simp at h
 omega
theorem tE_ok {t : Ti} (h : tE t = 0) : 0 ≤ t.n ∧ t.n ≤ 1099511627776 ∧ 1 ≤ t.d ∧ t.d ≤ 1048576 := by
 cases hb : tB t with
 | true => unfold tE at h; rw [hb] at h; cases h
 | false => exact tB_ok hb
def firstE : List Ti → Int
 | [] => 0
 | t :: r => bif tE t != 0 then tE t else firstE r
theorem first2 {a b : Ti} (h : (firstE [a, b] != 0) = false) : tE a = 0 ∧ tE b = 0 := by
 have h : firstE [a, b] = 0 := by simpa using h
 unfold firstE at h
 cases h1 : (tE a != 0) with
 | true =>
  rw [h1] at h
  have h' : tE a = 0 := h
  rw [h'] at h1; cases h1
 | false =>
  rw [h1] at h
  refine ⟨by simpa using h1, ?_⟩
  unfold firstE at h
  cases h2 : (tE b != 0) with
  | true =>
   rw [h2] at h
   have h' : tE b = 0 := h
   rw [h'] at h2; cases h2
  | false => simpa using h2
theorem mul_bd {x y A B : Int} (hx : 0 ≤ x) (hx2 : x ≤ A) (hy : 0 ≤ y) (hy2 : y ≤ B) : 0 ≤ x * y ∧ x * y ≤ A * B :=
 ⟨Int.mul_nonneg hx hy, Int.mul_le_mul hx2 hy2 hy (by omega)⟩
def mkE (n d : Int) : Ti × Int :=
 bif decide (n < 0) || decide (d < 0) then (t0, 2) else bif d == 0 then (t0, 5)
 else bif decide (n.tdiv (gI n d) > 1099511627776) || decide (d.tdiv (gI n d) > 1048576) then (t0, 4) else (⟨n.tdiv (gI n d), d.tdiv (gI n d)⟩, 0)
def addE (a b : Ti) : Ti × Int := bif firstE [a, b] != 0 then (t0, firstE [a, b]) else mkE (a.n * b.d + b.n * a.d) (a.d * b.d)
def subE (a b : Ti) : Ti × Int := bif firstE [a, b] != 0 then (t0, firstE [a, b]) else mkE (a.n * b.d - b.n * a.d) (a.d * b.d)
def sgn (x : Int) : Int := bif decide (x < 0) then -1 else bif decide (x > 0) then 1 else 0
def cmpE (a b : Ti) : Int × Int := bif firstE [a, b] != 0 then (0, firstE [a, b]) else (sgn (a.n * b.d - b.n * a.d), 0)
structure Pt where
 s : Int
 o : Int
 a : Int
instance : DecidableEq Pt := fun a b => decidable_of_iff (a.s = b.s ∧ a.o = b.o ∧ a.a = b.a) ⟨fun h => by cases a; cases b; rw [Pt.mk.injEq]; exact h, fun h => by subst h; simp⟩
def Pt.cells (p : Pt) : List Value := [.int .i64 p.s, .int .i64 p.o, .int .i64 p.a]
def Pt.v (p : Pt) : Value := aggL p.cells
def p0 : Pt := ⟨0, 0, 0⟩
def pB (p : Pt) : Bool := ((((decide (p.s < 0) || decide (p.s > 6)) || decide (p.o < 0)) || decide (p.o > 8)) || decide (p.a < -1)) || decide (p.a > 1)
def pE (p : Pt) : Int := bif pB p then 2 else 0
theorem pB_ok {p : Pt} (h : pB p = false) : 0 ≤ p.s ∧ p.s ≤ 6 ∧ 0 ≤ p.o ∧ p.o ≤ 8 ∧ -1 ≤ p.a ∧ p.a ≤ 1 := by
 unfold pB at h
 simp at h
 omega
def numI (p : Pt) : Int := 7 * p.o + p.s
def halfI (k : Int) : Int := bif k == 0 then 0 else bif k == 1 then 2 else bif k == 2 then 4 else bif k == 3 then 5 else bif k == 4 then 7 else bif k == 5 then 9 else 11
def hgtI (k a : Int) : Int := 12 * (k.tdiv 7) + halfI (k.tmod 7) + a
def numE (p : Pt) : Int × Int := bif pB p then (0, 2) else (numI p, 0)
def hgtE (p : Pt) : Int × Int := bif pB p then (0, 2) else (hgtI (numI p) p.a, 0)
section
variable {P : Program} {t : TypeId} {xo yo : Operand} {a b : Int}
theorem quo_bd (hb : 0 < b) (h0 : 0 ≤ a) : 0 ≤ a.tdiv b ∧ a.tdiv b ≤ a :=
 ⟨Int.tdiv_nonneg h0 (by omega), Int.tdiv_le_self b h0⟩
theorem rem_bd (hb : 0 < b) (h0 : 0 ≤ a) : 0 ≤ a.tmod b ∧ a.tmod b < b :=
 ⟨Int.tmod_nonneg b h0, Int.tmod_lt_of_pos a hb⟩
theorem quoV (hb : 0 < b) (h0 : 0 ≤ a) (h1 : a ≤ 9223372036854775807) : binV P .quo t xo yo (.int .i64 a) (.int .i64 b) = some (.int .i64 (a.tdiv b)) := by
 have h := quo_bd hb h0
 show (if b = 0 then none else some (Value.int .i64 (IntKind.i64.wrap (a.tdiv b)))) = _
 rw [if_neg (by omega), IntWalk.i64_in _ (by omega)]
theorem remV (hb : 0 < b) : binV P .rem t xo yo (.int .i64 a) (.int .i64 b) = some (.int .i64 (a.tmod b)) := by
 show (if b = 0 then none else some (Value.int .i64 (a.tmod b))) = _
 rw [if_neg (by omega)]
end
theorem tE_1 {t : Ti} (h : tB t = true) : tE t = 2 := by unfold tE; rw [h]; rfl
theorem tE_2 {t : Ti} (h : tB t = false) (h2 : decide (gI t.n t.d > 1) = true) : tE t = 3 := by unfold tE; rw [h, h2]; rfl
theorem tE_3 {t : Ti} (h : tB t = false) (h2 : decide (gI t.n t.d > 1) = false) : tE t = 0 := by unfold tE; rw [h, h2]; rfl
theorem first_go {t : Ti} {r : List Ti} (h : (tE t != 0) = false) : firstE (t :: r) = firstE r := by show (bif tE t != 0 then tE t else firstE r) = _; rw [h]; rfl
theorem first_bad {t : Ti} {r : List Ti} (h : (tE t != 0) = true) : firstE (t :: r) = tE t := by show (bif tE t != 0 then tE t else firstE r) = _; rw [h]; rfl
theorem mkE_1 {n d : Int} (h : (decide (n < 0) || decide (d < 0)) = true) : mkE n d = (t0, 2) := by unfold mkE; rw [h]; rfl
theorem mkE_2 {n d : Int} (h : (decide (n < 0) || decide (d < 0)) = false) (h2 : (d == 0) = true) : mkE n d = (t0, 5) := by unfold mkE; rw [h, h2]; rfl
theorem mkE_3 {n d : Int} (h : (decide (n < 0) || decide (d < 0)) = false) (h2 : (d == 0) = false) (h3 : (decide (n.tdiv (gI n d) > 1099511627776) || decide (d.tdiv (gI n d) > 1048576)) = true) : mkE n d = (t0, 4) := by unfold mkE; rw [h, h2, h3]; rfl
theorem mkE_4 {n d : Int} (h : (decide (n < 0) || decide (d < 0)) = false) (h2 : (d == 0) = false) (h3 : (decide (n.tdiv (gI n d) > 1099511627776) || decide (d.tdiv (gI n d) > 1048576)) = false) : mkE n d = (⟨n.tdiv (gI n d), d.tdiv (gI n d)⟩, 0) := by unfold mkE; rw [h, h2, h3]; rfl
def r2 (x : Ti × Int) : Value := tupV [x.1.v, .int .i64 x.2]
theorem gI_z {a b : Int} (h : (b == 0) = true) (ha : 0 ≤ a) : a = gI a b := by
 have e : b = 0 := by simpa using h
 rw [e, gI_zero ha]
theorem firstBd {a b : Ti} (h : (firstE [a, b] != 0) = false) : (0 ≤ a.n * b.d ∧ a.n * b.d ≤ 1152921504606846976) ∧ (0 ≤ b.n * a.d ∧ b.n * a.d ≤ 1152921504606846976) ∧ 0 ≤ a.d * b.d ∧ a.d * b.d ≤ 1099511627776 := by
 have h2 := first2 h
 have ha := tE_ok h2.1
 have hb := tE_ok h2.2
 exact ⟨mul_bd ha.1 ha.2.1 (by omega) hb.2.2.2, mul_bd hb.1 hb.2.1 (by omega) ha.2.2.2, mul_bd (by omega) ha.2.2.2 (by omega) hb.2.2.2⟩
theorem addE_1 {a b : Ti} (h : (firstE [a, b] != 0) = true) : addE a b = (t0, firstE [a, b]) := by unfold addE; rw [h]; rfl
theorem addE_2 {a b : Ti} (h : (firstE [a, b] != 0) = false) : addE a b = mkE (a.n * b.d + b.n * a.d) (a.d * b.d) := by unfold addE; rw [h]; rfl
theorem subE_1 {a b : Ti} (h : (firstE [a, b] != 0) = true) : subE a b = (t0, firstE [a, b]) := by unfold subE; rw [h]; rfl
theorem subE_2 {a b : Ti} (h : (firstE [a, b] != 0) = false) : subE a b = mkE (a.n * b.d - b.n * a.d) (a.d * b.d) := by unfold subE; rw [h]; rfl
theorem cmpE_1 {a b : Ti} (h : (firstE [a, b] != 0) = true) : cmpE a b = (0, firstE [a, b]) := by unfold cmpE; rw [h]; rfl
theorem cmpE_2 {a b : Ti} (h : (firstE [a, b] != 0) = false) : cmpE a b = (sgn (a.n * b.d - b.n * a.d), 0) := by unfold cmpE; rw [h]; rfl
theorem sgn_1 {x : Int} (h : decide (x < 0) = true) : sgn x = -1 := by unfold sgn; rw [h]; rfl
theorem sgn_2 {x : Int} (h : decide (x < 0) = false) (h2 : decide (x > 0) = true) : sgn x = 1 := by unfold sgn; rw [h, h2]; rfl
theorem sgn_3 {x : Int} (h : decide (x < 0) = false) (h2 : decide (x > 0) = false) : sgn x = 0 := by unfold sgn; rw [h, h2]; rfl
def kindsL : List Value := [.int .i64 1, .int .i64 0, .int .i64 0, .int .i64 0, .int .i64 0, .int .i64 0, .int .i64 0, .int .i64 0, .int .i64 0, .int .i64 0, .int .i64 0, .int .i64 0, .int .i64 0, .int .i64 0, .int .i64 0, .int .i64 0, .int .i64 0, .int .i64 0, .int .i64 0, .int .i64 0, .int .i64 0, .int .i64 0, .int .i64 0, .int .i64 0, .int .i64 0, .int .i64 0, .int .i64 0, .int .i64 0, .int .i64 0, .int .i64 2, .int .i64 2, .int .i64 0, .int .i64 0, .int .i64 0, .int .i64 0, .int .i64 0, .int .i64 0, .int .i64 0, .int .i64 0, .int .i64 0, .int .i64 0, .int .i64 0, .int .i64 0, .int .i64 0, .int .i64 3, .int .i64 4, .int .i64 0, .int .i64 0, .int .i64 0, .int .i64 0, .int .i64 0, .int .i64 0, .int .i64 0, .int .i64 0, .int .i64 0, .int .i64 0, .int .i64 0, .int .i64 0, .int .i64 4, .int .i64 1, .int .i64 0, .int .i64 0, .int .i64 0, .int .i64 0, .int .i64 0, .int .i64 0, .int .i64 0, .int .i64 0, .int .i64 0, .int .i64 0, .int .i64 0, .int .i64 0, .int .i64 0, .int .i64 2, .int .i64 2, .int .i64 0, .int .i64 0, .int .i64 0, .int .i64 0, .int .i64 0, .int .i64 0, .int .i64 0, .int .i64 0, .int .i64 0, .int .i64 0, .int .i64 0, .int .i64 0, .int .i64 0, .int .i64 0, .int .i64 0, .int .i64 0]
def halvesL : List Value := [.int .i64 0, .int .i64 2, .int .i64 4, .int .i64 5, .int .i64 7, .int .i64 9, .int .i64 11]
def Gl (S : St) : Prop := 1 < S.size ∧ S.get 0 = some (.cells kindsL 0 false false []) ∧ S.get 1 = some (.cells halvesL 0 false false [])
theorem Gl.keep {S T : St} (h : Gl S) (k : Keep S T) : Gl T := ⟨Nat.lt_of_lt_of_le h.1 k.1, (k.2 0 (by have := h.1; omega)).trans h.2.1, (k.2 1 h.1).trans h.2.2⟩
theorem halves_at {k : Int} (h0 : 0 ≤ k) (h1 : k < 7) : nth halvesL (0 + k.toNat * 1) = some (.int .i64 (halfI k)) := by
 obtain rfl | rfl | rfl | rfl | rfl | rfl | rfl : k = 0 ∨ k = 1 ∨ k = 2 ∨ k = 3 ∨ k = 4 ∨ k = 5 ∨ k = 6 := by omega
 all_goals rfl
theorem half_bd {k : Int} (h0 : 0 ≤ k) (h1 : k < 7) : 0 ≤ halfI k ∧ halfI k ≤ 11 := by
 obtain rfl | rfl | rfl | rfl | rfl | rfl | rfl : k = 0 ∨ k = 1 ∨ k = 2 ∨ k = 3 ∨ k = 4 ∨ k = 5 ∨ k = 6 := by omega
 all_goals decide
theorem hgt_bd {k a : Int} (h0 : 0 ≤ k) (h1 : k ≤ 62) (h2 : -1 ≤ a) (h3 : a ≤ 1) : -1 ≤ hgtI k a ∧ hgtI k a ≤ 2000 := by
 have h4 := quo_bd (a := k) (b := 7) (by omega) h0
 have h5 := rem_bd (a := k) (b := 7) (by omega) h0
 have h6 := half_bd h5.1 h5.2
 unfold hgtI
 omega
def tpB (k a : Int) : Bool := ((decide (k < 0) || decide (k > 62)) || decide (a < -1)) || decide (a > 1)
def tpE (k a : Int) : Pt × Int := bif tpB k a then (p0, 2) else (⟨k.tmod 7, k.tdiv 7, a⟩, 0)
def rp (x : Pt × Int) : Value := tupV [x.1.v, .int .i64 x.2]
theorem tp_1 {k a : Int} (h : tpB k a = true) : tpE k a = (p0, 2) := by unfold tpE; rw [h]; rfl
theorem tp_2 {k a : Int} (h : tpB k a = false) : tpE k a = (⟨k.tmod 7, k.tdiv 7, a⟩, 0) := by unfold tpE; rw [h]; rfl
theorem tpB_ok {k a : Int} (h : tpB k a = false) : 0 ≤ k ∧ k ≤ 62 ∧ -1 ≤ a ∧ a ≤ 1 := by
 unfold tpB at h
 simp at h
 omega
theorem pE_1 {p : Pt} (h : pB p = true) : pE p = 2 := by unfold pE; rw [h]; rfl
theorem pE_2 {p : Pt} (h : pB p = false) : pE p = 0 := by unfold pE; rw [h]; rfl
theorem pE_no {p : Pt} (h : (pE p != 0) = false) : pB p = false := by
 cases hb : pB p with
 | false => rfl
 | true => rw [pE_1 hb] at h; cases h
theorem pE_yes {p : Pt} (h : (pE p != 0) = true) : pB p = true := by
 cases hb : pB p with
 | true => rfl
 | false => rw [pE_2 hb] at h; cases h
theorem num_bd {p : Pt} (h : pB p = false) : 0 ≤ numI p ∧ numI p ≤ 62 := by
 have := pB_ok h
 unfold numI
 omega
def fstP : List Pt → Int
 | [] => 0
 | p :: r => bif pE p != 0 then pE p else fstP r
theorem fstP_go {p : Pt} {r : List Pt} (h : (pE p != 0) = false) : fstP (p :: r) = fstP r := by show (bif pE p != 0 then pE p else fstP r) = _; rw [h]; rfl
theorem fstP_bad {p : Pt} {r : List Pt} (h : (pE p != 0) = true) : fstP (p :: r) = pE p := by show (bif pE p != 0 then pE p else fstP r) = _; rw [h]; rfl
theorem fstP2 {p q : Pt} (h : fstP [p, q] = 0) : pB p = false ∧ pB q = false := by
 cases h1 : (pE p != 0) with
 | true => rw [fstP_bad h1] at h; rw [h] at h1; cases h1
 | false =>
  rw [fstP_go h1] at h
  refine ⟨pE_no h1, ?_⟩
  cases h2 : (pE q != 0) with
  | true => rw [fstP_bad h2] at h; rw [h] at h2; cases h2
  | false => exact pE_no h2
theorem fstP_ne {p q : Pt} {x : Pt} (hx : fstP [p, q] = pE x) (h : (pE x != 0) = true) : (fstP [p, q] != 0) = true := by rw [hx]; exact h
structure Iv where
 st : Int
 hf : Int
def Iv.cells (i : Iv) : List Value := [.int .i64 i.st, .int .i64 i.hf]
def Iv.v (i : Iv) : Value := aggL i.cells
def i0 : Iv := ⟨0, 0⟩
def ivP (p q : Pt) : Iv := ⟨numI q - numI p, hgtI (numI q) q.a - hgtI (numI p) p.a⟩
def btwE (p q : Pt) : Iv × Int := bif fstP [p, q] != 0 then (i0, fstP [p, q]) else (ivP p q, 0)
def ri (x : Iv × Int) : Value := tupV [x.1.v, .int .i64 x.2]
theorem btw_1 {p q : Pt} (h : (fstP [p, q] != 0) = true) : btwE p q = (i0, fstP [p, q]) := by unfold btwE; rw [h]; rfl
theorem btw_2 {p q : Pt} (h : fstP [p, q] = 0) : btwE p q = (ivP p q, 0) := by unfold btwE; rw [h]; rfl
def mvE (p : Pt) (n : Int) : Pt × Int := bif pB p then (p0, 2) else bif decide (n < -62) || decide (n > 62) then (p0, 2) else tpE (numI p + n) p.a
theorem mv_1 {p : Pt} {n : Int} (h : pB p = true) : mvE p n = (p0, 2) := by unfold mvE; rw [h]; rfl
theorem mv_2 {p : Pt} {n : Int} (h : pB p = false) (h2 : (decide (n < -62) || decide (n > 62)) = true) : mvE p n = (p0, 2) := by unfold mvE; rw [h, h2]; rfl
theorem mv_3 {p : Pt} {n : Int} (h : pB p = false) (h2 : (decide (n < -62) || decide (n > 62)) = false) : mvE p n = tpE (numI p + n) p.a := by unfold mvE; rw [h, h2]; rfl
def lowB (p q : Pt) : Bool := decide ((numE q).1 < (numE p).1) || (((numE q).1 == (numE p).1) && decide ((hgtE q).1 < (hgtE p).1))
def lowE (p q : Pt) : Pt × Pt := bif lowB p q then (q, p) else (p, q)
theorem low_1 {p q : Pt} (h : lowB p q = true) : lowE p q = (q, p) := by unfold lowE; rw [h]; rfl
theorem low_2 {p q : Pt} (h : lowB p q = false) : lowE p q = (p, q) := by unfold lowE; rw [h]; rfl
def bwE (p q : Pt) : Iv × Int := bif pE p != 0 then (i0, pE p) else bif pE q != 0 then (i0, pE q) else btwE (lowE p q).1 (lowE p q).2
theorem bw_1 {p q : Pt} (h : (pE p != 0) = true) : bwE p q = (i0, pE p) := by unfold bwE; rw [h]; rfl
theorem bw_2 {p q : Pt} (h : (pE p != 0) = false) (h2 : (pE q != 0) = true) : bwE p q = (i0, pE q) := by unfold bwE; rw [h, h2]; rfl
theorem bw_3 {p q : Pt} (h : (pE p != 0) = false) (h2 : (pE q != 0) = false) : bwE p q = btwE (lowE p q).1 (lowE p q).2 := by unfold bwE; rw [h, h2]; rfl
theorem fstP_ok {p q : Pt} (h : pB p = false) (h2 : pB q = false) : fstP [p, q] = 0 := by
 rw [fstP_go (by rw [pE_2 h]; rfl), fstP_go (by rw [pE_2 h2]; rfl)]; rfl
theorem bw_ok {p q : Pt} (h : ((bwE p q).2 != 0) = false) : pB p = false ∧ pB q = false ∧ bwE p q = (ivP (lowE p q).1 (lowE p q).2, 0) := by
 cases h1 : (pE p != 0) with
 | true => rw [bw_1 h1] at h; rw [h1] at h; cases h
 | false =>
  cases h2 : (pE q != 0) with
  | true => rw [bw_2 h1 h2] at h; rw [h2] at h; cases h
  | false =>
   have hp := pE_no h1
   have hq := pE_no h2
   refine ⟨hp, hq, ?_⟩
   rw [bw_3 h1 h2]
   cases h3 : lowB p q with
   | true => rw [low_1 h3]; exact btw_2 (fstP_ok hq hp)
   | false => rw [low_2 h3]; exact btw_2 (fstP_ok hp hq)
theorem numE_ok {p : Pt} (h : pB p = false) : numE p = (numI p, 0) := by unfold numE; rw [h]; rfl
theorem hgtE_ok {p : Pt} (h : pB p = false) : hgtE p = (hgtI (numI p) p.a, 0) := by unfold hgtE; rw [h]; rfl
theorem ivP_bd {p q : Pt} (hp : pB p = false) (hq : pB q = false) : 0 ≤ (ivP (lowE p q).1 (lowE p q).2).st ∧ (ivP (lowE p q).1 (lowE p q).2).st ≤ 62 ∧ -5000 ≤ (ivP (lowE p q).1 (lowE p q).2).hf ∧ (ivP (lowE p q).1 (lowE p q).2).hf ≤ 5000 := by
 have a1 := num_bd hp
 have a2 := num_bd hq
 have b1 := pB_ok hp
 have b2 := pB_ok hq
 have c1 := hgt_bd a1.1 a1.2 b1.2.2.2.2.1 b1.2.2.2.2.2
 have c2 := hgt_bd a2.1 a2.2 b2.2.2.2.2.1 b2.2.2.2.2.2
 cases h3 : lowB p q with
 | true =>
  rw [low_1 h3]
  unfold lowB at h3
  rw [numE_ok hp, numE_ok hq] at h3
  simp at h3
  show 0 ≤ numI p - numI q ∧ numI p - numI q ≤ 62 ∧ -5000 ≤ hgtI (numI p) p.a - hgtI (numI q) q.a ∧ hgtI (numI p) p.a - hgtI (numI q) q.a ≤ 5000
  omega
 | false =>
  rw [low_2 h3]
  unfold lowB at h3
  rw [numE_ok hp, numE_ok hq] at h3
  simp at h3
  show 0 ≤ numI q - numI p ∧ numI q - numI p ≤ 62 ∧ -5000 ≤ hgtI (numI q) q.a - hgtI (numI p) p.a ∧ hgtI (numI q) q.a - hgtI (numI p) p.a ≤ 5000
  omega
def spI (i : Iv) : Iv := ⟨i.st.tmod 7, i.hf - 12 * (i.st.tdiv 7)⟩
def spE (p q : Pt) : Iv × Int := bif (bwE p q).2 != 0 then (i0, (bwE p q).2) else (spI (bwE p q).1, 0)
theorem sp_1 {p q : Pt} (h : ((bwE p q).2 != 0) = true) : spE p q = (i0, (bwE p q).2) := by unfold spE; rw [h]; rfl
theorem sp_2 {p q : Pt} (h : ((bwE p q).2 != 0) = false) : spE p q = (spI (bwE p q).1, 0) := by unfold spE; rw [h]; rfl
theorem bw_bd {p q : Pt} (h : ((bwE p q).2 != 0) = false) : 0 ≤ (bwE p q).1.st ∧ (bwE p q).1.st ≤ 62 ∧ -5000 ≤ (bwE p q).1.hf ∧ (bwE p q).1.hf ≤ 5000 := by
 obtain ⟨hp, hq, e⟩ := bw_ok h
 rw [e]
 exact ivP_bd hp hq
theorem sp_no {p q : Pt} (h : ((spE p q).2 != 0) = false) : ((bwE p q).2 != 0) = false := by
 cases h1 : ((bwE p q).2 != 0) with
 | false => rfl
 | true => rw [sp_1 h1] at h; rw [h1] at h; cases h
theorem spI_bd {i : Iv} (h0 : 0 ≤ i.st) : 0 ≤ (spI i).st ∧ (spI i).st < 7 := rem_bd (by omega) h0
theorem sp_bd {p q : Pt} (h : ((spE p q).2 != 0) = false) : 0 ≤ (spE p q).1.st ∧ (spE p q).1.st < 7 := by
 have h1 := sp_no h
 rw [sp_2 h1]
 exact spI_bd (bw_bd h1).1
def kindsN : List Int := [1, 0, 0, 0, 0, 0, 0, 0, 0, 0, 0, 0, 0, 0, 0, 0, 0, 0, 0, 0, 0, 0, 0, 0, 0, 0, 0, 0, 0, 2, 2, 0, 0, 0, 0, 0, 0, 0, 0, 0, 0, 0, 0, 0, 3, 4, 0, 0, 0, 0, 0, 0, 0, 0, 0, 0, 0, 0, 4, 1, 0, 0, 0, 0, 0, 0, 0, 0, 0, 0, 0, 0, 0, 2, 2, 0, 0, 0, 0, 0, 0, 0, 0, 0, 0, 0, 0, 0, 0, 0, 0]
def kI (s h : Int) : Int := (nth kindsN (s.toNat * 13 + h.toNat)).getD 0
theorem kinds_eq : kindsL = kindsN.map (Value.int .i64) := rfl
theorem kinds_at {s h : Int} (h0 : 0 ≤ s) (h1 : s < 7) (h2 : 0 ≤ h) (h3 : h < 13) : nth kindsL (0 + s.toNat * 13 + h.toNat * 1) = some (.int .i64 (kI s h)) := by
 obtain ⟨x, hx⟩ : ∃ x, nth kindsN (s.toNat * 13 + h.toNat) = some x := nth_some (by show _ < 91; omega)
 have e : kI s h = x := by unfold kI; rw [hx]; rfl
 rw [e, kinds_eq, show 0 + s.toNat * 13 + h.toNat * 1 = s.toNat * 13 + h.toNat by omega]
 exact nth_map _ hx
def kdB (i : Iv) : Bool := (decide (i.hf ≥ 0) && decide (i.hf < 13)) && (kI i.st i.hf != 0)
def kdE (p q : Pt) : Int × Int := bif (spE p q).2 != 0 then (0, (spE p q).2) else bif kdB (spE p q).1 then (kI (spE p q).1.st (spE p q).1.hf, 0) else (5, 0)
theorem kd_1 {p q : Pt} (h : ((spE p q).2 != 0) = true) : kdE p q = (0, (spE p q).2) := by unfold kdE; rw [h]; rfl
theorem kd_2 {p q : Pt} (h : ((spE p q).2 != 0) = false) (h2 : kdB (spE p q).1 = true) : kdE p q = (kI (spE p q).1.st (spE p q).1.hf, 0) := by unfold kdE; rw [h, h2]; rfl
theorem kd_3 {p q : Pt} (h : ((spE p q).2 != 0) = false) (h2 : kdB (spE p q).1 = false) : kdE p q = (5, 0) := by unfold kdE; rw [h, h2]; rfl
theorem kdB_ok {i : Iv} (h : kdB i = true) : 0 ≤ i.hf ∧ i.hf < 13 := by
 unfold kdB at h
 simp at h
 omega
def chkE (C : List Pt) : Int := bif decide ((C.length : Int) > 8) then 11 else fstP C
theorem chk_1 {C : List Pt} (h : decide ((C.length : Int) > 8) = true) : chkE C = 11 := by unfold chkE; rw [h]; rfl
theorem chk_2 {C : List Pt} (h : decide ((C.length : Int) > 8) = false) : chkE C = fstP C := by unfold chkE; rw [h]; rfl
def bsB (x y : Pt) : Bool := decide ((hgtE x).1 < (hgtE y).1) || (((hgtE x).1 == (hgtE y).1) && decide ((numE x).1 < (numE y).1))
def bsG (C : List Pt) : List Pt → Nat → Nat → Nat
 | [], _, b => b
 | x :: r, i, b => bsG C r (i + 1) (bif bsB x ((nth C b).getD p0) then i else b)
def bsE (C : List Pt) : Nat := bsG C C 0 0
theorem bsG_yes {C : List Pt} {i b : Nat} {x y : Pt} (hx : nth C i = some x) (hy : nth C b = some y) (h : bsB x y = true) : bsG C (C.drop i) i b = bsG C (C.drop (i + 1)) (i + 1) i := by
 rw [drop_nth' hx]
 show bsG C _ (i + 1) (bif bsB x ((nth C b).getD p0) then i else b) = _
 rw [hy, Option.getD_some, h]; rfl
theorem bsG_no {C : List Pt} {i b : Nat} {x y : Pt} (hx : nth C i = some x) (hy : nth C b = some y) (h : bsB x y = false) : bsG C (C.drop i) i b = bsG C (C.drop (i + 1)) (i + 1) b := by
 rw [drop_nth' hx]
 show bsG C _ (i + 1) (bif bsB x ((nth C b).getD p0) then i else b) = _
 rw [hy, Option.getD_some, h]; rfl
theorem tk_nth {z o j : Nat} {c l : List Value} {v : Value} (h : takeN z (dropN o c) = some l) (hj : nth l j = some v) : nth c (o + j) = some v := by
 obtain ⟨_, _, e⟩ := takeN_spec _ _ _ h
 subst e
 have := nth_take hj
 rw [dropN_eq] at this
 rw [nth_eq] at this ⊢
 rw [List.getElem?_drop] at this
 exact this
section
variable {α : Type} {e : TypeId} {z : Nat} {f : α → List Value} {S S' : St} {v : Value} {C : List α} {a : Option Addr} {n cap : Nat}
def LsOf (e : TypeId) (z : Nat) (f : α → List Value) (S : St) (v : Value) (C : List α) : Prop := SliceAt S e z v (C.map f)
theorem LsOf.move (h : RK S S') (hs : LsOf e z f S v C) : LsOf e z f S' v C := SliceAt.move h hs
theorem LsOf.is (h : LsOf e z f S v C) : ∃ a cap, v = .slice a C.length cap := by
 obtain ⟨a, cap, e⟩ := SliceAt.is h
 exact ⟨a, cap, by simpa using e⟩
theorem LsOf.len (h : LsOf e z f S (.slice a n cap) C) : n = C.length := by
 obtain ⟨a, cap, e⟩ := LsOf.is h
 injection e
theorem LsOf.elem (h : LsOf e z f S (.slice a n cap) C) {k : Nat} {x : α} (hk : nth C k = some x) :
  ∃ b o cs, a = some ⟨b, o, none⟩ ∧ n = C.length ∧ RowAt S b e cs ∧ takeN z (dropN (o + k * z) cs) = some (f x) := by
 obtain ⟨b, o, cs, h1, h2, h3, h4⟩ := SliceAt.elem h (nth_map f hk)
 exact ⟨b, o, cs, h1, by simpa using h2, h3, h4⟩
theorem LsOf.nil : LsOf e z f S (.slice none 0 0) [] := .inl ⟨rfl, .inl rfl⟩
theorem nth_unmap {f : α → List Value} : ∀ {C : List α} {k : Nat} {y : List Value}, nth (C.map f) k = some y → ∃ x, nth C k = some x ∧ y = f x
 | [], _, _, h => by cases h
 | x :: _, 0, y, h => by cases h; exact ⟨x, rfl, rfl⟩
 | _ :: C, k + 1, y, h => nth_unmap (C := C) (k := k) h
theorem dropN_add {β : Type} : ∀ (n m : Nat) (l : List β), dropN (n + m) l = dropN m (dropN n l) := fun n m l => by
 rw [dropN_eq, dropN_eq, dropN_eq, List.drop_drop]
theorem flat_take (hz : ∀ x, (f x).length = z) : ∀ {C : List α} {k : Nat} {x : α}, nth C k = some x → takeN z (dropN (0 + k * z) ((C.map f).flatten)) = some (f x)
 | [], _, _, h => by cases h
 | y :: C, 0, x, h => by
  cases h
  rw [show 0 + 0 * z = 0 by omega]
  show takeN z (f y ++ _) = _
  rw [← hz y, takeN_some _ _ (by simp), List.take_left]
 | y :: C, k + 1, x, h => by
  rw [show 0 + (k + 1) * z = z + (0 + k * z) by rw [Nat.add_mul]; omega, dropN_add]
  rw [show dropN z ((List.map f (y :: C)).flatten) = (C.map f).flatten by
   rw [dropN_eq]
   show (f y ++ _).drop z = _
   rw [← hz y, List.drop_left]]
  exact flat_take hz (C := C) (k := k) h
theorem flat_len (hz : ∀ x, (f x).length = z) : ∀ C : List α, ((C.map f).flatten).length = C.length * z
 | [] => by simp
 | x :: C => by
  show (f x ++ _).length = _
  rw [List.length_append, hz x, flat_len hz C, List.length_cons, Nat.add_mul]
  omega
theorem LsOf.row {B : Nat} (hz : ∀ x, (f x).length = z) (h : RowAt S B e ((C.map f).flatten)) (hn : n = C.length) : LsOf e z f S (.slice (some ⟨B, 0, none⟩) n n) C := by
 subst hn
 refine .inr ⟨B, 0, C.length, _, by simp, by simp, h, fun k y hk => ?_⟩
 obtain ⟨x, hx, rfl⟩ := nth_unmap hk
 exact flat_take hz hx
def gOf (e : TypeId) (z : Nat) (f : α → List Value) (v : Value) (C : List α) : Gr := ⟨v, e, z, (C.map f).flatten, C.length⟩
theorem Grow.ls {S0 : St} (hz : ∀ x, (f x).length = z) (h : Grow S0 S (gOf e z f v C)) : LsOf e z f S v C := by
 rcases Grow.row h with ⟨h1, h2, h3⟩ | ⟨b, h1, h2⟩
 ·have h3 : C.length = 0 := h3
  have h1 : v = .slice none 0 0 := h1
  have : C = [] := List.length_eq_zero_iff.1 h3
  subst this; subst h1
  exact LsOf.nil
 ·have h1 : v = .slice (some ⟨b, 0, none⟩) C.length C.length := h1
  subst h1
  exact LsOf.row hz h2 rfl
theorem flat_push (x : α) : ((C ++ [x]).map f).flatten = (C.map f).flatten ++ f x := by simp
end
theorem indexAddr_sl {P : Program} {t e : TypeId} {a : Option Addr} {b o len cap z : Nat} {k : IntKind} {i : Int} (ha : a = some ⟨b, o, none⟩) (hu : P.underlying t = some (.slice e)) (hz : szOf P e = some z) (hi : 0 ≤ i ∧ i < len) :
  indexAddrV P t (.slice a len cap) (.int k i) = some (ptrTo b (o + i.toNat * z)) := by
 subst ha
 exact indexAddr_slice hu hz hi
abbrev Tis := LsOf 33 2 Ti.cells
theorem index_arrayF {α : Type} {f : α → List Value} {P : Program} {t e : TypeId} {C : List α} {len z : Nat} {k : IntKind} {i : Int} {x : α} (hu : P.underlying t = some (.array len e)) (hzz : szOf P e = some z) (ha : aggOf P e = some true) (hz : ∀ x, (f x).length = z) (hi : 0 ≤ i ∧ i < len) (hx : nth C i.toNat = some x) :
  indexV P t (aggL ((C.map f).flatten)) (.int k i) = some (aggL (f x)) := by
 show indexV P t (.agg _) (.int k i) = _
 unfold indexV
 simp only [hu]
 rw [if_pos hi]
 have h := flat_take (f := f) hz hx
 rw [Nat.zero_add] at h
 simp only [hzz, partL, ha]
 show (match takeN z (dropN (i.toNat * z) ((C.map f).flatten)) with
  | some l => some (aggL l)
  | none => none) = _
 rw [h]
abbrev Pts := LsOf 37 3 Pt.cells
theorem src_row {S : St} {b o n cap z : Nat} {e : TypeId} {c new : List Value} (h : RowAt S b e c) (hn : takeN (n * z) (dropN o c) = some new) : sourceCells S z n (.slice (some ⟨b, o, none⟩) n cap) = some new := by
 obtain ⟨_, own, kin, hg⟩ := h
 show readCells S b o (n * z) = _
 unfold readCells
 rw [hg]
 exact hn
theorem Grow.is {S0 S : St} {g : Gr} (h : Grow S0 S g) : ∃ a, g.v = .slice a g.n g.n := by
 rcases Grow.row h with ⟨h1, _, h3⟩ | ⟨b, h1, _⟩
 ·exact ⟨none, by rw [h1, h3]⟩
 ·exact ⟨_, h1⟩
theorem stays_left {P : Program} {n : Nat} {S' : St} {m m2 : Nat} : ∀ {E : List CkE}, Stays P n S' m E → Stays P n S' m (left m2 E)
 | [], _ => trivial
 | e :: r, h => by
  unfold left
  cases m2.testBit e.j with
  | true => exact stays_left h.2
  | false => exact ⟨h.1, stays_left h.2⟩
theorem gOf_push {α : Type} {e : TypeId} {z : Nat} {f : α → List Value} {a : Option Addr} {C : List α} {x : α} : gOf e z f (.slice a (C ++ [x]).length (C ++ [x]).length) (C ++ [x]) = ⟨.slice a (C.length + 1) (C.length + 1), e, z, (C.map f).flatten ++ f x, C.length + 1⟩ := by
 unfold gOf
 rw [flat_push, List.length_append]
 rfl
structure Ev where
 at_ : Ti
 dur : Ti
 p : Pt
 rest : Bool
 sign : Int
 pass : Int
def Ev.cells (x : Ev) : List Value := [.int .i64 x.at_.n, .int .i64 x.at_.d, .int .i64 x.dur.n, .int .i64 x.dur.d, .int .i64 x.p.s, .int .i64 x.p.o, .int .i64 x.p.a, .bool x.rest, .int .i64 x.sign, .int .i64 x.pass]
def Ev.v (x : Ev) : Value := aggL x.cells
def zT : Ti := ⟨0, 1⟩
def midE (x : Ev) : Int := bif x.rest then (bif !decide (x.p = p0) then 3 else 0) else pE x.p
def oneE (x : Ev) : Int := bif firstE [x.at_, x.dur] != 0 then firstE [x.at_, x.dur] else bif x.dur.n == 0 then 2 else bif midE x != 0 then midE x else bif decide (x.sign < 0) || decide (x.pass < 0) then 2 else 0
theorem one_1 {x : Ev} (h : (firstE [x.at_, x.dur] != 0) = true) : oneE x = firstE [x.at_, x.dur] := by unfold oneE; rw [h]; rfl
theorem one_2 {x : Ev} (h : firstE [x.at_, x.dur] = 0) (h2 : (x.dur.n == 0) = true) : oneE x = 2 := by unfold oneE; rw [h, h2]; rfl
theorem one_3 {x : Ev} (h : firstE [x.at_, x.dur] = 0) (h2 : (x.dur.n == 0) = false) (h3 : (midE x != 0) = true) : oneE x = midE x := by unfold oneE; rw [h, h2, h3]; rfl
theorem one_4 {x : Ev} (h : firstE [x.at_, x.dur] = 0) (h2 : (x.dur.n == 0) = false) (h3 : midE x = 0) (h4 : (decide (x.sign < 0) || decide (x.pass < 0)) = true) : oneE x = 2 := by unfold oneE; rw [h, h2, h3, h4]; rfl
theorem one_5 {x : Ev} (h : firstE [x.at_, x.dur] = 0) (h2 : (x.dur.n == 0) = false) (h3 : midE x = 0) (h4 : (decide (x.sign < 0) || decide (x.pass < 0)) = false) : oneE x = 0 := by unfold oneE; rw [h, h2, h3, h4]; rfl
theorem mid_1 {x : Ev} (h : x.rest = true) (h2 : (!decide (x.p = p0)) = true) : midE x = 3 := by unfold midE; rw [h, h2]; rfl
theorem mid_2 {x : Ev} (h : x.rest = true) (h2 : (!decide (x.p = p0)) = false) : midE x = 0 := by unfold midE; rw [h, h2]; rfl
theorem mid_3 {x : Ev} (h : x.rest = false) : midE x = pE x.p := by unfold midE; rw [h]; rfl
def evG : List Ev → Ti → Nat → Int × Int
 | [], _, _ => (0, 0)
 | x :: r, now, i => bif oneE x != 0 then (oneE x, (i : Int)) else bif !decide (x.at_ = now) then (6, (i : Int)) else bif (addE x.at_ x.dur).2 != 0 then ((addE x.at_ x.dur).2, (i : Int)) else evG r (addE x.at_ x.dur).1 (i + 1)
theorem evG_1 {x : Ev} {r : List Ev} {now : Ti} {i : Nat} (h : (oneE x != 0) = true) : evG (x :: r) now i = (oneE x, (i : Int)) := by unfold evG; rw [h]; rfl
theorem evG_2 {x : Ev} {r : List Ev} {now : Ti} {i : Nat} (h : (oneE x != 0) = false) (h2 : (!decide (x.at_ = now)) = true) : evG (x :: r) now i = (6, (i : Int)) := by rw [evG, h, h2]; rfl
theorem evG_3 {x : Ev} {r : List Ev} {now : Ti} {i : Nat} (h : (oneE x != 0) = false) (h2 : (!decide (x.at_ = now)) = false) (h3 : ((addE x.at_ x.dur).2 != 0) = true) : evG (x :: r) now i = ((addE x.at_ x.dur).2, (i : Int)) := by rw [evG, h, h2, h3]; rfl
theorem evG_4 {x : Ev} {r : List Ev} {now : Ti} {i : Nat} (h : (oneE x != 0) = false) (h2 : (!decide (x.at_ = now)) = false) (h3 : ((addE x.at_ x.dur).2 != 0) = false) : evG (x :: r) now i = evG r (addE x.at_ x.dur).1 (i + 1) := by rw [evG, h, h2, h3]; rfl
def evE (C : List Ev) : Int × Int := bif decide ((C.length : Int) > 2000) then (11, 0) else evG C zT 0
theorem ev_1 {C : List Ev} (h : decide ((C.length : Int) > 2000) = true) : evE C = (11, 0) := by unfold evE; rw [h]; rfl
theorem ev_2 {C : List Ev} (h : decide ((C.length : Int) > 2000) = false) : evE C = evG C zT 0 := by unfold evE; rw [h]; rfl
def endE (C : List Ev) : Ti × Int := bif (evE C).1 != 0 then (t0, (evE C).1) else match nth C (C.length - 1) with
 | none => (zT, 0)
 | some x => addE x.at_ x.dur
theorem end_1 {C : List Ev} (h : ((evE C).1 != 0) = true) : endE C = (t0, (evE C).1) := by unfold endE; rw [h]; rfl
theorem end_2 {C : List Ev} (h : ((evE C).1 != 0) = false) (h2 : ((C.length : Int) == 0) = true) : endE C = (zT, 0) := by
 unfold endE
 rw [h]
 cases C with
 | nil => rfl
 | cons x r => simp at h2; omega
theorem end_3 {C : List Ev} {x : Ev} (h : ((evE C).1 != 0) = false) (hx : nth C (C.length - 1) = some x) : endE C = addE x.at_ x.dur := by unfold endE; rw [h, hx]; rfl
abbrev Evs := LsOf 39 10 Ev.cells
section
variable {P : Program} {K : Known} {n : Nat} {ro : Option Nat} {L : Env} {S : St} {Q : Post}
theorem xe_cutR {c : Code} (I : Env → St → Prop) (h : XE P K n ro c L S fun e L' S' => (e = .normal ∧ I L' S') ∨ (e ≠ .normal ∧ Q e L' S')) (hq : ∀ L' S', I L' S' → Q .normal L' S') : XE P K n ro c L S Q :=
 xe_mono h fun e L' S' hh => by
  rcases hh with ⟨he, hi⟩ | ⟨_, hi⟩
  ·subst he; exact hq L' S' hi
  ·exact hi
theorem cut_ret {I : Prop} (h : Q .ret L S) : ((Exit.ret = .normal) ∧ I) ∨ (Exit.ret ≠ .normal ∧ Q .ret L S) := .inr ⟨nofun, h⟩
end
structure Cl where
 a : Int
 b : Int
 k : Int
def Cl.cells (c : Cl) : List Value := [.int .i64 c.a, .int .i64 c.b, .int .i64 c.k]
def Cl.v (c : Cl) : Value := aggL c.cells
def clB (low x y : Pt) : Bool := ((kdE x y).1 == 5) || ((((kdE x y).1 == 3) || ((kdE x y).1 == 4)) && decide ((lowE x y).1 = low))
def clI (low x : Pt) (a : Nat) : List Pt → Nat → List Cl
 | [], _ => []
 | y :: r, b => (bif decide ((b : Int) ≤ (a : Int)) then [] else bif clB low x y then [⟨a, b, (kdE x y).1⟩] else []) ++ clI low x a r (b + 1)
theorem clI_1 {low x y : Pt} {a b : Nat} {r : List Pt} (h : decide ((b : Int) ≤ (a : Int)) = true) : clI low x a (y :: r) b = clI low x a r (b + 1) := by rw [clI, h]; rfl
theorem clI_2 {low x y : Pt} {a b : Nat} {r : List Pt} (h : decide ((b : Int) ≤ (a : Int)) = false) (h2 : clB low x y = true) : clI low x a (y :: r) b = ⟨a, b, (kdE x y).1⟩ :: clI low x a r (b + 1) := by rw [clI, h, h2]; rfl
theorem clI_3 {low x y : Pt} {a b : Nat} {r : List Pt} (h : decide ((b : Int) ≤ (a : Int)) = false) (h2 : clB low x y = false) : clI low x a (y :: r) b = clI low x a r (b + 1) := by rw [clI, h, h2]; rfl
def clO (low : Pt) (C : List Pt) : List Pt → Nat → List Cl
 | [], _ => []
 | x :: r, a => clI low x a C 0 ++ clO low C r (a + 1)
def clE (C : List Pt) : List Cl := clO ((nth C (bsE C)).getD p0) C C 0
theorem clO_step {low x : Pt} {C r : List Pt} {a : Nat} : clO low C (x :: r) a = clI low x a C 0 ++ clO low C r (a + 1) := rfl
theorem bsG_lt (C : List Pt) : ∀ (r : List Pt) (i b : Nat), i + r.length ≤ C.length → b < C.length → bsG C r i b < C.length
 | [], _, b, _, h => h
 | x :: r, i, b, hi, h => by
  have hi : i + (r.length + 1) ≤ C.length := hi
  show bsG C r (i + 1) (bif bsB x ((nth C b).getD p0) then i else b) < _
  refine bsG_lt C r (i + 1) _ (by omega) ?_
  cases bsB x ((nth C b).getD p0) with
  | true => show i < _; omega
  | false => exact h
theorem bsE_lt {C : List Pt} (h : 0 < C.length) : bsE C < C.length := bsG_lt C C 0 0 (by omega) h
def clsE (C : List Pt) : List Cl × Int := bif chkE C != 0 then ([], chkE C) else (clE C, 0)
theorem cls_1 {C : List Pt} (h : (chkE C != 0) = true) : clsE C = ([], chkE C) := by unfold clsE; rw [h]; rfl
theorem cls_2 {C : List Pt} (h : (chkE C != 0) = false) : clsE C = (clE C, 0) := by unfold clsE; rw [h]; rfl
theorem chk_len {C : List Pt} (h : (chkE C != 0) = false) : C.length ≤ 8 := by
 cases h1 : decide ((C.length : Int) > 8) with
 | true => rw [chk_1 h1] at h; cases h
 | false => have := of_decide_eq_false h1; omega
theorem ev_len {C : List Ev} (h : ((evE C).1 != 0) = false) : C.length ≤ 2000 := by
 cases h1 : decide ((C.length : Int) > 2000) with
 | true => rw [ev_1 h1] at h; cases h
 | false => have := of_decide_eq_false h1; omega
theorem LsOf.tail {α : Type} {P : Program} {e t : TypeId} {z : Nat} {f : α → List Value} {S S1 : St} {a : Option Addr} {n cap : Nat} {x : α} {C : List α} (h : LsOf e z f S (.slice a n cap) (x :: C)) (hk : RK S S1) (hu : P.underlying t = some (.slice e)) (hz : szOf P e = some z) :
  ∃ a2 cap2, sliceV P t (.slice a n cap) (some (.int .i64 1)) none none S1 = some (.slice a2 C.length cap2) ∧ LsOf e z f S (.slice a2 C.length cap2) C := by
 rcases h with ⟨h1, _⟩ | ⟨b, o, cap0, cs, e1, hcap, hr, h3⟩
 ·cases h1
 ·rw [List.length_map] at e1 hcap
  cases e1
  obtain ⟨_, own, kin, hg⟩ := hk.2 _ _ _ hr
  have hc : C.length + 1 ≤ cap := hcap
  refine ⟨some ⟨b, o + 1 * z, none⟩, cap - 1, ?_, .inr ⟨b, o + 1 * z, cap - 1, cs, ?_, ?_, hr, fun j y hy => ?_⟩⟩
  ·unfold sliceV
   have hb3 : bounds3 (C.length + 1) cap (some (.int .i64 1)) none none = some (1, C.length + 1, cap) := by
    unfold bounds3 sliceBnd
    simp only
    rw [if_pos ⟨by omega, by omega⟩]
    rfl
   have hrs : rowSize P S1 b z = true := by
    unfold rowSize
    rw [hg]
    simp only [hz]
    exact nbeq_tt _
   simp only [hu, hz, hb3, hrs, cond_true, Option.isSome_none, Bool.false_and, cond_false, List.length_cons, Nat.add_sub_cancel]
  ·rw [List.length_map]
  ·rw [List.length_map]; omega
  ·have := h3 (j + 1) y hy
   rw [show o + 1 * z + j * z = o + (j + 1) * z by rw [Nat.add_mul]; omega]
   exact this
def Vs (S : St) (v : Value) (V : List (List Ev)) : Prop := ∃ ws : List Value, LsOf 23 1 (fun w => [w]) S v ws ∧ ws.length = V.length ∧ ∀ k w x, nth ws k = some w → nth V k = some x → Evs S w x
theorem Vs.move {S S' : St} (h : RK S S') {v : Value} {V : List (List Ev)} (hs : Vs S v V) : Vs S' v V := by
 obtain ⟨ws, h1, h2, h3⟩ := hs
 exact ⟨ws, h1.move h, h2, fun k w x a b => (h3 k w x a b).move h⟩
theorem Vs.is {S : St} {v : Value} {V : List (List Ev)} (h : Vs S v V) : ∃ a cap, v = .slice a V.length cap := by
 obtain ⟨ws, h1, h2, _⟩ := h
 obtain ⟨a, cap, e⟩ := h1.is
 exact ⟨a, cap, by rw [e, h2]⟩
theorem Vs.elem {S : St} {a : Option Addr} {n cap : Nat} {V : List (List Ev)} (h : Vs S (.slice a n cap) V) {k : Nat} {x : List Ev} (hk : nth V k = some x) :
  ∃ b o cs aw cw, a = some ⟨b, o, none⟩ ∧ n = V.length ∧ RowAt S b 23 cs ∧ nth cs (o + k * 1) = some (.slice aw x.length cw) ∧ Evs S (.slice aw x.length cw) x := by
 obtain ⟨ws, h1, h2, h3⟩ := h
 obtain ⟨w, hw⟩ := nth_some (l := ws) (i := k) (by have := nth_lt hk; omega)
 obtain ⟨b, o, cs, e1, e2, e3, e4⟩ := h1.elem hw
 have hv := h3 k w x hw hk
 obtain ⟨aw, cw, rfl⟩ := hv.is
 exact ⟨b, o, cs, aw, cw, e1, e2.trans h2, e3, tk_nth e4 (j := 0) rfl, hv⟩
def acG : List (List Ev) → Nat → Int × Int
 | [], _ => (0, 0)
 | x :: r, i => bif (evE x).1 != 0 then ((evE x).1, (i : Int)) else acG r (i + 1)
theorem acG_1 {x : List Ev} {r : List (List Ev)} {i : Nat} (h : ((evE x).1 != 0) = true) : acG (x :: r) i = ((evE x).1, (i : Int)) := by unfold acG; rw [h]; rfl
theorem acG_2 {x : List Ev} {r : List (List Ev)} {i : Nat} (h : ((evE x).1 != 0) = false) : acG (x :: r) i = acG r (i + 1) := by rw [acG, h]; rfl
def acE (V : List (List Ev)) : Int × Int := bif decide ((V.length : Int) > 8) then (11, 0) else acG V 0
theorem ac_1 {V : List (List Ev)} (h : decide ((V.length : Int) > 8) = true) : acE V = (11, 0) := by unfold acE; rw [h]; rfl
theorem ac_2 {V : List (List Ev)} (h : decide ((V.length : Int) > 8) = false) : acE V = acG V 0 := by unfold acE; rw [h]; rfl
def hdT (A : List Ti) : Ti := (nth A 0).getD zT
def swB (A B : List Ti) : Bool := ((A.length : Int) == 0) || (decide ((B.length : Int) > 0) && decide ((cmpE (hdT B) (hdT A)).1 < 0))
def swp (A B : List Ti) : List Ti × List Ti := bif swB A B then (B, A) else (A, B)
def psB (O : List Ti) (x : Ti) : Bool := ((O.length : Int) == 0) || (!decide ((nth O (O.length - 1)).getD zT = x))
def psh (O : List Ti) (x : Ti) : List Ti := bif psB O x then O ++ [x] else O
def mgG : Nat → List Ti → List Ti → List Ti → List Ti
 | 0, _, _, O => O
 | n + 1, A, B, O => match (swp A B).1 with
  | [] => O
  | x :: r => mgG n r (swp A B).2 (psh O x)
def mgE (A B : List Ti) : List Ti := mgG (A.length + B.length) A B []
theorem swp_len (A B : List Ti) : (swp A B).1.length + (swp A B).2.length = A.length + B.length := by
 unfold swp
 cases swB A B with
 | true => show B.length + A.length = _; omega
 | false => rfl
theorem swp_pos {A B : List Ti} (h : 0 < A.length + B.length) : ∃ x r, (swp A B).1 = x :: r := by
 unfold swp
 cases hs : swB A B with
 | true =>
  show ∃ x r, B = x :: r
  cases B with
  | cons x r => exact ⟨x, r, rfl⟩
  | nil =>
   unfold swB at hs
   cases A with
   | nil => exact absurd h (by simp)
   | cons y q => simp at hs; omega
 | false =>
  show ∃ x r, A = x :: r
  cases A with
  | cons x r => exact ⟨x, r, rfl⟩
  | nil => unfold swB at hs; simp at hs
theorem mg_step {n : Nat} {A B A1 B1 O : List Ti} {x : Ti} {r : List Ti} (h : swp A B = (A1, B1)) (hx : A1 = x :: r) : mgG (n + 1) A B O = mgG n r B1 (psh O x) := by
 rw [mgG, h, hx]
def moG : List (List Ev) → List Ti → List Ti
 | [], O => O
 | v :: r, O => moG r (mgE O (v.map Ev.at_ ++ bif decide ((v.length : Int) > 0) then [(endE v).1] else []))
def moE (V : List (List Ev)) : List Ti := moG V []
theorem eqTime (s r : Ti) : eqV Tryd.prog eqDepth 33 s.v r.v = some (decide (s = r)) := by
 have h : eqV Tryd.prog 40 33 (aggL s.cells) (aggL r.cells) = _ := eq_struct Tryd.underlying33 (by kernel_rfl) (eqFields_cons (by kernel_rfl) (part1 (by kernel_rfl) rfl) (part1 (by kernel_rfl) rfl) (eq_int Tryd.underlying3) (eqFields_cons (by kernel_rfl) (part1 (by kernel_rfl) rfl) (part1 (by kernel_rfl) rfl) (eq_int Tryd.underlying3) rfl))
 refine h.trans (congrArg some ?_)
 cases s; cases r
 simp only [Ti.mk.injEq]
 rw [Bool.eq_iff_iff]
 simp [and_assoc]
theorem neTime (xo yo : Operand) (s r : Ti) : binV Tryd.prog .neq 33 xo yo s.v r.v = some (.bool (!decide (s = r))) := bin_ne (by kernel_rfl) (eqTime s r)
theorem isTime (xo yo : Operand) (s r : Ti) : binV Tryd.prog .eql 33 xo yo s.v r.v = some (.bool (decide (s = r))) := bin_eq (by kernel_rfl) (eqTime s r)
theorem eqPitch (s r : Pt) : eqV Tryd.prog eqDepth 37 s.v r.v = some (decide (s = r)) := by
 have h : eqV Tryd.prog 40 37 (aggL s.cells) (aggL r.cells) = _ := eq_struct Tryd.underlying37 (by kernel_rfl) (eqFields_cons (by kernel_rfl) (part1 (by kernel_rfl) rfl) (part1 (by kernel_rfl) rfl) (eq_int Tryd.underlying3) (eqFields_cons (by kernel_rfl) (part1 (by kernel_rfl) rfl) (part1 (by kernel_rfl) rfl) (eq_int Tryd.underlying3) (eqFields_cons (by kernel_rfl) (part1 (by kernel_rfl) rfl) (part1 (by kernel_rfl) rfl) (eq_int Tryd.underlying3) rfl)))
 refine h.trans (congrArg some ?_)
 cases s; cases r
 simp only [Pt.mk.injEq]
 rw [Bool.eq_iff_iff]
 simp [and_assoc]
theorem nePitch (xo yo : Operand) (s r : Pt) : binV Tryd.prog .neq 37 xo yo s.v r.v = some (.bool (!decide (s = r))) := bin_ne (by kernel_rfl) (eqPitch s r)
theorem isPitch (xo yo : Operand) (s r : Pt) : binV Tryd.prog .eql 37 xo yo s.v r.v = some (.bool (decide (s = r))) := bin_eq (by kernel_rfl) (eqPitch s r)
theorem i6 {x : Int} (h : -9223372036854775808 ≤ x ∧ x ≤ 9223372036854775807) : some (Value.int .i64 (IntKind.i64.wrap x)) = some (.int .i64 x) := congrArg some (congrArg (Value.int .i64) (IntWalk.i64_in x h))
theorem az27 : allSz Tryd.prog 27 = true := by kernel_rfl
theorem az33 : allSz Tryd.prog 33 = true := by kernel_rfl
theorem az37 : allSz Tryd.prog 37 = true := by kernel_rfl
theorem az39 : allSz Tryd.prog 39 = true := by kernel_rfl
theorem az67 : allSz Tryd.prog 67 = true := by kernel_rfl
theorem az72 : allSz Tryd.prog 72 = true := by kernel_rfl
theorem az83 : allSz Tryd.prog 83 = true := by kernel_rfl
theorem az90 : allSz Tryd.prog 90 = true := by kernel_rfl
theorem az118 : allSz Tryd.prog 118 = true := by kernel_rfl
theorem az127 : allSz Tryd.prog 127 = true := by kernel_rfl
theorem az131 : allSz Tryd.prog 131 = true := by kernel_rfl
theorem az148 : allSz Tryd.prog 148 = true := by kernel_rfl
theorem az154 : allSz Tryd.prog 154 = true := by kernel_rfl
end Go.Proofs.YtlnenodplgpceaaDoor
namespace Go.Proofs.YtlnenodplgpceaaDoor
open Go.Cm Go
set_option maxRecDepth 100000
variable {S : St}
noncomputable def c84 : Code := Tryd.f84.body.getD .skip
theorem spec84 (a b : Int) (ha : 0 ≤ a) (ha2 : a ≤ 9223372036854775807) (hb : 0 < b) : CC Tryd.prog KK 84 [.int .i64 a, .int .i64 b] S (fun v S' => Keep S S' ∧ v = tupV [.int .i64 (a.tdiv b), .int .i64 (a.tmod b)]) := by
 refine cc_enter (c := c84) (n := 12) Tryd.func84 rfl rfl rfl (by kernel_rfl) rfl rfl ?_
 have hl := Hold.start S
 refine xs (by kernel_rfl) ?_; iterate 2 refine rm rfl ?_
 refine re_end rfl ?_; refine xp_seq rfl ?_; refine xp_draw (idx := [0, 1, 2, 3, 4, 5, 6, 7]) rfl (by kernel_rfl) (by kernel_rfl) ?_; iterate 2 refine pm rfl ?_
 refine pr rfl (rd_bin rfl rfl rfl (quoV hb ha ha2)) ?_; iterate 2 refine pm rfl ?_
 refine pr rfl (rd_bin rfl rfl rfl (remV hb)) ?_; iterate 2 refine pm rfl ?_
 refine rp_end rfl ?_; refine xp_ret rfl ?_
 refine done_ret (ress_tmp rfl (ress_tmp rfl rfl)) ⟨hl.keep, rfl⟩
noncomputable def c72 : Code := Tryd.f72.body.getD .skip
theorem spec72 (k : Nat) : ∀ {S : St} (a b : Int), b < (k : Int) → 0 ≤ a → a ≤ 9223372036854775807 → 0 ≤ b → b ≤ 9223372036854775807 → CC Tryd.prog KK 72 [.int .i64 a, .int .i64 b] S (fun v S' => Keep S S' ∧ v = .int .i64 (gI a b)) := by
 induction k with
 | zero => intro S a b h1 _ _ h2 _; omega
 | succ k ih => ?_
 intro S a b hk ha ha2 hb0 hb2
 refine cc_enter (c := c72) (n := 19) Tryd.func72 rfl rfl rfl (by kernel_rfl) rfl rfl ?_
 have hl := Hold.start S
 refine xs (by kernel_rfl) ?_; refine rm rfl ?_; refine re_end rfl ?_; refine xp_seq rfl ?_; refine xs (by kernel_rfl) ?_; refine rm rfl ?_; refine rr rfl (rd_bin rfl rfl rfl rfl) ?_; refine re_end rfl ?_; refine xp_cond rfl rfl (fun h8 => ?_) (fun h8 => ?_)
 ·
  refine xs (by kernel_rfl) ?_; iterate 2 refine rm rfl ?_
  refine re_end rfl ?_; refine xp_ret rfl ?_
  refine thn_ret (done_ret (ress_tmp rfl rfl) ⟨hl.keep, congrArg (Value.int .i64) (gI_z h8 ha)⟩)
 ·
  have hb : 0 < b := by simp at h8; omega
  have hr := rem_bd (a := a) hb ha
  refine xp_skip rfl ?_; refine xs (by kernel_rfl) ?_; iterate 2 refine rm rfl ?_
  refine re_callL hl rfl rfl rfl rfl rfl rfl rfl (spec84 a b ha ha2 hb) ?_; rintro v S1 hk1 rfl hl
  iterate 5 refine rm rfl ?_
  refine re_end rfl ?_; refine xs (by kernel_rfl) ?_; iterate 2 refine rm rfl ?_
  refine re_callL hl rfl rfl rfl rfl rfl rfl rfl (ih b (a.tmod b) (by omega) (by omega) hb2 hr.1 (by omega)) ?_; rintro v S1 hk1 rfl hl
  refine rm rfl ?_; refine re_end rfl ?_; refine xp_ret rfl ?_
  refine done_ret (ress_tmp rfl rfl) ⟨hl.keep, congrArg (Value.int .i64) (gI_step ha hb)⟩
noncomputable def c57 : Code := Tryd.f57.body.getD .skip
theorem spec57 (t : Ti) : CC Tryd.prog KK 57 [t.v] S (fun v S' => Keep S S' ∧ v = .int .i64 (tE t)) := by
 refine cc_enter (c := c57) (n := 29) Tryd.func57 rfl rfl rfl (by kernel_rfl) rfl rfl ?_
 have hl := Hold.start S
 refine xs (by kernel_rfl) ?_; refine re_boxL hl rfl rfl rfl rfl rfl rfl ?_; intro B1 S1 hl; refine rm rfl ?_; refine re_end rfl ?_; refine xp_seq rfl ?_; refine xp_block rfl ?_; refine xp_seq rfl (xe_toE hl 3 (.bool (tB t)) ?_ rfl ?_)
 ·
  refine xg (by kernel_rfl) ?_; refine rr rfl (rd_fieldAddr rfl rfl (fa Tryd.underlying33 az33 rfl)) ?_; refine rr rfl (rl hl 0 rfl rfl (by kernel_rfl) rfl rfl) ?_; refine rr rfl (rd_bin rfl rfl rfl rfl) ?_; refine rm rfl ?_; refine re_bool (d := 7) rfl (fun h7 => ?_) (fun h7 => ?_)
  ·
   iterate 3 refine rz rfl ?_
   iterate 2 refine rm rfl ?_
   iterate 3 refine rz rfl ?_
   iterate 2 refine rm rfl ?_
   iterate 3 refine rz rfl ?_
   iterate 2 refine rm rfl ?_
   refine re_end rfl ?_
   exact ⟨rfl, bl (by unfold tB; rw [h7]; rfl), by repeat (first | exact subL_refl _ | refine subL_skip rfl ?_), hl⟩
  ·
   refine rr rfl (rd_fieldAddr rfl rfl (fa Tryd.underlying33 az33 rfl)) ?_; refine rr rfl (rl hl 0 rfl rfl (by kernel_rfl) rfl rfl) ?_; refine rr rfl (rd_bin rfl rfl rfl rfl) ?_; iterate 2 refine rm rfl ?_
   refine re_bool (d := 12) rfl (fun h12 => ?_) (fun h12 => ?_)
   ·
    iterate 3 refine rz rfl ?_
    iterate 2 refine rm rfl ?_
    iterate 3 refine rz rfl ?_
    iterate 2 refine rm rfl ?_
    refine re_end rfl ?_
    exact ⟨rfl, bl (by unfold tB; rw [h7, h12]; rfl), by repeat (first | exact subL_refl _ | refine subL_skip rfl ?_), hl⟩
   ·
    refine rr rfl (rd_fieldAddr rfl rfl (fa Tryd.underlying33 az33 rfl)) ?_; refine rr rfl (rl hl 0 rfl rfl (by kernel_rfl) rfl rfl) ?_; refine rr rfl (rd_bin rfl rfl rfl rfl) ?_; iterate 2 refine rm rfl ?_
    refine re_bool (d := 17) rfl (fun h17 => ?_) (fun h17 => ?_)
    ·
     iterate 3 refine rz rfl ?_
     iterate 2 refine rm rfl ?_
     refine re_end rfl ?_
     exact ⟨rfl, bl (by unfold tB; rw [h7, h12, h17]; rfl), by repeat (first | exact subL_refl _ | refine subL_skip rfl ?_), hl⟩
    ·
     refine rr rfl (rd_fieldAddr rfl rfl (fa Tryd.underlying33 az33 rfl)) ?_; refine rr rfl (rl hl 0 rfl rfl (by kernel_rfl) rfl rfl) ?_; refine rr rfl (rd_bin rfl rfl rfl rfl) ?_; iterate 2 refine rm rfl ?_
     refine re_end rfl ?_
     exact ⟨rfl, bl (by unfold tB; rw [h7, h12, h17]; rfl), by repeat (first | exact subL_refl _ | refine subL_skip rfl ?_), hl⟩
 intro S1 hl
 refine xp_cond rfl rfl (fun h3 => ?_) (fun h3 => ?_)
 ·
  refine xs (by kernel_rfl) ?_; refine rm rfl ?_; refine re_end rfl ?_; refine xp_ret rfl ?_
  refine blk_ret (thn_ret (done_ret (ress_tmp rfl rfl) ⟨hl.keep, congrArg (Value.int .i64) (tE_1 h3).symm⟩))
 ·
  have hb := tB_ok h3
  refine xs (by kernel_rfl) ?_; refine rr rfl (rd_fieldAddr rfl rfl (fa Tryd.underlying33 az33 rfl)) ?_; refine rr rfl (rl hl 0 rfl rfl (by kernel_rfl) rfl rfl) ?_; refine rr rfl (rd_fieldAddr rfl rfl (fa Tryd.underlying33 az33 rfl)) ?_; refine rr rfl (rl hl 0 rfl rfl (by kernel_rfl) rfl rfl) ?_
  refine re_callL hl rfl rfl rfl rfl rfl rfl rfl (spec72 ((t.d).toNat + 1) t.n t.d (by omega) (by omega) (by omega) (by omega) (by omega)) ?_; rintro v S1 hk1 rfl hl
  refine rr rfl (rd_bin rfl rfl rfl rfl) ?_; refine rm rfl ?_; refine re_end rfl ?_; refine xp_cond rfl rfl (fun h22 => ?_) (fun h22 => ?_)
  ·
   refine xs (by kernel_rfl) ?_; refine rm rfl ?_; refine re_end rfl ?_; refine xp_ret rfl ?_
   refine blk_ret (thn_ret (done_ret (ress_tmp rfl rfl) ⟨hl.keep, congrArg (Value.int .i64) (tE_2 h3 h22).symm⟩))
  ·
   refine xp_skip rfl ?_; refine xs (by kernel_rfl) ?_; refine rm rfl ?_; refine re_end rfl ?_; refine xp_ret rfl ?_
   refine done_ret (ress_tmp rfl rfl) ⟨hl.keep, congrArg (Value.int .i64) (tE_3 h3 h22).symm⟩
end Go.Proofs.YtlnenodplgpceaaDoor
namespace Go.Proofs.YtlnenodplgpceaaDoor
open Go.Cm Go
set_option maxRecDepth 100000
variable {S : St}
noncomputable def c58 : Code := Tryd.f58.body.getD .skip
theorem spec58 (a : Option Addr) (cap : Nat) (C : List Ti) (hn : C.length ≤ 1000) (hv : Tis S (.slice a C.length cap) C) : CC Tryd.prog KK 58 [.slice a C.length cap] S (fun v S' => Keep S S' ∧ v = .int .i64 (firstE C)) := by
 refine cc_enter (c := c58) (n := 18) Tryd.func58 rfl rfl rfl (by kernel_rfl) rfl rfl ?_
 have hl := Hold.start S
 refine xs (by kernel_rfl) ?_; refine rm rfl ?_; refine re_end rfl ?_; refine xp_seq rfl ?_; refine xs (by kernel_rfl) ?_; refine rm rfl ?_; refine rr rfl (rd_len rfl rfl (len_slice Tryd.underlying44)) ?_; refine rm rfl ?_; refine re_end rfl ?_; refine xp_block rfl ?_
 -- LOOP
 refine xe_sub (L' := [(8, .int .i64 0), (7, .int .i64 C.length), (6, .slice a C.length cap), (2, .int .i64 0)]) ⟨rfl, rfl, rfl, rfl, trivial⟩ ?_
 refine xp_loop rfl (fun m Le S' => ∃ i : Nat, i ≤ C.length ∧ m = C.length - i ∧ SubE [(8, .int .i64 (i : Int)), (7, .int .i64 C.length), (6, .slice a C.length cap), (2, .int .i64 0)] Le ∧ firstE (C.drop i) = firstE C ∧ Hold S [S] S' []) ?_ (m := C.length) ⟨0, by omega, rfl, ⟨rfl, rfl, rfl, rfl, trivial⟩, rfl, hl⟩
 clear hl; rintro m Le S' ⟨i, hi, rfl, hsub, hin, hl⟩; refine xe_sub hsub ?_
 refine xs (by kernel_rfl) ?_; refine rr rfl (rd_bin rfl rfl rfl rfl) ?_; refine re_end rfl ?_; refine xp_seq rfl ?_; refine xp_cond rfl rfl (fun h9 => ?_) (fun h9 => ?_)
 ·
  have hlt : i < C.length := by have := of_decide_eq_true h9; omega
  obtain ⟨x, hx⟩ := nth_some hlt
  obtain ⟨b1, o1, cs1, ha, _, hrow, htk⟩ := hv.elem hx
  refine xp_skip rfl ?_; refine xp_seq rfl ?_; refine xp_block rfl ?_; refine xs (by kernel_rfl) ?_; refine rr rfl (rd_indexAddr rfl rfl rfl (indexAddr_sl (z := 2) ha Tryd.underlying44 (by kernel_rfl) ⟨by omega, by first | omega | (simp only [List.length_cons]; omega)⟩)) ?_; refine rr rfl (rd_load rfl rfl (loadN_row (z := 2) (by kernel_rfl) (by kernel_rfl) (row_move (hl.since 0 rfl) hrow) htk)) ?_; refine re_allocL hl rfl rfl rfl rfl rfl (z := [.int .i64 0, .int .i64 0]) (by kernel_rfl) ?_; intro B4 S4 hl; refine re_storeL hl 0 rfl rfl rfl rfl rfl rfl rfl (by kernel_rfl) rfl ?_; intro S1 hl
  refine re_end rfl ?_; refine xs (by kernel_rfl) ?_; refine rr rfl (rd_load rfl rfl (loadN_of (z := 2) (by kernel_rfl) (by kernel_rfl) (hl.get 0 rfl) rfl)) ?_
  refine re_callL hl rfl rfl rfl rfl rfl rfl rfl (spec57 x) ?_; rintro v S1 hk1 rfl hl
  refine rm rfl ?_; refine re_end rfl ?_; refine xs (by kernel_rfl) ?_; refine rm rfl ?_; refine rr rfl (rd_bin rfl rfl rfl rfl) ?_; refine re_end rfl ?_; refine xp_cond rfl rfl (fun h15 => ?_) (fun h15 => ?_)
  ·
   refine xs (by kernel_rfl) ?_; iterate 2 refine rm rfl ?_
   refine re_end rfl ?_; refine xp_ret rfl ?_
   refine blk_ret (thn_ret (round_ret (blk_ret (thn_ret (done_ret (ress_tmp rfl rfl) ⟨hl.keep, congrArg (Value.int .i64) (by rw [← hin, drop_nth' hx, first_bad h15])⟩)))))
  ·
   refine xp_skip rfl ?_; refine xg (by kernel_rfl) ?_; refine rr rfl (rd_bin rfl rfl rfl (i6 (by omega))) ?_; refine rm rfl ?_; refine re_end rfl ?_
   exact ⟨C.length - (i + 1), by omega, i + 1, by omega, rfl, ⟨rfl, rfl, rfl, rfl, trivial⟩, by rw [← first_go h15, ← drop_nth' hx]; exact hin, hl.tail⟩
 ·
  refine xp_exit rfl ?_; refine xs (by kernel_rfl) ?_; refine rm rfl ?_; refine re_end rfl ?_; refine xp_ret rfl ?_
  refine done_ret (ress_tmp rfl rfl) ⟨hl.keep, congrArg (Value.int .i64) (by rw [← hin, List.drop_eq_nil_of_le (by have := of_decide_eq_false h9; omega)]; rfl)⟩
end Go.Proofs.YtlnenodplgpceaaDoor
namespace Go.Proofs.YtlnenodplgpceaaDoor
open Go.Cm Go
set_option maxRecDepth 100000
variable {S : St}
noncomputable def c59 : Code := Tryd.f59.body.getD .skip
theorem spec59 (n d : Int) (hF : Fresh S) (hn : n ≤ 9223372036854775807) (hd : d ≤ 9223372036854775807) : CC Tryd.prog KK 59 [.int .i64 n, .int .i64 d] S (fun v S' => Keep S S' ∧ v = r2 (mkE n d)) := by
 refine cc_enter (c := c59) (n := 40) Tryd.func59 rfl rfl rfl (by kernel_rfl) rfl rfl ?_
 have hl := Hold.start S
 refine xs (by kernel_rfl) ?_; refine re_allocL hl rfl rfl rfl rfl rfl (z := [.int .i64 0, .int .i64 0]) (by kernel_rfl) ?_; intro B4 S4 hl; refine rm rfl ?_; refine re_end rfl ?_; refine xp_seq rfl ?_; refine xp_block rfl ?_; refine xp_seq rfl (xe_toE hl 8 (.bool (decide (n < 0) || decide (d < 0))) ?_ rfl ?_)
 ·
  refine xg (by kernel_rfl) ?_; refine rm rfl ?_; refine rr rfl (rd_bin rfl rfl rfl rfl) ?_; refine rm rfl ?_; refine re_bool (d := 11) rfl (fun h11 => ?_) (fun h11 => ?_)
  ·
   iterate 2 refine rz rfl ?_
   iterate 2 refine rm rfl ?_
   refine re_end rfl ?_
   exact ⟨rfl, bl (by first | (simp [h11]; done) | (simp only [h11, BLs])), by repeat (first | exact subL_refl _ | refine subL_skip rfl ?_), hl⟩
  ·
   refine rm rfl ?_; refine rr rfl (rd_bin rfl rfl rfl rfl) ?_; iterate 2 refine rm rfl ?_
   refine re_end rfl ?_
   exact ⟨rfl, bl (by first | (simp [h11]; done) | (simp only [h11, BLs])), by repeat (first | exact subL_refl _ | refine subL_skip rfl ?_), hl⟩
 intro S1 hl
 refine xp_cond rfl rfl (fun h8 => ?_) (fun h8 => ?_)
 ·
  refine xs (by kernel_rfl) ?_; refine rr rfl (rd_build rfl rfl (v := aggL [.int .i64 0, .int .i64 0]) (by rfl)) ?_; refine re_storeL hl 0 rfl rfl rfl rfl rfl rfl rfl (by kernel_rfl) rfl ?_; intro S1 hl; refine rm rfl ?_; refine re_end rfl ?_; refine xp_ret rfl ?_
  refine blk_ret (thn_ret (done_ret (ress_cell rfl (loadN_of (z := 2) (by kernel_rfl) (by kernel_rfl) (hl.get 0 rfl) rfl) (ress_tmp rfl rfl)) ⟨hl.keep, by rw [mkE_1 h8]; rfl⟩))
 ·
  refine xs (by kernel_rfl) ?_; refine rm rfl ?_; refine rr rfl (rd_bin rfl rfl rfl rfl) ?_; refine rm rfl ?_; refine re_end rfl ?_; refine xp_cond rfl rfl (fun h16 => ?_) (fun h16 => ?_)
  ·
   refine xs (by kernel_rfl) ?_; refine rr rfl (rd_build rfl rfl (v := aggL [.int .i64 0, .int .i64 0]) (by rfl)) ?_; refine re_storeL hl 0 rfl rfl rfl rfl rfl rfl rfl (by kernel_rfl) rfl ?_; intro S1 hl; refine rm rfl ?_; refine re_end rfl ?_; refine xp_ret rfl ?_
   refine blk_ret (thn_ret (done_ret (ress_cell rfl (loadN_of (z := 2) (by kernel_rfl) (by kernel_rfl) (hl.get 0 rfl) rfl) (ress_tmp rfl rfl)) ⟨hl.keep, by rw [mkE_2 h8 h16]; rfl⟩))
  ·
   refine xp_skip rfl ?_; refine xs (by kernel_rfl) ?_; iterate 2 refine rm rfl ?_
   have hb : 0 ≤ n ∧ 0 < d := by simp at h8 h16; omega
   have hg := gI_pos (a := n) hb.2
   refine re_callL hl rfl rfl rfl rfl rfl rfl rfl (spec72 ((d).toNat + 1) n d (by omega) hb.1 hn (by omega) hd) ?_; rintro v S1 hk1 rfl hl
   refine rm rfl ?_; refine re_end rfl ?_; refine xp_seq rfl ?_; refine xp_draw (idx := [0, 1, 2, 3, 4, 5, 6, 7, 8]) rfl (by kernel_rfl) (by kernel_rfl) ?_; iterate 2 refine pm rfl ?_
   refine pr rfl (rd_bin rfl rfl rfl (quoV hg hb.1 hn)) ?_; iterate 2 refine pm rfl ?_
   refine pr rfl (rd_bin rfl rfl rfl (quoV hg (by omega) hd)) ?_; refine pr rfl (rd_build rfl rfl (v := aggL [.int .i64 (n.tdiv (gI n d)), .int .i64 (d.tdiv (gI n d))]) (by rfl)) ?_; refine rp_allocL hF hl rfl rfl rfl rfl rfl (z := [.int .i64 0, .int .i64 0]) (by kernel_rfl) ?_; intro B7 S7 hl
   refine rp_storeL hl 0 rfl rfl rfl rfl rfl rfl rfl (by kernel_rfl) rfl ?_; intro S1 hl; refine ⟨stays_all (by kernel_rfl), ?_⟩
   refine rp_end rfl ?_; refine xp_seq rfl ?_; refine xp_seq rfl (xe_toE hl 37 (.bool (decide (n.tdiv (gI n d) > 1099511627776) || decide (d.tdiv (gI n d) > 1048576))) ?_ rfl ?_)
   ·
    refine xg (by kernel_rfl) ?_; refine rr rfl (rd_fieldAddr rfl rfl (fa Tryd.underlying33 az33 rfl)) ?_; refine rr rfl (rl hl 0 rfl rfl (by kernel_rfl) rfl rfl) ?_; refine rr rfl (rd_bin rfl rfl rfl rfl) ?_; refine rm rfl ?_; refine re_bool (d := 33) rfl (fun h33 => ?_) (fun h33 => ?_)
    ·
     iterate 3 refine rz rfl ?_
     refine rm rfl ?_; refine re_end rfl ?_
     exact ⟨rfl, bl (by first | (simp [h33]; done) | (simp only [h33, BLs])), by repeat (first | exact subL_refl _ | refine subL_skip rfl ?_), hl⟩
    ·
     refine rr rfl (rd_fieldAddr rfl rfl (fa Tryd.underlying33 az33 rfl)) ?_; refine rr rfl (rl hl 0 rfl rfl (by kernel_rfl) rfl rfl) ?_; refine rr rfl (rd_bin rfl rfl rfl rfl) ?_; refine rm rfl ?_; refine re_end rfl ?_
     exact ⟨rfl, bl (by first | (simp [h33]; done) | (simp only [h33, BLs])), by repeat (first | exact subL_refl _ | refine subL_skip rfl ?_), hl⟩
   intro S1 hl
   refine xp_cond rfl rfl (fun h37 => ?_) (fun h37 => ?_)
   ·
    refine xs (by kernel_rfl) ?_; refine rr rfl (rd_build rfl rfl (v := aggL [.int .i64 0, .int .i64 0]) (by rfl)) ?_; refine re_storeL hl 1 rfl rfl rfl rfl rfl rfl rfl (by kernel_rfl) rfl ?_; intro S1 hl; refine rm rfl ?_; refine re_end rfl ?_; refine xp_ret rfl ?_
    refine thn_ret (done_ret (ress_cell rfl (loadN_of (z := 2) (by kernel_rfl) (by kernel_rfl) (hl.get 1 rfl) rfl) (ress_tmp rfl rfl)) ⟨hl.keep, by rw [mkE_3 h8 h16 h37]; rfl⟩)
   ·
    refine xp_skip rfl ?_; refine xs (by kernel_rfl) ?_; refine rr rfl (rd_load rfl rfl (loadN_of (z := 2) (by kernel_rfl) (by kernel_rfl) (hl.get 0 rfl) rfl)) ?_; refine re_storeL hl 1 rfl rfl rfl rfl rfl rfl rfl (by kernel_rfl) rfl ?_; intro S1 hl; refine rm rfl ?_; refine re_end rfl ?_; refine xp_ret rfl ?_
    refine done_ret (ress_cell rfl (loadN_of (z := 2) (by kernel_rfl) (by kernel_rfl) (hl.get 1 rfl) rfl) (ress_tmp rfl rfl)) ⟨hl.keep, by rw [mkE_4 h8 h16 h37]; rfl⟩
end Go.Proofs.YtlnenodplgpceaaDoor
namespace Go.Proofs.YtlnenodplgpceaaDoor
open Go.Cm Go
set_option maxRecDepth 100000
variable {S : St}
noncomputable def c46 : Code := Tryd.f46.body.getD .skip
theorem spec46 (a b : Ti) (hF : Fresh S) : CC Tryd.prog KK 46 [a.v, b.v] S (fun v S' => Keep S S' ∧ v = r2 (addE a b)) := by
 refine cc_enter (c := c46) (n := 34) Tryd.func46 rfl rfl rfl (by kernel_rfl) rfl rfl ?_
 have hl := Hold.start S
 refine xs (by kernel_rfl) ?_; refine re_boxL hl rfl rfl rfl rfl rfl rfl ?_; intro B2 S2 hl; refine re_boxL hl rfl rfl rfl rfl rfl rfl ?_; intro B3 S3 hl; refine re_allocL hl rfl rfl rfl rfl rfl (z := [.int .i64 0, .int .i64 0]) (by kernel_rfl) ?_; intro B4 S4 hl; refine rm rfl ?_; refine re_end rfl ?_; refine xp_seq rfl ?_; refine xs (by kernel_rfl) ?_; refine rr rfl (rd_load rfl rfl (loadN_of (z := 2) (by kernel_rfl) (by kernel_rfl) (hl.get 2 rfl) rfl)) ?_; refine rr rfl (rd_load rfl rfl (loadN_of (z := 2) (by kernel_rfl) (by kernel_rfl) (hl.get 1 rfl) rfl)) ?_
 refine re_buildSliceR hl rfl rfl rfl rfl rfl Tryd.underlying44 rfl (c := ([a, b].map Ti.cells).flatten) (by kernel_rfl) ?_; intro B9 S1 hr9 hl
 refine re_callL hl rfl rfl rfl rfl rfl rfl rfl (spec58 (some ⟨B9, 0, none⟩) 2 [a, b] (by simp) (LsOf.row (fun _ => rfl) hr9 rfl)) ?_; rintro v S1 hk1 rfl hl
 refine rm rfl ?_; refine re_end rfl ?_; refine xs (by kernel_rfl) ?_; refine rm rfl ?_; refine rr rfl (rd_bin rfl rfl rfl rfl) ?_; refine re_end rfl ?_; refine xp_cond rfl rfl (fun h12 => ?_) (fun h12 => ?_)
 ·
  refine xs (by kernel_rfl) ?_; refine rr rfl (rd_build rfl rfl (v := aggL [.int .i64 0, .int .i64 0]) (by rfl)) ?_; refine rm rfl ?_; refine re_storeL hl 0 rfl rfl rfl rfl rfl rfl rfl (by kernel_rfl) rfl ?_; intro S1 hl; refine rm rfl ?_; refine re_end rfl ?_; refine xp_ret rfl ?_
  refine thn_ret (done_ret (ress_cell rfl (loadN_of (z := 2) (by kernel_rfl) (by kernel_rfl) (hl.get 0 rfl) rfl) (ress_tmp rfl rfl)) ⟨hl.keep, by rw [addE_1 h12]; rfl⟩)
 ·
  have hbd := firstBd h12
  refine xp_skip rfl ?_; refine xs (by kernel_rfl) ?_; refine rr rfl (rd_fieldAddr rfl rfl (fa Tryd.underlying33 az33 rfl)) ?_; refine rr rfl (rl hl 2 rfl rfl (by kernel_rfl) rfl rfl) ?_; refine rr rfl (rd_fieldAddr rfl rfl (fa Tryd.underlying33 az33 rfl)) ?_; refine rr rfl (rl hl 1 rfl rfl (by kernel_rfl) rfl rfl) ?_; refine rr rfl (rd_bin rfl rfl rfl (i6 (by omega))) ?_; refine rr rfl (rd_fieldAddr rfl rfl (fa Tryd.underlying33 az33 rfl)) ?_; refine rr rfl (rl hl 1 rfl rfl (by kernel_rfl) rfl rfl) ?_; refine rr rfl (rd_fieldAddr rfl rfl (fa Tryd.underlying33 az33 rfl)) ?_
  refine rr rfl (rl hl 2 rfl rfl (by kernel_rfl) rfl rfl) ?_; iterate 2 refine rr rfl (rd_bin rfl rfl rfl (i6 (by omega))) ?_
  refine rr rfl (rd_fieldAddr rfl rfl (fa Tryd.underlying33 az33 rfl)) ?_; refine rr rfl (rl hl 2 rfl rfl (by kernel_rfl) rfl rfl) ?_; refine rr rfl (rd_fieldAddr rfl rfl (fa Tryd.underlying33 az33 rfl)) ?_; refine rr rfl (rl hl 1 rfl rfl (by kernel_rfl) rfl rfl) ?_; refine rr rfl (rd_bin rfl rfl rfl (i6 (by omega))) ?_
  refine re_callL hl rfl rfl rfl rfl rfl rfl rfl (spec59 _ _ (hl.keep.3 hF) (by omega) (by omega)) ?_; rintro v S1 hk1 rfl hl
  iterate 2 refine rm rfl ?_
  refine re_storeL hl 0 rfl rfl rfl rfl rfl rfl rfl (by kernel_rfl) rfl ?_; intro S1 hl; refine rm rfl ?_; refine re_end rfl ?_; refine xp_ret rfl ?_
  refine done_ret (ress_cell rfl (loadN_of (z := 2) (by kernel_rfl) (by kernel_rfl) (hl.get 0 rfl) rfl) (ress_tmp rfl rfl)) ⟨hl.keep, by rw [addE_2 h12]; rfl⟩
noncomputable def c75 : Code := Tryd.f75.body.getD .skip
theorem spec75 (a b : Ti) (hF : Fresh S) : CC Tryd.prog KK 75 [a.v, b.v] S (fun v S' => Keep S S' ∧ v = r2 (subE a b)) := by
 refine cc_enter (c := c75) (n := 34) Tryd.func75 rfl rfl rfl (by kernel_rfl) rfl rfl ?_
 have hl := Hold.start S
 refine xs (by kernel_rfl) ?_; refine re_boxL hl rfl rfl rfl rfl rfl rfl ?_; intro B2 S2 hl; refine re_boxL hl rfl rfl rfl rfl rfl rfl ?_; intro B3 S3 hl; refine re_allocL hl rfl rfl rfl rfl rfl (z := [.int .i64 0, .int .i64 0]) (by kernel_rfl) ?_; intro B4 S4 hl; refine rm rfl ?_; refine re_end rfl ?_; refine xp_seq rfl ?_; refine xs (by kernel_rfl) ?_; refine rr rfl (rd_load rfl rfl (loadN_of (z := 2) (by kernel_rfl) (by kernel_rfl) (hl.get 2 rfl) rfl)) ?_; refine rr rfl (rd_load rfl rfl (loadN_of (z := 2) (by kernel_rfl) (by kernel_rfl) (hl.get 1 rfl) rfl)) ?_
 refine re_buildSliceR hl rfl rfl rfl rfl rfl Tryd.underlying44 rfl (c := ([a, b].map Ti.cells).flatten) (by kernel_rfl) ?_; intro B9 S1 hr9 hl
 refine re_callL hl rfl rfl rfl rfl rfl rfl rfl (spec58 (some ⟨B9, 0, none⟩) 2 [a, b] (by simp) (LsOf.row (fun _ => rfl) hr9 rfl)) ?_; rintro v S1 hk1 rfl hl
 refine rm rfl ?_; refine re_end rfl ?_; refine xs (by kernel_rfl) ?_; refine rm rfl ?_; refine rr rfl (rd_bin rfl rfl rfl rfl) ?_; refine re_end rfl ?_; refine xp_cond rfl rfl (fun h12 => ?_) (fun h12 => ?_)
 ·
  refine xs (by kernel_rfl) ?_; refine rr rfl (rd_build rfl rfl (v := aggL [.int .i64 0, .int .i64 0]) (by rfl)) ?_; refine rm rfl ?_; refine re_storeL hl 0 rfl rfl rfl rfl rfl rfl rfl (by kernel_rfl) rfl ?_; intro S1 hl; refine rm rfl ?_; refine re_end rfl ?_; refine xp_ret rfl ?_
  refine thn_ret (done_ret (ress_cell rfl (loadN_of (z := 2) (by kernel_rfl) (by kernel_rfl) (hl.get 0 rfl) rfl) (ress_tmp rfl rfl)) ⟨hl.keep, by rw [subE_1 h12]; rfl⟩)
 ·
  have hbd := firstBd h12
  refine xp_skip rfl ?_; refine xs (by kernel_rfl) ?_; refine rr rfl (rd_fieldAddr rfl rfl (fa Tryd.underlying33 az33 rfl)) ?_; refine rr rfl (rl hl 2 rfl rfl (by kernel_rfl) rfl rfl) ?_; refine rr rfl (rd_fieldAddr rfl rfl (fa Tryd.underlying33 az33 rfl)) ?_; refine rr rfl (rl hl 1 rfl rfl (by kernel_rfl) rfl rfl) ?_; refine rr rfl (rd_bin rfl rfl rfl (i6 (by omega))) ?_; refine rr rfl (rd_fieldAddr rfl rfl (fa Tryd.underlying33 az33 rfl)) ?_; refine rr rfl (rl hl 1 rfl rfl (by kernel_rfl) rfl rfl) ?_; refine rr rfl (rd_fieldAddr rfl rfl (fa Tryd.underlying33 az33 rfl)) ?_
  refine rr rfl (rl hl 2 rfl rfl (by kernel_rfl) rfl rfl) ?_; iterate 2 refine rr rfl (rd_bin rfl rfl rfl (i6 (by omega))) ?_
  refine rr rfl (rd_fieldAddr rfl rfl (fa Tryd.underlying33 az33 rfl)) ?_; refine rr rfl (rl hl 2 rfl rfl (by kernel_rfl) rfl rfl) ?_; refine rr rfl (rd_fieldAddr rfl rfl (fa Tryd.underlying33 az33 rfl)) ?_; refine rr rfl (rl hl 1 rfl rfl (by kernel_rfl) rfl rfl) ?_; refine rr rfl (rd_bin rfl rfl rfl (i6 (by omega))) ?_
  refine re_callL hl rfl rfl rfl rfl rfl rfl rfl (spec59 _ _ (hl.keep.3 hF) (by omega) (by omega)) ?_; rintro v S1 hk1 rfl hl
  iterate 2 refine rm rfl ?_
  refine re_storeL hl 0 rfl rfl rfl rfl rfl rfl rfl (by kernel_rfl) rfl ?_; intro S1 hl; refine rm rfl ?_; refine re_end rfl ?_; refine xp_ret rfl ?_
  refine done_ret (ress_cell rfl (loadN_of (z := 2) (by kernel_rfl) (by kernel_rfl) (hl.get 0 rfl) rfl) (ress_tmp rfl rfl)) ⟨hl.keep, by rw [subE_2 h12]; rfl⟩
end Go.Proofs.YtlnenodplgpceaaDoor
namespace Go.Proofs.YtlnenodplgpceaaDoor
open Go.Cm Go
set_option maxRecDepth 100000
variable {S : St}
noncomputable def c86 : Code := Tryd.f86.body.getD .skip
theorem spec86 (a b : Ti) : CC Tryd.prog KK 86 [a.v, b.v] S (fun v S' => Keep S S' ∧ v = tupV [.int .i64 (cmpE a b).1, .int .i64 (cmpE a b).2]) := by
 refine cc_enter (c := c86) (n := 32) Tryd.func86 rfl rfl rfl (by kernel_rfl) rfl rfl ?_
 have hl := Hold.start S
 refine xs (by kernel_rfl) ?_; refine re_boxL hl rfl rfl rfl rfl rfl rfl ?_; intro B2 S2 hl; refine re_boxL hl rfl rfl rfl rfl rfl rfl ?_; intro B3 S3 hl; iterate 2 refine rm rfl ?_
 refine re_end rfl ?_; refine xp_seq rfl ?_; refine xs (by kernel_rfl) ?_; refine rr rfl (rd_load rfl rfl (loadN_of (z := 2) (by kernel_rfl) (by kernel_rfl) (hl.get 1 rfl) rfl)) ?_; refine rr rfl (rd_load rfl rfl (loadN_of (z := 2) (by kernel_rfl) (by kernel_rfl) (hl.get 0 rfl) rfl)) ?_; refine re_buildSliceR hl rfl rfl rfl rfl rfl Tryd.underlying44 rfl (c := ([a, b].map Ti.cells).flatten) (by kernel_rfl) ?_; intro B10 S1 hr10 hl
 refine re_callL hl rfl rfl rfl rfl rfl rfl rfl (spec58 (some ⟨B10, 0, none⟩) 2 [a, b] (by simp) (LsOf.row (fun _ => rfl) hr10 rfl)) ?_; rintro v S1 hk1 rfl hl
 refine rm rfl ?_; refine re_end rfl ?_; refine xs (by kernel_rfl) ?_; refine rm rfl ?_; refine rr rfl (rd_bin rfl rfl rfl rfl) ?_; refine re_end rfl ?_; refine xp_cond rfl rfl (fun h13 => ?_) (fun h13 => ?_)
 ·
  refine xs (by kernel_rfl) ?_; iterate 3 refine rm rfl ?_
  refine re_end rfl ?_; refine xp_ret rfl ?_
  refine thn_ret (done_ret (ress_tmp rfl (ress_tmp rfl rfl)) ⟨hl.keep, by rw [cmpE_1 h13]⟩)
 ·
  have hbd := firstBd h13
  refine xp_skip rfl ?_; refine xp_seq rfl ?_; refine xs (by kernel_rfl) ?_; refine rr rfl (rd_fieldAddr rfl rfl (fa Tryd.underlying33 az33 rfl)) ?_; refine rr rfl (rl hl 1 rfl rfl (by kernel_rfl) rfl rfl) ?_; refine rr rfl (rd_fieldAddr rfl rfl (fa Tryd.underlying33 az33 rfl)) ?_; refine rr rfl (rl hl 0 rfl rfl (by kernel_rfl) rfl rfl) ?_; refine rr rfl (rd_bin rfl rfl rfl (i6 (by omega))) ?_; refine rr rfl (rd_fieldAddr rfl rfl (fa Tryd.underlying33 az33 rfl)) ?_; refine rr rfl (rl hl 0 rfl rfl (by kernel_rfl) rfl rfl) ?_; refine rr rfl (rd_fieldAddr rfl rfl (fa Tryd.underlying33 az33 rfl)) ?_
  refine rr rfl (rl hl 1 rfl rfl (by kernel_rfl) rfl rfl) ?_; iterate 2 refine rr rfl (rd_bin rfl rfl rfl (i6 (by omega))) ?_
  refine rm rfl ?_; refine re_end rfl ?_; refine xp_block rfl ?_; refine xs (by kernel_rfl) ?_; refine rm rfl ?_; refine rr rfl (rd_bin rfl rfl rfl rfl) ?_; refine rm rfl ?_; refine re_end rfl ?_; refine xp_cond rfl rfl (fun h26 => ?_) (fun h26 => ?_)
  ·
   refine xs (by kernel_rfl) ?_; iterate 2 refine rm rfl ?_
   refine re_end rfl ?_; refine xp_ret rfl ?_
   refine blk_ret (thn_ret (done_ret (ress_tmp rfl (ress_tmp rfl rfl)) ⟨hl.keep, by rw [cmpE_2 h13, sgn_1 h26]⟩))
  ·
   refine xs (by kernel_rfl) ?_; refine rm rfl ?_; refine rr rfl (rd_bin rfl rfl rfl rfl) ?_; refine rm rfl ?_; refine re_end rfl ?_; refine xp_cond rfl rfl (fun h29 => ?_) (fun h29 => ?_)
   ·
    refine xs (by kernel_rfl) ?_; iterate 2 refine rm rfl ?_
    refine re_end rfl ?_; refine xp_ret rfl ?_
    refine blk_ret (thn_ret (done_ret (ress_tmp rfl (ress_tmp rfl rfl)) ⟨hl.keep, by rw [cmpE_2 h13, sgn_2 h26 h29]⟩))
   ·
    refine xp_skip rfl ?_; refine xs (by kernel_rfl) ?_; iterate 2 refine rm rfl ?_
    refine re_end rfl ?_; refine xp_ret rfl ?_
    refine done_ret (ress_tmp rfl (ress_tmp rfl rfl)) ⟨hl.keep, by rw [cmpE_2 h13, sgn_3 h26 h29]⟩
noncomputable def c76 : Code := Tryd.f76.body.getD .skip
theorem spec76 (a b : Ti) : CC Tryd.prog KK 76 [a.v, b.v] S (fun v S' => Keep S S' ∧ v = .int .i64 (cmpE a b).1) := by
 refine cc_enter (c := c76) (n := 14) Tryd.func76 rfl rfl rfl (by kernel_rfl) rfl rfl ?_
 have hl := Hold.start S
 refine xs (by kernel_rfl) ?_; refine re_boxL hl rfl rfl rfl rfl rfl rfl ?_; intro B2 S2 hl; refine re_boxL hl rfl rfl rfl rfl rfl rfl ?_; intro B3 S3 hl; refine rm rfl ?_; refine re_end rfl ?_; refine xs (by kernel_rfl) ?_; refine rr rfl (rd_load rfl rfl (loadN_of (z := 2) (by kernel_rfl) (by kernel_rfl) (hl.get 1 rfl) rfl)) ?_; refine rr rfl (rd_load rfl rfl (loadN_of (z := 2) (by kernel_rfl) (by kernel_rfl) (hl.get 0 rfl) rfl)) ?_
 refine re_callL hl rfl rfl rfl rfl rfl rfl rfl (spec86 a b) ?_; rintro v S1 hk1 rfl hl
 iterate 5 refine rm rfl ?_
 refine re_end rfl ?_; refine xs (by kernel_rfl) ?_; iterate 2 refine rm rfl ?_
 refine re_end rfl ?_; refine xp_ret rfl ?_
 refine done_ret (ress_tmp rfl rfl) ⟨hl.keep, rfl⟩
end Go.Proofs.YtlnenodplgpceaaDoor
namespace Go.Proofs.YtlnenodplgpceaaDoor
open Go.Cm Go
set_option maxRecDepth 100000
variable {S : St}
noncomputable def c31 : Code := Tryd.f31.body.getD .skip
theorem spec31 (p : Pt) : CC Tryd.prog KK 31 [p.v] S (fun v S' => Keep S S' ∧ v = .int .i64 (pE p)) := by
 refine cc_enter (c := c31) (n := 31) Tryd.func31 rfl rfl rfl (by kernel_rfl) rfl rfl ?_
 have hl := Hold.start S
 refine xs (by kernel_rfl) ?_; refine re_boxL hl rfl rfl rfl rfl rfl rfl ?_; intro B1 S1 hl; refine rm rfl ?_; refine re_end rfl ?_; refine xp_seq rfl ?_; refine xp_seq rfl (xe_toE hl 30 (.bool (pB p)) ?_ rfl ?_)
 ·
  refine xg (by kernel_rfl) ?_; refine rr rfl (rd_fieldAddr rfl rfl (fa Tryd.underlying37 az37 rfl)) ?_; refine rr rfl (rl hl 0 rfl rfl (by kernel_rfl) rfl rfl) ?_; refine rr rfl (rd_bin rfl rfl rfl rfl) ?_; refine rm rfl ?_; refine re_bool (d := 6) rfl (fun h6 => ?_) (fun h6 => ?_)
  ·
   iterate 3 refine rz rfl ?_
   iterate 2 refine rm rfl ?_
   iterate 3 refine rz rfl ?_
   iterate 2 refine rm rfl ?_
   iterate 3 refine rz rfl ?_
   iterate 2 refine rm rfl ?_
   iterate 3 refine rz rfl ?_
   iterate 2 refine rm rfl ?_
   iterate 3 refine rz rfl ?_
   refine rm rfl ?_; refine re_end rfl ?_
   exact ⟨rfl, bl (by unfold pB; rw [h6]; rfl), by repeat (first | exact subL_refl _ | refine subL_skip rfl ?_), hl⟩
  ·
   refine rr rfl (rd_fieldAddr rfl rfl (fa Tryd.underlying37 az37 rfl)) ?_; refine rr rfl (rl hl 0 rfl rfl (by kernel_rfl) rfl rfl) ?_; refine rr rfl (rd_bin rfl rfl rfl rfl) ?_; iterate 2 refine rm rfl ?_
   refine re_bool (d := 11) rfl (fun h11 => ?_) (fun h11 => ?_)
   ·
    iterate 3 refine rz rfl ?_
    iterate 2 refine rm rfl ?_
    iterate 3 refine rz rfl ?_
    iterate 2 refine rm rfl ?_
    iterate 3 refine rz rfl ?_
    iterate 2 refine rm rfl ?_
    iterate 3 refine rz rfl ?_
    refine rm rfl ?_; refine re_end rfl ?_
    exact ⟨rfl, bl (by unfold pB; rw [h6, h11]; rfl), by repeat (first | exact subL_refl _ | refine subL_skip rfl ?_), hl⟩
   ·
    refine rr rfl (rd_fieldAddr rfl rfl (fa Tryd.underlying37 az37 rfl)) ?_; refine rr rfl (rl hl 0 rfl rfl (by kernel_rfl) rfl rfl) ?_; refine rr rfl (rd_bin rfl rfl rfl rfl) ?_; iterate 2 refine rm rfl ?_
    refine re_bool (d := 16) rfl (fun h16 => ?_) (fun h16 => ?_)
    ·
     iterate 3 refine rz rfl ?_
     iterate 2 refine rm rfl ?_
     iterate 3 refine rz rfl ?_
     iterate 2 refine rm rfl ?_
     iterate 3 refine rz rfl ?_
     refine rm rfl ?_; refine re_end rfl ?_
     exact ⟨rfl, bl (by unfold pB; rw [h6, h11, h16]; rfl), by repeat (first | exact subL_refl _ | refine subL_skip rfl ?_), hl⟩
    ·
     refine rr rfl (rd_fieldAddr rfl rfl (fa Tryd.underlying37 az37 rfl)) ?_; refine rr rfl (rl hl 0 rfl rfl (by kernel_rfl) rfl rfl) ?_; refine rr rfl (rd_bin rfl rfl rfl rfl) ?_; iterate 2 refine rm rfl ?_
     refine re_bool (d := 21) rfl (fun h21 => ?_) (fun h21 => ?_)
     ·
      iterate 3 refine rz rfl ?_
      iterate 2 refine rm rfl ?_
      iterate 3 refine rz rfl ?_
      refine rm rfl ?_; refine re_end rfl ?_
      exact ⟨rfl, bl (by unfold pB; rw [h6, h11, h16, h21]; rfl), by repeat (first | exact subL_refl _ | refine subL_skip rfl ?_), hl⟩
     ·
      refine rr rfl (rd_fieldAddr rfl rfl (fa Tryd.underlying37 az37 rfl)) ?_; refine rr rfl (rl hl 0 rfl rfl (by kernel_rfl) rfl rfl) ?_; refine rr rfl (rd_bin rfl rfl rfl rfl) ?_; iterate 2 refine rm rfl ?_
      refine re_bool (d := 26) rfl (fun h26 => ?_) (fun h26 => ?_)
      ·
       iterate 3 refine rz rfl ?_
       refine rm rfl ?_; refine re_end rfl ?_
       exact ⟨rfl, bl (by unfold pB; rw [h6, h11, h16, h21, h26]; rfl), by repeat (first | exact subL_refl _ | refine subL_skip rfl ?_), hl⟩
      ·
       refine rr rfl (rd_fieldAddr rfl rfl (fa Tryd.underlying37 az37 rfl)) ?_; refine rr rfl (rl hl 0 rfl rfl (by kernel_rfl) rfl rfl) ?_; refine rr rfl (rd_bin rfl rfl rfl rfl) ?_; refine rm rfl ?_; refine re_end rfl ?_
       exact ⟨rfl, bl (by unfold pB; rw [h6, h11, h16, h21, h26]; rfl), by repeat (first | exact subL_refl _ | refine subL_skip rfl ?_), hl⟩
 intro S1 hl
 refine xp_cond rfl rfl (fun h30 => ?_) (fun h30 => ?_)
 ·
  refine xs (by kernel_rfl) ?_; refine rm rfl ?_; refine re_end rfl ?_; refine xp_ret rfl ?_
  refine thn_ret (done_ret (ress_tmp rfl rfl) ⟨hl.keep, congrArg (Value.int .i64) (pE_1 h30).symm⟩)
 ·
  refine xp_skip rfl ?_; refine xs (by kernel_rfl) ?_; refine rm rfl ?_; refine re_end rfl ?_; refine xp_ret rfl ?_
  refine done_ret (ress_tmp rfl rfl) ⟨hl.keep, congrArg (Value.int .i64) (pE_2 h30).symm⟩
noncomputable def c32 : Code := Tryd.f32.body.getD .skip
theorem spec32 (p : Pt) (hp : pB p = false) : CC Tryd.prog KK 32 [p.v] S (fun v S' => Keep S S' ∧ v = aggL [.int .i64 (numI p), .int .i64 p.a]) := by
 refine cc_enter (c := c32) (n := 12) Tryd.func32 rfl rfl rfl (by kernel_rfl) rfl rfl ?_
 have hl := Hold.start S
 have hb := pB_ok hp
 refine xs (by kernel_rfl) ?_; refine re_boxL hl rfl rfl rfl rfl rfl rfl ?_; intro B1 S1 hl; refine re_allocL hl rfl rfl rfl rfl rfl (z := [.int .i64 0, .int .i64 0]) (by kernel_rfl) ?_; intro B2 S2 hl; refine re_end rfl ?_; refine xs (by kernel_rfl) ?_; refine rr rfl (rd_fieldAddr rfl rfl (fa Tryd.underlying37 az37 rfl)) ?_; refine rr rfl (rl hl 1 rfl rfl (by kernel_rfl) rfl rfl) ?_; refine rr rfl (rd_bin rfl rfl rfl (i6 (by omega))) ?_; refine rr rfl (rd_fieldAddr rfl rfl (fa Tryd.underlying37 az37 rfl)) ?_; refine rr rfl (rl hl 1 rfl rfl (by kernel_rfl) rfl rfl) ?_
 refine rr rfl (rd_bin rfl rfl rfl (i6 (by omega))) ?_; refine rr rfl (rd_fieldAddr rfl rfl (fa Tryd.underlying37 az37 rfl)) ?_; refine rr rfl (rl hl 1 rfl rfl (by kernel_rfl) rfl rfl) ?_; refine rr rfl (rd_build rfl rfl (v := aggL [.int .i64 (numI p), .int .i64 p.a]) (by rfl)) ?_; refine re_storeL hl 0 rfl rfl rfl rfl rfl rfl rfl (by kernel_rfl) rfl ?_; intro S1 hl; refine re_end rfl ?_; refine xp_ret rfl ?_
 refine done_ret (ress_cell rfl (loadN_of (z := 2) (by kernel_rfl) (by kernel_rfl) (hl.get 0 rfl) rfl) rfl) ⟨hl.keep, rfl⟩
noncomputable def c33 : Code := Tryd.f33.body.getD .skip
theorem spec33 (k a : Int) : CC Tryd.prog KK 33 [aggL [.int .i64 k, .int .i64 a]] S (fun v S' => Keep S S' ∧ v = rp (tpE k a)) := by
 refine cc_enter (c := c33) (n := 32) Tryd.func33 rfl rfl rfl (by kernel_rfl) rfl rfl ?_
 have hl := Hold.start S
 refine xs (by kernel_rfl) ?_; refine re_boxL hl rfl rfl rfl rfl rfl rfl ?_; intro B1 S1 hl; refine re_allocL hl rfl rfl rfl rfl rfl (z := [.int .i64 0, .int .i64 0, .int .i64 0]) (by kernel_rfl) ?_; intro B2 S2 hl; refine rm rfl ?_; refine re_end rfl ?_; refine xp_seq rfl ?_; refine xp_seq rfl (xe_toE hl 21 (.bool (tpB k a)) ?_ rfl ?_)
 ·
  refine xg (by kernel_rfl) ?_; refine rr rfl (rd_fieldAddr rfl rfl (fa Tryd.underlying83 az83 rfl)) ?_; refine rr rfl (rl hl 1 rfl rfl (by kernel_rfl) rfl rfl) ?_; refine rr rfl (rd_bin rfl rfl rfl rfl) ?_; refine rm rfl ?_; refine re_bool (d := 7) rfl (fun h7 => ?_) (fun h7 => ?_)
  ·
   iterate 3 refine rz rfl ?_
   iterate 2 refine rm rfl ?_
   iterate 3 refine rz rfl ?_
   iterate 2 refine rm rfl ?_
   iterate 3 refine rz rfl ?_
   refine rm rfl ?_; refine re_end rfl ?_
   exact ⟨rfl, bl (by unfold tpB; rw [h7]; rfl), by repeat (first | exact subL_refl _ | refine subL_skip rfl ?_), hl⟩
  ·
   refine rr rfl (rd_fieldAddr rfl rfl (fa Tryd.underlying83 az83 rfl)) ?_; refine rr rfl (rl hl 1 rfl rfl (by kernel_rfl) rfl rfl) ?_; refine rr rfl (rd_bin rfl rfl rfl rfl) ?_; iterate 2 refine rm rfl ?_
   refine re_bool (d := 12) rfl (fun h12 => ?_) (fun h12 => ?_)
   ·
    iterate 3 refine rz rfl ?_
    iterate 2 refine rm rfl ?_
    iterate 3 refine rz rfl ?_
    refine rm rfl ?_; refine re_end rfl ?_
    exact ⟨rfl, bl (by unfold tpB; rw [h7, h12]; rfl), by repeat (first | exact subL_refl _ | refine subL_skip rfl ?_), hl⟩
   ·
    refine rr rfl (rd_fieldAddr rfl rfl (fa Tryd.underlying83 az83 rfl)) ?_; refine rr rfl (rl hl 1 rfl rfl (by kernel_rfl) rfl rfl) ?_; refine rr rfl (rd_bin rfl rfl rfl rfl) ?_; iterate 2 refine rm rfl ?_
    refine re_bool (d := 17) rfl (fun h17 => ?_) (fun h17 => ?_)
    ·
     iterate 3 refine rz rfl ?_
     refine rm rfl ?_; refine re_end rfl ?_
     exact ⟨rfl, bl (by unfold tpB; rw [h7, h12, h17]; rfl), by repeat (first | exact subL_refl _ | refine subL_skip rfl ?_), hl⟩
    ·
     refine rr rfl (rd_fieldAddr rfl rfl (fa Tryd.underlying83 az83 rfl)) ?_; refine rr rfl (rl hl 1 rfl rfl (by kernel_rfl) rfl rfl) ?_; refine rr rfl (rd_bin rfl rfl rfl rfl) ?_; refine rm rfl ?_; refine re_end rfl ?_
     exact ⟨rfl, bl (by unfold tpB; rw [h7, h12, h17]; rfl), by repeat (first | exact subL_refl _ | refine subL_skip rfl ?_), hl⟩
 intro S1 hl
 refine xp_cond rfl rfl (fun h21 => ?_) (fun h21 => ?_)
 ·
  refine xs (by kernel_rfl) ?_; refine rr rfl (rd_build rfl rfl (v := aggL [.int .i64 0, .int .i64 0, .int .i64 0]) (by rfl)) ?_; refine re_storeL hl 0 rfl rfl rfl rfl rfl rfl rfl (by kernel_rfl) rfl ?_; intro S1 hl; refine rm rfl ?_; refine re_end rfl ?_; refine xp_ret rfl ?_
  refine thn_ret (done_ret (ress_cell rfl (loadN_of (z := 3) (by kernel_rfl) (by kernel_rfl) (hl.get 0 rfl) rfl) (ress_tmp rfl rfl)) ⟨hl.keep, by rw [tp_1 h21]; rfl⟩)
 ·
  have hb := tpB_ok h21
  refine xp_skip rfl ?_; refine xs (by kernel_rfl) ?_; refine rr rfl (rd_fieldAddr rfl rfl (fa Tryd.underlying83 az83 rfl)) ?_; refine rr rfl (rl hl 1 rfl rfl (by kernel_rfl) rfl rfl) ?_; refine rr rfl (rd_bin rfl rfl rfl (remV (by omega))) ?_; refine rr rfl (rd_fieldAddr rfl rfl (fa Tryd.underlying83 az83 rfl)) ?_; refine rr rfl (rl hl 1 rfl rfl (by kernel_rfl) rfl rfl) ?_; refine rr rfl (rd_bin rfl rfl rfl (quoV (by omega) (by omega) (by omega))) ?_; refine rr rfl (rd_fieldAddr rfl rfl (fa Tryd.underlying83 az83 rfl)) ?_; refine rr rfl (rl hl 1 rfl rfl (by kernel_rfl) rfl rfl) ?_
  refine rr rfl (rd_build rfl rfl (v := aggL [.int .i64 (k.tmod 7), .int .i64 (k.tdiv 7), .int .i64 a]) (by rfl)) ?_; refine re_storeL hl 0 rfl rfl rfl rfl rfl rfl rfl (by kernel_rfl) rfl ?_; intro S1 hl; refine rm rfl ?_; refine re_end rfl ?_; refine xp_ret rfl ?_
  refine done_ret (ress_cell rfl (loadN_of (z := 3) (by kernel_rfl) (by kernel_rfl) (hl.get 0 rfl) rfl) (ress_tmp rfl rfl)) ⟨hl.keep, by rw [tp_2 h21]; rfl⟩
noncomputable def c89 : Code := Tryd.f89.body.getD .skip
theorem spec89 (k a : Int) (hG : Gl S) (h0 : 0 ≤ k) (h1 : k ≤ 62) (h2 : -1 ≤ a) (h3 : a ≤ 1) : CC Tryd.prog KK 89 [aggL [.int .i64 k, .int .i64 a]] S (fun v S' => Keep S S' ∧ v = .int .i64 (hgtI k a)) := by
 refine cc_enter (c := c89) (n := 16) Tryd.func89 rfl rfl rfl (by kernel_rfl) rfl rfl ?_
 have hl := Hold.start S
 have hq := quo_bd (a := k) (b := 7) (by omega) h0
 have hr := rem_bd (a := k) (b := 7) (by omega) h0
 have hh := half_bd hr.1 hr.2
 refine xs (by kernel_rfl) ?_; refine re_boxL hl rfl rfl rfl rfl rfl rfl ?_; intro B1 S1 hl; refine rm rfl ?_; refine re_end rfl ?_; refine xp_seq rfl ?_; refine xp_draw (idx := [0, 1, 2, 3, 4, 5, 6, 7, 8, 9, 10, 11, 12, 13]) rfl (by kernel_rfl) (by kernel_rfl) ?_; refine pr rfl (rd_fieldAddr rfl rfl (fa Tryd.underlying83 az83 rfl)) ?_; refine pk rfl (rl hl 0 rfl rfl (by kernel_rfl) rfl rfl) ?_; refine pr rfl (rd_bin rfl rfl rfl (quoV (by omega) (by omega) (by omega))) ?_; refine pr rfl (rd_bin rfl rfl rfl (i6 (by omega))) ?_
 refine pr rfl (rd_fieldAddr rfl rfl (fa Tryd.underlying83 az83 rfl)) ?_; refine pk rfl (rl hl 0 rfl rfl (by kernel_rfl) rfl rfl) ?_; refine pr rfl (rd_bin rfl rfl rfl (remV (by omega))) ?_; refine pr rfl (rd_indexAddr rfl rfl rfl (indexAddr_array (b := 1) (o := 0) (len := 7) (z := 1) Tryd.underlying173 (by kernel_rfl) ⟨hr.1, hr.2⟩)) ?_; refine pk rfl (rd_load rfl rfl (load1_of (by kernel_rfl) (hG.keep hl.keep).2.2 (halves_at hr.1 hr.2))) ?_; refine pr rfl (rd_bin rfl rfl rfl (i6 (by omega))) ?_; refine pr rfl (rd_fieldAddr rfl rfl (fa Tryd.underlying83 az83 rfl)) ?_
 refine pk rfl (rl hl 0 rfl rfl (by kernel_rfl) rfl rfl) ?_; refine pr rfl (rd_bin rfl rfl rfl (i6 (by omega))) ?_; refine pm rfl ?_; refine rp_end rfl ?_; refine xp_ret rfl ?_
 refine done_ret (ress_tmp rfl rfl) ⟨hl.keep, rfl⟩
end Go.Proofs.YtlnenodplgpceaaDoor
namespace Go.Proofs.YtlnenodplgpceaaDoor
open Go.Cm Go
set_option maxRecDepth 100000
variable {S : St}
noncomputable def c63 : Code := Tryd.f63.body.getD .skip
theorem spec63 (p : Pt) : CC Tryd.prog KK 63 [p.v] S (fun v S' => Keep S S' ∧ v = tupV [.int .i64 (numE p).1, .int .i64 (numE p).2]) := by
 refine cc_enter (c := c63) (n := 13) Tryd.func63 rfl rfl rfl (by kernel_rfl) rfl rfl ?_
 have hl := Hold.start S
 refine xs (by kernel_rfl) ?_; refine re_boxL hl rfl rfl rfl rfl rfl rfl ?_; intro B1 S1 hl; iterate 2 refine rm rfl ?_
 refine re_end rfl ?_; refine xp_seq rfl ?_; refine xs (by kernel_rfl) ?_; refine rr rfl (rd_load rfl rfl (loadN_of (z := 3) (by kernel_rfl) (by kernel_rfl) (hl.get 0 rfl) rfl)) ?_
 refine re_callL hl rfl rfl rfl rfl rfl rfl rfl (spec31 p) ?_; rintro v S1 hk1 rfl hl
 refine rm rfl ?_; refine re_end rfl ?_; refine xs (by kernel_rfl) ?_; refine rm rfl ?_; refine rr rfl (rd_bin rfl rfl rfl rfl) ?_; refine re_end rfl ?_; refine xp_cond rfl rfl (fun h8 => ?_) (fun h8 => ?_)
 ·
  refine xs (by kernel_rfl) ?_; iterate 3 refine rm rfl ?_
  refine re_end rfl ?_; refine xp_ret rfl ?_
  refine thn_ret (done_ret (ress_tmp rfl (ress_tmp rfl rfl)) ⟨hl.keep, by unfold numE; rw [pE_yes h8, pE_1 (pE_yes h8)]; rfl⟩)
 ·
  refine xp_skip rfl ?_; refine xs (by kernel_rfl) ?_; refine rr rfl (rd_load rfl rfl (loadN_of (z := 3) (by kernel_rfl) (by kernel_rfl) (hl.get 0 rfl) rfl)) ?_
  refine re_callL hl rfl rfl rfl rfl rfl rfl rfl (spec32 p (pE_no h8)) ?_; rintro v S1 hk1 rfl hl
  refine rr rfl (rd_field rfl rfl (field1_of Tryd.underlying83 rfl (by kernel_rfl) rfl)) ?_; iterate 2 refine rm rfl ?_
  refine re_end rfl ?_; refine xp_ret rfl ?_
  refine done_ret (ress_tmp rfl (ress_tmp rfl rfl)) ⟨hl.keep, by unfold numE; rw [pE_no h8]; rfl⟩
noncomputable def c88 : Code := Tryd.f88.body.getD .skip
theorem spec88 (p : Pt) (hG : Gl S) : CC Tryd.prog KK 88 [p.v] S (fun v S' => Keep S S' ∧ v = tupV [.int .i64 (hgtE p).1, .int .i64 (hgtE p).2]) := by
 refine cc_enter (c := c88) (n := 13) Tryd.func88 rfl rfl rfl (by kernel_rfl) rfl rfl ?_
 have hl := Hold.start S
 refine xs (by kernel_rfl) ?_; refine re_boxL hl rfl rfl rfl rfl rfl rfl ?_; intro B1 S1 hl; iterate 2 refine rm rfl ?_
 refine re_end rfl ?_; refine xp_seq rfl ?_; refine xs (by kernel_rfl) ?_; refine rr rfl (rd_load rfl rfl (loadN_of (z := 3) (by kernel_rfl) (by kernel_rfl) (hl.get 0 rfl) rfl)) ?_
 refine re_callL hl rfl rfl rfl rfl rfl rfl rfl (spec31 p) ?_; rintro v S1 hk1 rfl hl
 refine rm rfl ?_; refine re_end rfl ?_; refine xs (by kernel_rfl) ?_; refine rm rfl ?_; refine rr rfl (rd_bin rfl rfl rfl rfl) ?_; refine re_end rfl ?_; refine xp_cond rfl rfl (fun h8 => ?_) (fun h8 => ?_)
 ·
  refine xs (by kernel_rfl) ?_; iterate 3 refine rm rfl ?_
  refine re_end rfl ?_; refine xp_ret rfl ?_
  refine thn_ret (done_ret (ress_tmp rfl (ress_tmp rfl rfl)) ⟨hl.keep, by unfold hgtE; rw [pE_yes h8, pE_1 (pE_yes h8)]; rfl⟩)
 ·
  have hb := num_bd (pE_no h8)
  have hb2 := pB_ok (pE_no h8)
  refine xp_skip rfl ?_; refine xs (by kernel_rfl) ?_; refine rr rfl (rd_load rfl rfl (loadN_of (z := 3) (by kernel_rfl) (by kernel_rfl) (hl.get 0 rfl) rfl)) ?_
  refine re_callL hl rfl rfl rfl rfl rfl rfl rfl (spec32 p (pE_no h8)) ?_; rintro v S1 hk1 rfl hl
  refine re_callL hl rfl rfl rfl rfl rfl rfl rfl (spec89 _ _ (hG.keep hl.keep) hb.1 hb.2 hb2.2.2.2.2.1 hb2.2.2.2.2.2) ?_; rintro v S1 hk1 rfl hl
  iterate 2 refine rm rfl ?_
  refine re_end rfl ?_; refine xp_ret rfl ?_
  refine done_ret (ress_tmp rfl (ress_tmp rfl rfl)) ⟨hl.keep, by unfold hgtE; rw [pE_no h8]; rfl⟩
end Go.Proofs.YtlnenodplgpceaaDoor
namespace Go.Proofs.YtlnenodplgpceaaDoor
open Go.Cm Go
set_option maxRecDepth 100000
variable {S : St}
noncomputable def c87 : Code := Tryd.f87.body.getD .skip
theorem spec87 (p q : Pt) (hF : Fresh S) (hG : Gl S) : CC Tryd.prog KK 87 [p.v, q.v] S (fun v S' => Keep S S' ∧ v = ri (btwE p q)) := by
 refine cc_enter (c := c87) (n := 39) Tryd.func87 rfl rfl rfl (by kernel_rfl) rfl rfl ?_
 have hl := Hold.start S
 refine xs (by kernel_rfl) ?_; refine re_boxL hl rfl rfl rfl rfl rfl rfl ?_; intro B2 S2 hl; refine re_boxL hl rfl rfl rfl rfl rfl rfl ?_; intro B3 S3 hl; refine re_allocL hl rfl rfl rfl rfl rfl (z := [.int .i64 0, .int .i64 0]) (by kernel_rfl) ?_; intro B4 S4 hl; refine rm rfl ?_; refine re_end rfl ?_; refine xp_seq rfl ?_; refine xs (by kernel_rfl) ?_; refine rr rfl (rd_load rfl rfl (loadN_of (z := 3) (by kernel_rfl) (by kernel_rfl) (hl.get 2 rfl) rfl)) ?_; refine rr rfl (rd_load rfl rfl (loadN_of (z := 3) (by kernel_rfl) (by kernel_rfl) (hl.get 1 rfl) rfl)) ?_
 refine rr rfl (rd_build rfl rfl (v := aggL (([p, q].map Pt.cells).flatten)) (by rfl)) ?_; refine rm rfl ?_; refine re_end rfl ?_; refine xp_block rfl ?_
 -- LOOP
 refine xe_sub (L' := [(14, .int .i64 0), (13, aggL (([p, q].map Pt.cells).flatten)), (5, .int .i64 0), (4, ptrTo B4 0), (3, ptrTo B3 0), (2, ptrTo B2 0)]) ⟨rfl, rfl, rfl, rfl, rfl, rfl, trivial⟩ ?_
 refine xp_loop rfl (fun m Le S' => ∃ i : Nat, i ≤ 2 ∧ m = 2 - i ∧ SubE [(14, .int .i64 (i : Int)), (13, aggL (([p, q].map Pt.cells).flatten)), (5, .int .i64 0), (4, ptrTo B4 0), (3, ptrTo B3 0), (2, ptrTo B2 0)] Le ∧ fstP ([p, q].drop i) = fstP [p, q] ∧ Hold S [S] S' [(B4, .cells [.int .i64 0, .int .i64 0] 148 false true []), (B3, .cells q.cells 37 false true []), (B2, .cells p.cells 37 false true [])]) ?_ (m := 2) ⟨0, by omega, rfl, ⟨rfl, rfl, rfl, rfl, rfl, rfl, trivial⟩, rfl, hl⟩
 clear hl; rintro m Le S' ⟨i, hi, rfl, hsub, hin, hl⟩; refine xe_sub hsub ?_
 refine xs (by kernel_rfl) ?_; refine rr rfl (rd_bin rfl rfl rfl rfl) ?_; refine re_end rfl ?_; refine xp_seq rfl ?_; refine xp_cond rfl rfl (fun h15 => ?_) (fun h15 => ?_)
 ·
  have hlt : i < 2 := by have := of_decide_eq_true h15; omega
  obtain ⟨x, hx⟩ := nth_some (l := [p, q]) hlt
  refine xp_skip rfl ?_; refine xp_seq rfl ?_; refine xp_block rfl ?_; refine xs (by kernel_rfl) ?_; refine rr rfl (rd_index rfl rfl rfl (index_arrayF (f := Pt.cells) (x := x) (C := [p, q]) (i := (i : Int)) (z := 3) (len := 2) Tryd.underlying171 (by kernel_rfl) (by kernel_rfl) (fun _ => rfl) ⟨by omega, by omega⟩ hx)) ?_; refine re_allocL hl rfl rfl rfl rfl rfl (z := [.int .i64 0, .int .i64 0, .int .i64 0]) (by kernel_rfl) ?_; intro B7 S7 hl; refine re_storeL hl 0 rfl rfl rfl rfl rfl rfl rfl (by kernel_rfl) rfl ?_; intro S1 hl; refine re_end rfl ?_; refine xs (by kernel_rfl) ?_
  refine rr rfl (rd_load rfl rfl (loadN_of (z := 3) (by kernel_rfl) (by kernel_rfl) (hl.get 0 rfl) rfl)) ?_
  refine re_callL hl rfl rfl rfl rfl rfl rfl rfl (spec31 x) ?_; rintro v S1 hk1 rfl hl
  refine rm rfl ?_; refine re_end rfl ?_; refine xs (by kernel_rfl) ?_; refine rm rfl ?_; refine rr rfl (rd_bin rfl rfl rfl rfl) ?_; refine re_end rfl ?_; refine xp_cond rfl rfl (fun h20 => ?_) (fun h20 => ?_)
  ·
   refine xs (by kernel_rfl) ?_; refine rr rfl (rd_build rfl rfl (v := aggL [.int .i64 0, .int .i64 0]) (by rfl)) ?_; refine rm rfl ?_; refine re_storeL hl 1 rfl rfl rfl rfl rfl rfl rfl (by kernel_rfl) rfl ?_; intro S1 hl; refine rm rfl ?_; refine re_end rfl ?_; refine xp_ret rfl ?_
   refine blk_ret (thn_ret (round_ret (blk_ret (thn_ret (done_ret (ress_cell rfl (loadN_of (z := 2) (by kernel_rfl) (by kernel_rfl) (hl.get 1 rfl) rfl) (ress_tmp rfl rfl)) ⟨hl.keep, by have hx2 : fstP [p, q] = pE x := (by rw [← hin, drop_nth' hx]; exact (fstP_bad h20)); rw [btw_1 (fstP_ne hx2 h20), hx2]; rfl⟩)))))
  ·
   refine xp_skip rfl ?_; refine xg (by kernel_rfl) ?_; refine rr rfl (rd_bin rfl rfl rfl (i6 (by omega))) ?_; refine rm rfl ?_; refine re_end rfl ?_
   exact ⟨2 - (i + 1), by omega, i + 1, by omega, rfl, ⟨rfl, rfl, rfl, rfl, rfl, rfl, trivial⟩, by rw [← fstP_go h20, ← drop_nth' hx]; exact hin, hl.tail⟩
 ·
  have h0 : fstP [p, q] = 0 := by rw [← hin, List.drop_eq_nil_of_le (by have := of_decide_eq_false h15; simp; omega)]; rfl
  have hb := fstP2 h0
  have hn1 := num_bd hb.1
  have hn2 := num_bd hb.2
  have hp := pB_ok hb.1
  have hq := pB_ok hb.2
  have hg1 := hgt_bd hn1.1 hn1.2 hp.2.2.2.2.1 hp.2.2.2.2.2
  have hg2 := hgt_bd hn2.1 hn2.2 hq.2.2.2.2.1 hq.2.2.2.2.2
  refine xp_exit rfl ?_; refine xp_seq rfl ?_; refine xp_draw (idx := [0, 2, 4, 5, 1, 3, 6, 7]) rfl (by kernel_rfl) (by kernel_rfl) ?_; refine pk rfl (rd_load rfl rfl (loadN_of (z := 3) (by kernel_rfl) (by kernel_rfl) (hl.get 2 rfl) rfl)) ?_; refine pk rfl (rd_load rfl rfl (loadN_of (z := 3) (by kernel_rfl) (by kernel_rfl) (hl.get 1 rfl) rfl)) ?_; refine rp_allocL hF hl rfl rfl rfl rfl rfl (z := [.int .i64 0, .int .i64 0]) (by kernel_rfl) ?_; intro B9 S9 hl; refine rp_allocL hF hl rfl rfl rfl rfl rfl (z := [.int .i64 0, .int .i64 0]) (by kernel_rfl) ?_; intro B10 S10 hl
  refine rp_callL hl rfl rfl rfl rfl rfl rfl rfl (spec32 p hb.1) ?_; rintro v S1 hk1 rfl hl; refine ⟨by repeat (first | exact trivial | refine stays_left ?_ | (refine ⟨by first | exact stays_new rfl (hl.get 0 rfl) (sameL_atoms _ _ (by simp) (by repeat (first | exact atoms_nil | refine atoms_cons (atom_int _ _) ?_ | refine atoms_cons (atom_bool _) ?_ | refine atoms_cons (atom_slice _ _ _) ?_ | refine atoms_cons (atom_string _) ?_))) | exact stays_new rfl (hl.get 1 rfl) (sameL_atoms _ _ (by simp) (by repeat (first | exact atoms_nil | refine atoms_cons (atom_int _ _) ?_ | refine atoms_cons (atom_bool _) ?_ | refine atoms_cons (atom_slice _ _ _) ?_ | refine atoms_cons (atom_string _) ?_))) | exact stays_new rfl (hl.get 2 rfl) (sameL_atoms _ _ (by simp) (by repeat (first | exact atoms_nil | refine atoms_cons (atom_int _ _) ?_ | refine atoms_cons (atom_bool _) ?_ | refine atoms_cons (atom_slice _ _ _) ?_ | refine atoms_cons (atom_string _) ?_))) | exact stays_new rfl (hl.get 3 rfl) (sameL_atoms _ _ (by simp) (by repeat (first | exact atoms_nil | refine atoms_cons (atom_int _ _) ?_ | refine atoms_cons (atom_bool _) ?_ | refine atoms_cons (atom_slice _ _ _) ?_ | refine atoms_cons (atom_string _) ?_))) | exact stays_new rfl (hl.get 4 rfl) (sameL_atoms _ _ (by simp) (by repeat (first | exact atoms_nil | refine atoms_cons (atom_int _ _) ?_ | refine atoms_cons (atom_bool _) ?_ | refine atoms_cons (atom_slice _ _ _) ?_ | refine atoms_cons (atom_string _) ?_))) | exact stays_load rfl rfl (loadN_of (z := 2) (by kernel_rfl) (by kernel_rfl) (hl.get 0 rfl) rfl) (same_agg rfl (by repeat (first | exact atoms_nil | refine atoms_cons (atom_int _ _) ?_ | refine atoms_cons (atom_bool _) ?_ | refine atoms_cons (atom_slice _ _ _) ?_ | refine atoms_cons (atom_string _) ?_))) rfl | exact stays_load rfl rfl (loadN_of (z := 3) (by kernel_rfl) (by kernel_rfl) (hl.get 0 rfl) rfl) (same_agg rfl (by repeat (first | exact atoms_nil | refine atoms_cons (atom_int _ _) ?_ | refine atoms_cons (atom_bool _) ?_ | refine atoms_cons (atom_slice _ _ _) ?_ | refine atoms_cons (atom_string _) ?_))) rfl | exact stays_load rfl rfl (loadN_of (z := 2) (by kernel_rfl) (by kernel_rfl) (hl.get 1 rfl) rfl) (same_agg rfl (by repeat (first | exact atoms_nil | refine atoms_cons (atom_int _ _) ?_ | refine atoms_cons (atom_bool _) ?_ | refine atoms_cons (atom_slice _ _ _) ?_ | refine atoms_cons (atom_string _) ?_))) rfl | exact stays_load rfl rfl (loadN_of (z := 3) (by kernel_rfl) (by kernel_rfl) (hl.get 1 rfl) rfl) (same_agg rfl (by repeat (first | exact atoms_nil | refine atoms_cons (atom_int _ _) ?_ | refine atoms_cons (atom_bool _) ?_ | refine atoms_cons (atom_slice _ _ _) ?_ | refine atoms_cons (atom_string _) ?_))) rfl | exact stays_load rfl rfl (loadN_of (z := 2) (by kernel_rfl) (by kernel_rfl) (hl.get 2 rfl) rfl) (same_agg rfl (by repeat (first | exact atoms_nil | refine atoms_cons (atom_int _ _) ?_ | refine atoms_cons (atom_bool _) ?_ | refine atoms_cons (atom_slice _ _ _) ?_ | refine atoms_cons (atom_string _) ?_))) rfl | exact stays_load rfl rfl (loadN_of (z := 3) (by kernel_rfl) (by kernel_rfl) (hl.get 2 rfl) rfl) (same_agg rfl (by repeat (first | exact atoms_nil | refine atoms_cons (atom_int _ _) ?_ | refine atoms_cons (atom_bool _) ?_ | refine atoms_cons (atom_slice _ _ _) ?_ | refine atoms_cons (atom_string _) ?_))) rfl | exact stays_load rfl rfl (loadN_of (z := 2) (by kernel_rfl) (by kernel_rfl) (hl.get 3 rfl) rfl) (same_agg rfl (by repeat (first | exact atoms_nil | refine atoms_cons (atom_int _ _) ?_ | refine atoms_cons (atom_bool _) ?_ | refine atoms_cons (atom_slice _ _ _) ?_ | refine atoms_cons (atom_string _) ?_))) rfl | exact stays_load rfl rfl (loadN_of (z := 3) (by kernel_rfl) (by kernel_rfl) (hl.get 3 rfl) rfl) (same_agg rfl (by repeat (first | exact atoms_nil | refine atoms_cons (atom_int _ _) ?_ | refine atoms_cons (atom_bool _) ?_ | refine atoms_cons (atom_slice _ _ _) ?_ | refine atoms_cons (atom_string _) ?_))) rfl | exact stays_load rfl rfl (loadN_of (z := 2) (by kernel_rfl) (by kernel_rfl) (hl.get 4 rfl) rfl) (same_agg rfl (by repeat (first | exact atoms_nil | refine atoms_cons (atom_int _ _) ?_ | refine atoms_cons (atom_bool _) ?_ | refine atoms_cons (atom_slice _ _ _) ?_ | refine atoms_cons (atom_string _) ?_))) rfl | exact stays_load rfl rfl (loadN_of (z := 3) (by kernel_rfl) (by kernel_rfl) (hl.get 4 rfl) rfl) (same_agg rfl (by repeat (first | exact atoms_nil | refine atoms_cons (atom_int _ _) ?_ | refine atoms_cons (atom_bool _) ?_ | refine atoms_cons (atom_slice _ _ _) ?_ | refine atoms_cons (atom_string _) ?_))) rfl | exact stays_load rfl rfl (load1_of (by kernel_rfl) (hl.get 0 rfl) rfl) (same_atom (by first | exact atom_int _ _ | exact atom_bool _ | exact atom_slice _ _ _)) rfl | exact stays_load rfl rfl (load1_of (by kernel_rfl) (hl.get 1 rfl) rfl) (same_atom (by first | exact atom_int _ _ | exact atom_bool _ | exact atom_slice _ _ _)) rfl | exact stays_load rfl rfl (load1_of (by kernel_rfl) (hl.get 2 rfl) rfl) (same_atom (by first | exact atom_int _ _ | exact atom_bool _ | exact atom_slice _ _ _)) rfl | exact stays_load rfl rfl (load1_of (by kernel_rfl) (hl.get 3 rfl) rfl) (same_atom (by first | exact atom_int _ _ | exact atom_bool _ | exact atom_slice _ _ _)) rfl | exact stays_load rfl rfl (load1_of (by kernel_rfl) (hl.get 4 rfl) rfl) (same_atom (by first | exact atom_int _ _ | exact atom_bool _ | exact atom_slice _ _ _)) rfl | exact stays_no (by dsimp only; decide +kernel), ?_⟩)), ?_⟩
  refine rp_callL hl rfl rfl rfl rfl rfl rfl rfl (spec32 q hb.2) ?_; rintro v S1 hk1 rfl hl; refine ⟨by repeat (first | exact trivial | refine stays_left ?_ | (refine ⟨by first | exact stays_new rfl (hl.get 0 rfl) (sameL_atoms _ _ (by simp) (by repeat (first | exact atoms_nil | refine atoms_cons (atom_int _ _) ?_ | refine atoms_cons (atom_bool _) ?_ | refine atoms_cons (atom_slice _ _ _) ?_ | refine atoms_cons (atom_string _) ?_))) | exact stays_new rfl (hl.get 1 rfl) (sameL_atoms _ _ (by simp) (by repeat (first | exact atoms_nil | refine atoms_cons (atom_int _ _) ?_ | refine atoms_cons (atom_bool _) ?_ | refine atoms_cons (atom_slice _ _ _) ?_ | refine atoms_cons (atom_string _) ?_))) | exact stays_new rfl (hl.get 2 rfl) (sameL_atoms _ _ (by simp) (by repeat (first | exact atoms_nil | refine atoms_cons (atom_int _ _) ?_ | refine atoms_cons (atom_bool _) ?_ | refine atoms_cons (atom_slice _ _ _) ?_ | refine atoms_cons (atom_string _) ?_))) | exact stays_new rfl (hl.get 3 rfl) (sameL_atoms _ _ (by simp) (by repeat (first | exact atoms_nil | refine atoms_cons (atom_int _ _) ?_ | refine atoms_cons (atom_bool _) ?_ | refine atoms_cons (atom_slice _ _ _) ?_ | refine atoms_cons (atom_string _) ?_))) | exact stays_new rfl (hl.get 4 rfl) (sameL_atoms _ _ (by simp) (by repeat (first | exact atoms_nil | refine atoms_cons (atom_int _ _) ?_ | refine atoms_cons (atom_bool _) ?_ | refine atoms_cons (atom_slice _ _ _) ?_ | refine atoms_cons (atom_string _) ?_))) | exact stays_load rfl rfl (loadN_of (z := 2) (by kernel_rfl) (by kernel_rfl) (hl.get 0 rfl) rfl) (same_agg rfl (by repeat (first | exact atoms_nil | refine atoms_cons (atom_int _ _) ?_ | refine atoms_cons (atom_bool _) ?_ | refine atoms_cons (atom_slice _ _ _) ?_ | refine atoms_cons (atom_string _) ?_))) rfl | exact stays_load rfl rfl (loadN_of (z := 3) (by kernel_rfl) (by kernel_rfl) (hl.get 0 rfl) rfl) (same_agg rfl (by repeat (first | exact atoms_nil | refine atoms_cons (atom_int _ _) ?_ | refine atoms_cons (atom_bool _) ?_ | refine atoms_cons (atom_slice _ _ _) ?_ | refine atoms_cons (atom_string _) ?_))) rfl | exact stays_load rfl rfl (loadN_of (z := 2) (by kernel_rfl) (by kernel_rfl) (hl.get 1 rfl) rfl) (same_agg rfl (by repeat (first | exact atoms_nil | refine atoms_cons (atom_int _ _) ?_ | refine atoms_cons (atom_bool _) ?_ | refine atoms_cons (atom_slice _ _ _) ?_ | refine atoms_cons (atom_string _) ?_))) rfl | exact stays_load rfl rfl (loadN_of (z := 3) (by kernel_rfl) (by kernel_rfl) (hl.get 1 rfl) rfl) (same_agg rfl (by repeat (first | exact atoms_nil | refine atoms_cons (atom_int _ _) ?_ | refine atoms_cons (atom_bool _) ?_ | refine atoms_cons (atom_slice _ _ _) ?_ | refine atoms_cons (atom_string _) ?_))) rfl | exact stays_load rfl rfl (loadN_of (z := 2) (by kernel_rfl) (by kernel_rfl) (hl.get 2 rfl) rfl) (same_agg rfl (by repeat (first | exact atoms_nil | refine atoms_cons (atom_int _ _) ?_ | refine atoms_cons (atom_bool _) ?_ | refine atoms_cons (atom_slice _ _ _) ?_ | refine atoms_cons (atom_string _) ?_))) rfl | exact stays_load rfl rfl (loadN_of (z := 3) (by kernel_rfl) (by kernel_rfl) (hl.get 2 rfl) rfl) (same_agg rfl (by repeat (first | exact atoms_nil | refine atoms_cons (atom_int _ _) ?_ | refine atoms_cons (atom_bool _) ?_ | refine atoms_cons (atom_slice _ _ _) ?_ | refine atoms_cons (atom_string _) ?_))) rfl | exact stays_load rfl rfl (loadN_of (z := 2) (by kernel_rfl) (by kernel_rfl) (hl.get 3 rfl) rfl) (same_agg rfl (by repeat (first | exact atoms_nil | refine atoms_cons (atom_int _ _) ?_ | refine atoms_cons (atom_bool _) ?_ | refine atoms_cons (atom_slice _ _ _) ?_ | refine atoms_cons (atom_string _) ?_))) rfl | exact stays_load rfl rfl (loadN_of (z := 3) (by kernel_rfl) (by kernel_rfl) (hl.get 3 rfl) rfl) (same_agg rfl (by repeat (first | exact atoms_nil | refine atoms_cons (atom_int _ _) ?_ | refine atoms_cons (atom_bool _) ?_ | refine atoms_cons (atom_slice _ _ _) ?_ | refine atoms_cons (atom_string _) ?_))) rfl | exact stays_load rfl rfl (loadN_of (z := 2) (by kernel_rfl) (by kernel_rfl) (hl.get 4 rfl) rfl) (same_agg rfl (by repeat (first | exact atoms_nil | refine atoms_cons (atom_int _ _) ?_ | refine atoms_cons (atom_bool _) ?_ | refine atoms_cons (atom_slice _ _ _) ?_ | refine atoms_cons (atom_string _) ?_))) rfl | exact stays_load rfl rfl (loadN_of (z := 3) (by kernel_rfl) (by kernel_rfl) (hl.get 4 rfl) rfl) (same_agg rfl (by repeat (first | exact atoms_nil | refine atoms_cons (atom_int _ _) ?_ | refine atoms_cons (atom_bool _) ?_ | refine atoms_cons (atom_slice _ _ _) ?_ | refine atoms_cons (atom_string _) ?_))) rfl | exact stays_load rfl rfl (load1_of (by kernel_rfl) (hl.get 0 rfl) rfl) (same_atom (by first | exact atom_int _ _ | exact atom_bool _ | exact atom_slice _ _ _)) rfl | exact stays_load rfl rfl (load1_of (by kernel_rfl) (hl.get 1 rfl) rfl) (same_atom (by first | exact atom_int _ _ | exact atom_bool _ | exact atom_slice _ _ _)) rfl | exact stays_load rfl rfl (load1_of (by kernel_rfl) (hl.get 2 rfl) rfl) (same_atom (by first | exact atom_int _ _ | exact atom_bool _ | exact atom_slice _ _ _)) rfl | exact stays_load rfl rfl (load1_of (by kernel_rfl) (hl.get 3 rfl) rfl) (same_atom (by first | exact atom_int _ _ | exact atom_bool _ | exact atom_slice _ _ _)) rfl | exact stays_load rfl rfl (load1_of (by kernel_rfl) (hl.get 4 rfl) rfl) (same_atom (by first | exact atom_int _ _ | exact atom_bool _ | exact atom_slice _ _ _)) rfl | exact stays_no (by dsimp only; decide +kernel), ?_⟩)), ?_⟩
  refine rp_storeL hl 1 rfl rfl rfl rfl rfl rfl rfl (by kernel_rfl) rfl ?_; intro S1 hl; refine ⟨stays_all (by kernel_rfl), ?_⟩
  refine rp_storeL hl 0 rfl rfl rfl rfl rfl rfl rfl (by kernel_rfl) rfl ?_; intro S1 hl; refine ⟨stays_all (by kernel_rfl), ?_⟩
  refine rp_end rfl ?_; refine xp_seq rfl ?_; refine xp_draw (idx := [0, 1, 2, 3, 4, 5, 7, 6, 8, 9, 10, 11, 12]) rfl (by kernel_rfl) (by kernel_rfl) ?_; refine pr rfl (rd_fieldAddr rfl rfl (fa Tryd.underlying83 az83 rfl)) ?_; refine pk rfl (rl hl 0 rfl rfl (by kernel_rfl) rfl rfl) ?_; refine pr rfl (rd_fieldAddr rfl rfl (fa Tryd.underlying83 az83 rfl)) ?_; refine pk rfl (rl hl 1 rfl rfl (by kernel_rfl) rfl rfl) ?_; refine pr rfl (rd_bin rfl rfl rfl (i6 (by omega))) ?_; refine pk rfl (rd_load rfl rfl (loadN_of (z := 2) (by kernel_rfl) (by kernel_rfl) (hl.get 0 rfl) rfl)) ?_
  refine pk rfl (rd_load rfl rfl (loadN_of (z := 2) (by kernel_rfl) (by kernel_rfl) (hl.get 1 rfl) rfl)) ?_
  refine rp_callL hl rfl rfl rfl rfl rfl rfl rfl (spec89 _ _ (hG.keep hl.keep) hn2.1 hn2.2 hq.2.2.2.2.1 hq.2.2.2.2.2) ?_; rintro v S1 hk1 rfl hl; refine ⟨by repeat (first | exact trivial | refine stays_left ?_ | (refine ⟨by first | exact stays_new rfl (hl.get 0 rfl) (sameL_atoms _ _ (by simp) (by repeat (first | exact atoms_nil | refine atoms_cons (atom_int _ _) ?_ | refine atoms_cons (atom_bool _) ?_ | refine atoms_cons (atom_slice _ _ _) ?_ | refine atoms_cons (atom_string _) ?_))) | exact stays_new rfl (hl.get 1 rfl) (sameL_atoms _ _ (by simp) (by repeat (first | exact atoms_nil | refine atoms_cons (atom_int _ _) ?_ | refine atoms_cons (atom_bool _) ?_ | refine atoms_cons (atom_slice _ _ _) ?_ | refine atoms_cons (atom_string _) ?_))) | exact stays_new rfl (hl.get 2 rfl) (sameL_atoms _ _ (by simp) (by repeat (first | exact atoms_nil | refine atoms_cons (atom_int _ _) ?_ | refine atoms_cons (atom_bool _) ?_ | refine atoms_cons (atom_slice _ _ _) ?_ | refine atoms_cons (atom_string _) ?_))) | exact stays_new rfl (hl.get 3 rfl) (sameL_atoms _ _ (by simp) (by repeat (first | exact atoms_nil | refine atoms_cons (atom_int _ _) ?_ | refine atoms_cons (atom_bool _) ?_ | refine atoms_cons (atom_slice _ _ _) ?_ | refine atoms_cons (atom_string _) ?_))) | exact stays_new rfl (hl.get 4 rfl) (sameL_atoms _ _ (by simp) (by repeat (first | exact atoms_nil | refine atoms_cons (atom_int _ _) ?_ | refine atoms_cons (atom_bool _) ?_ | refine atoms_cons (atom_slice _ _ _) ?_ | refine atoms_cons (atom_string _) ?_))) | exact stays_load rfl rfl (loadN_of (z := 2) (by kernel_rfl) (by kernel_rfl) (hl.get 0 rfl) rfl) (same_agg rfl (by repeat (first | exact atoms_nil | refine atoms_cons (atom_int _ _) ?_ | refine atoms_cons (atom_bool _) ?_ | refine atoms_cons (atom_slice _ _ _) ?_ | refine atoms_cons (atom_string _) ?_))) rfl | exact stays_load rfl rfl (loadN_of (z := 3) (by kernel_rfl) (by kernel_rfl) (hl.get 0 rfl) rfl) (same_agg rfl (by repeat (first | exact atoms_nil | refine atoms_cons (atom_int _ _) ?_ | refine atoms_cons (atom_bool _) ?_ | refine atoms_cons (atom_slice _ _ _) ?_ | refine atoms_cons (atom_string _) ?_))) rfl | exact stays_load rfl rfl (loadN_of (z := 2) (by kernel_rfl) (by kernel_rfl) (hl.get 1 rfl) rfl) (same_agg rfl (by repeat (first | exact atoms_nil | refine atoms_cons (atom_int _ _) ?_ | refine atoms_cons (atom_bool _) ?_ | refine atoms_cons (atom_slice _ _ _) ?_ | refine atoms_cons (atom_string _) ?_))) rfl | exact stays_load rfl rfl (loadN_of (z := 3) (by kernel_rfl) (by kernel_rfl) (hl.get 1 rfl) rfl) (same_agg rfl (by repeat (first | exact atoms_nil | refine atoms_cons (atom_int _ _) ?_ | refine atoms_cons (atom_bool _) ?_ | refine atoms_cons (atom_slice _ _ _) ?_ | refine atoms_cons (atom_string _) ?_))) rfl | exact stays_load rfl rfl (loadN_of (z := 2) (by kernel_rfl) (by kernel_rfl) (hl.get 2 rfl) rfl) (same_agg rfl (by repeat (first | exact atoms_nil | refine atoms_cons (atom_int _ _) ?_ | refine atoms_cons (atom_bool _) ?_ | refine atoms_cons (atom_slice _ _ _) ?_ | refine atoms_cons (atom_string _) ?_))) rfl | exact stays_load rfl rfl (loadN_of (z := 3) (by kernel_rfl) (by kernel_rfl) (hl.get 2 rfl) rfl) (same_agg rfl (by repeat (first | exact atoms_nil | refine atoms_cons (atom_int _ _) ?_ | refine atoms_cons (atom_bool _) ?_ | refine atoms_cons (atom_slice _ _ _) ?_ | refine atoms_cons (atom_string _) ?_))) rfl | exact stays_load rfl rfl (loadN_of (z := 2) (by kernel_rfl) (by kernel_rfl) (hl.get 3 rfl) rfl) (same_agg rfl (by repeat (first | exact atoms_nil | refine atoms_cons (atom_int _ _) ?_ | refine atoms_cons (atom_bool _) ?_ | refine atoms_cons (atom_slice _ _ _) ?_ | refine atoms_cons (atom_string _) ?_))) rfl | exact stays_load rfl rfl (loadN_of (z := 3) (by kernel_rfl) (by kernel_rfl) (hl.get 3 rfl) rfl) (same_agg rfl (by repeat (first | exact atoms_nil | refine atoms_cons (atom_int _ _) ?_ | refine atoms_cons (atom_bool _) ?_ | refine atoms_cons (atom_slice _ _ _) ?_ | refine atoms_cons (atom_string _) ?_))) rfl | exact stays_load rfl rfl (loadN_of (z := 2) (by kernel_rfl) (by kernel_rfl) (hl.get 4 rfl) rfl) (same_agg rfl (by repeat (first | exact atoms_nil | refine atoms_cons (atom_int _ _) ?_ | refine atoms_cons (atom_bool _) ?_ | refine atoms_cons (atom_slice _ _ _) ?_ | refine atoms_cons (atom_string _) ?_))) rfl | exact stays_load rfl rfl (loadN_of (z := 3) (by kernel_rfl) (by kernel_rfl) (hl.get 4 rfl) rfl) (same_agg rfl (by repeat (first | exact atoms_nil | refine atoms_cons (atom_int _ _) ?_ | refine atoms_cons (atom_bool _) ?_ | refine atoms_cons (atom_slice _ _ _) ?_ | refine atoms_cons (atom_string _) ?_))) rfl | exact stays_load rfl rfl (load1_of (by kernel_rfl) (hl.get 0 rfl) rfl) (same_atom (by first | exact atom_int _ _ | exact atom_bool _ | exact atom_slice _ _ _)) rfl | exact stays_load rfl rfl (load1_of (by kernel_rfl) (hl.get 1 rfl) rfl) (same_atom (by first | exact atom_int _ _ | exact atom_bool _ | exact atom_slice _ _ _)) rfl | exact stays_load rfl rfl (load1_of (by kernel_rfl) (hl.get 2 rfl) rfl) (same_atom (by first | exact atom_int _ _ | exact atom_bool _ | exact atom_slice _ _ _)) rfl | exact stays_load rfl rfl (load1_of (by kernel_rfl) (hl.get 3 rfl) rfl) (same_atom (by first | exact atom_int _ _ | exact atom_bool _ | exact atom_slice _ _ _)) rfl | exact stays_load rfl rfl (load1_of (by kernel_rfl) (hl.get 4 rfl) rfl) (same_atom (by first | exact atom_int _ _ | exact atom_bool _ | exact atom_slice _ _ _)) rfl | exact stays_no (by dsimp only; decide +kernel), ?_⟩)), ?_⟩
  refine rp_callL hl rfl rfl rfl rfl rfl rfl rfl (spec89 _ _ (hG.keep hl.keep) hn1.1 hn1.2 hp.2.2.2.2.1 hp.2.2.2.2.2) ?_; rintro v S1 hk1 rfl hl; refine ⟨by repeat (first | exact trivial | refine stays_left ?_ | (refine ⟨by first | exact stays_new rfl (hl.get 0 rfl) (sameL_atoms _ _ (by simp) (by repeat (first | exact atoms_nil | refine atoms_cons (atom_int _ _) ?_ | refine atoms_cons (atom_bool _) ?_ | refine atoms_cons (atom_slice _ _ _) ?_ | refine atoms_cons (atom_string _) ?_))) | exact stays_new rfl (hl.get 1 rfl) (sameL_atoms _ _ (by simp) (by repeat (first | exact atoms_nil | refine atoms_cons (atom_int _ _) ?_ | refine atoms_cons (atom_bool _) ?_ | refine atoms_cons (atom_slice _ _ _) ?_ | refine atoms_cons (atom_string _) ?_))) | exact stays_new rfl (hl.get 2 rfl) (sameL_atoms _ _ (by simp) (by repeat (first | exact atoms_nil | refine atoms_cons (atom_int _ _) ?_ | refine atoms_cons (atom_bool _) ?_ | refine atoms_cons (atom_slice _ _ _) ?_ | refine atoms_cons (atom_string _) ?_))) | exact stays_new rfl (hl.get 3 rfl) (sameL_atoms _ _ (by simp) (by repeat (first | exact atoms_nil | refine atoms_cons (atom_int _ _) ?_ | refine atoms_cons (atom_bool _) ?_ | refine atoms_cons (atom_slice _ _ _) ?_ | refine atoms_cons (atom_string _) ?_))) | exact stays_new rfl (hl.get 4 rfl) (sameL_atoms _ _ (by simp) (by repeat (first | exact atoms_nil | refine atoms_cons (atom_int _ _) ?_ | refine atoms_cons (atom_bool _) ?_ | refine atoms_cons (atom_slice _ _ _) ?_ | refine atoms_cons (atom_string _) ?_))) | exact stays_load rfl rfl (loadN_of (z := 2) (by kernel_rfl) (by kernel_rfl) (hl.get 0 rfl) rfl) (same_agg rfl (by repeat (first | exact atoms_nil | refine atoms_cons (atom_int _ _) ?_ | refine atoms_cons (atom_bool _) ?_ | refine atoms_cons (atom_slice _ _ _) ?_ | refine atoms_cons (atom_string _) ?_))) rfl | exact stays_load rfl rfl (loadN_of (z := 3) (by kernel_rfl) (by kernel_rfl) (hl.get 0 rfl) rfl) (same_agg rfl (by repeat (first | exact atoms_nil | refine atoms_cons (atom_int _ _) ?_ | refine atoms_cons (atom_bool _) ?_ | refine atoms_cons (atom_slice _ _ _) ?_ | refine atoms_cons (atom_string _) ?_))) rfl | exact stays_load rfl rfl (loadN_of (z := 2) (by kernel_rfl) (by kernel_rfl) (hl.get 1 rfl) rfl) (same_agg rfl (by repeat (first | exact atoms_nil | refine atoms_cons (atom_int _ _) ?_ | refine atoms_cons (atom_bool _) ?_ | refine atoms_cons (atom_slice _ _ _) ?_ | refine atoms_cons (atom_string _) ?_))) rfl | exact stays_load rfl rfl (loadN_of (z := 3) (by kernel_rfl) (by kernel_rfl) (hl.get 1 rfl) rfl) (same_agg rfl (by repeat (first | exact atoms_nil | refine atoms_cons (atom_int _ _) ?_ | refine atoms_cons (atom_bool _) ?_ | refine atoms_cons (atom_slice _ _ _) ?_ | refine atoms_cons (atom_string _) ?_))) rfl | exact stays_load rfl rfl (loadN_of (z := 2) (by kernel_rfl) (by kernel_rfl) (hl.get 2 rfl) rfl) (same_agg rfl (by repeat (first | exact atoms_nil | refine atoms_cons (atom_int _ _) ?_ | refine atoms_cons (atom_bool _) ?_ | refine atoms_cons (atom_slice _ _ _) ?_ | refine atoms_cons (atom_string _) ?_))) rfl | exact stays_load rfl rfl (loadN_of (z := 3) (by kernel_rfl) (by kernel_rfl) (hl.get 2 rfl) rfl) (same_agg rfl (by repeat (first | exact atoms_nil | refine atoms_cons (atom_int _ _) ?_ | refine atoms_cons (atom_bool _) ?_ | refine atoms_cons (atom_slice _ _ _) ?_ | refine atoms_cons (atom_string _) ?_))) rfl | exact stays_load rfl rfl (loadN_of (z := 2) (by kernel_rfl) (by kernel_rfl) (hl.get 3 rfl) rfl) (same_agg rfl (by repeat (first | exact atoms_nil | refine atoms_cons (atom_int _ _) ?_ | refine atoms_cons (atom_bool _) ?_ | refine atoms_cons (atom_slice _ _ _) ?_ | refine atoms_cons (atom_string _) ?_))) rfl | exact stays_load rfl rfl (loadN_of (z := 3) (by kernel_rfl) (by kernel_rfl) (hl.get 3 rfl) rfl) (same_agg rfl (by repeat (first | exact atoms_nil | refine atoms_cons (atom_int _ _) ?_ | refine atoms_cons (atom_bool _) ?_ | refine atoms_cons (atom_slice _ _ _) ?_ | refine atoms_cons (atom_string _) ?_))) rfl | exact stays_load rfl rfl (loadN_of (z := 2) (by kernel_rfl) (by kernel_rfl) (hl.get 4 rfl) rfl) (same_agg rfl (by repeat (first | exact atoms_nil | refine atoms_cons (atom_int _ _) ?_ | refine atoms_cons (atom_bool _) ?_ | refine atoms_cons (atom_slice _ _ _) ?_ | refine atoms_cons (atom_string _) ?_))) rfl | exact stays_load rfl rfl (loadN_of (z := 3) (by kernel_rfl) (by kernel_rfl) (hl.get 4 rfl) rfl) (same_agg rfl (by repeat (first | exact atoms_nil | refine atoms_cons (atom_int _ _) ?_ | refine atoms_cons (atom_bool _) ?_ | refine atoms_cons (atom_slice _ _ _) ?_ | refine atoms_cons (atom_string _) ?_))) rfl | exact stays_load rfl rfl (load1_of (by kernel_rfl) (hl.get 0 rfl) rfl) (same_atom (by first | exact atom_int _ _ | exact atom_bool _ | exact atom_slice _ _ _)) rfl | exact stays_load rfl rfl (load1_of (by kernel_rfl) (hl.get 1 rfl) rfl) (same_atom (by first | exact atom_int _ _ | exact atom_bool _ | exact atom_slice _ _ _)) rfl | exact stays_load rfl rfl (load1_of (by kernel_rfl) (hl.get 2 rfl) rfl) (same_atom (by first | exact atom_int _ _ | exact atom_bool _ | exact atom_slice _ _ _)) rfl | exact stays_load rfl rfl (load1_of (by kernel_rfl) (hl.get 3 rfl) rfl) (same_atom (by first | exact atom_int _ _ | exact atom_bool _ | exact atom_slice _ _ _)) rfl | exact stays_load rfl rfl (load1_of (by kernel_rfl) (hl.get 4 rfl) rfl) (same_atom (by first | exact atom_int _ _ | exact atom_bool _ | exact atom_slice _ _ _)) rfl | exact stays_no (by dsimp only; decide +kernel), ?_⟩)), ?_⟩
  refine pr rfl (rd_bin rfl rfl rfl (i6 (by omega))) ?_; refine pr rfl (rd_build rfl rfl (v := aggL [.int .i64 (numI q - numI p), .int .i64 (hgtI (numI q) q.a - hgtI (numI p) p.a)]) (by rfl)) ?_
  refine rp_storeL hl 2 rfl rfl rfl rfl rfl rfl rfl (by kernel_rfl) rfl ?_; intro S1 hl; refine ⟨stays_all (by kernel_rfl), ?_⟩
  refine pm rfl ?_; refine rp_end rfl ?_; refine xp_ret rfl ?_
  refine done_ret (ress_cell rfl (loadN_of (z := 2) (by kernel_rfl) (by kernel_rfl) (hl.get 2 rfl) rfl) (ress_tmp rfl rfl)) ⟨hl.keep, by rw [btw_2 h0]; rfl⟩
end Go.Proofs.YtlnenodplgpceaaDoor
