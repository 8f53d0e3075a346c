/-
  The plain law, 2. The plain law, 3. The plain law, 4. The plain law, 5. ref27: end, before. ref27: with. ref27: Check, on. ref27: moments. ref27: Slices. ref28: number, height, lower. ref28: Up, simple, both, Simple. ref28: MadeKind, Kind. ref28: bass. ref28: MadeClashes.
-/
import Derived.Test.YtgiibikieblicaaGreatDoorSmD
namespace Go.Proofs.YtgiibikieblicaaGreatDoor
open Go.Cm Go
set_option maxRecDepth 100000
variable {S : St}
def fc : Nat → Nat
 | 0 => 1
 | n + 1 => (n + 1) * fc n
theorem fc_dvd : ∀ (n d : Nat), 1 ≤ d → d ≤ n → d ∣ fc n
 | 0, d, h1, h2 => by omega
 | n + 1, d, h1, h2 => by
  unfold fc
  rcases Nat.lt_or_ge n d with h | h
  ·obtain rfl : d = n + 1 := by omega
   exact Nat.dvd_mul_right _ _
  ·exact Nat.dvd_mul_left_of_dvd (fc_dvd n d h1 h) _
theorem fc_pos : ∀ n, 0 < fc n
 | 0 => Nat.one_pos
 | n + 1 => Nat.mul_pos (Nat.succ_pos n) (fc_pos n)
structure Den where
 m : Nat
 pos : 0 < m
 dvd : ∀ d : Nat, 1 ≤ d → d ≤ 1048576 → d ∣ m
theorem den_ex : Nonempty Den := ⟨⟨fc 1048576, fc_pos _, fun d h1 h2 => fc_dvd _ d h1 h2⟩⟩
def kyT (D : Den) (t : Ti) : Nat := t.n.toNat * (D.m / t.d.toNat)
def VTi (t : Ti) : Prop := tE t = 0
theorem VTi.ok {t : Ti} (h : VTi t) : 0 ≤ t.n ∧ 1 ≤ t.d ∧ t.d ≤ 1048576 ∧ Nat.gcd t.n.toNat t.d.toNat = 1 := by
 have hb := tE_ok h
 refine ⟨hb.1, hb.2.2.1, hb.2.2.2, ?_⟩
 unfold VTi tE at h
 cases h1 : tB t with
 | true => rw [h1] at h; cases h
 | false =>
  cases h2 : decide (gI t.n t.d > 1) with
  | true => rw [h1, h2] at h; cases h
  | false =>
   have h3 := of_decide_eq_false h2
   have h4 := gI_pos (a := t.n) (b := t.d) (by omega)
   have h5 : gI t.n t.d = 1 := by omega
   unfold gI at h5
   omega
section
variable {D : Den} {a b : Ti}
theorem ky_mul (h : VTi a) : kyT D a * a.d.toNat = a.n.toNat * D.m := by
 obtain ⟨_, h2, h3, _⟩ := h.ok
 have hd := D.dvd a.d.toNat (by omega) (by omega)
 unfold kyT
 rw [Nat.mul_assoc, Nat.div_mul_cancel hd]
theorem ky_cross (ha : VTi a) (hb : VTi b) : (kyT D a < kyT D b ↔ a.n * b.d < b.n * a.d) ∧ (kyT D a = kyT D b ↔ a.n * b.d = b.n * a.d) := by
 obtain ⟨a1, a2, a3, _⟩ := ha.ok
 obtain ⟨b1, b2, b3, _⟩ := hb.ok
 have ea := ky_mul (D := D) ha
 have eb := ky_mul (D := D) hb
 obtain ⟨an, ad⟩ := a
 obtain ⟨bn, bd⟩ := b
 obtain ⟨x, rfl⟩ := Int.eq_ofNat_of_zero_le a1
 obtain ⟨y, rfl⟩ := Int.eq_ofNat_of_zero_le b1
 obtain ⟨u, rfl⟩ := Int.eq_ofNat_of_zero_le (show 0 ≤ ad by have : 1 ≤ ad := a2; omega)
 obtain ⟨v, rfl⟩ := Int.eq_ofNat_of_zero_le (show 0 ≤ bd by have : 1 ≤ bd := b2; omega)
 generalize kyT D ⟨(x : Int), (u : Int)⟩ = p at ea ⊢
 generalize kyT D ⟨(y : Int), (v : Int)⟩ = q at eb ⊢
 have ea : p * u = x * D.m := ea
 have eb : q * v = y * D.m := eb
 have hu : 0 < u := by have : (1 : Int) ≤ (u : Int) := a2; omega
 have hv : 0 < v := by have : (1 : Int) ≤ (v : Int) := b2; omega
 have hm := D.pos
 have e1 : p * (u * v) = x * v * D.m := by rw [← Nat.mul_assoc, ea, Nat.mul_right_comm]
 have e2 : q * (u * v) = y * u * D.m := by rw [Nat.mul_comm u v, ← Nat.mul_assoc, eb, Nat.mul_right_comm]
 have huv : 0 < u * v := Nat.mul_pos hu hv
 have k1 : (p < q ↔ x * v < y * u) := by
  rw [← Nat.mul_lt_mul_right huv (b := p) (c := q), e1, e2]
  exact Nat.mul_lt_mul_right hm
 have k2 : (p = q ↔ x * v = y * u) := by
  constructor
  ·rintro rfl
   rw [e1] at e2
   exact Nat.eq_of_mul_eq_mul_right hm e2
  ·intro h
   rw [h, ← e2] at e1
   exact Nat.eq_of_mul_eq_mul_right huv e1
 have c1 : ((x : Int) * (v : Int)) = ((x * v : Nat) : Int) := (Int.natCast_mul x v).symm
 have c2 : ((y : Int) * (u : Int)) = ((y * u : Nat) : Int) := (Int.natCast_mul y u).symm
 constructor
 ·rw [k1]
  show _ ↔ (x : Int) * (v : Int) < (y : Int) * (u : Int)
  rw [c1, c2]
  omega
 ·rw [k2]
  show _ ↔ (x : Int) * (v : Int) = (y : Int) * (u : Int)
  rw [c1, c2]
  omega
theorem ky_inj (ha : VTi a) (hb : VTi b) (h : kyT D a = kyT D b) : a = b := by
 have hc := (ky_cross (D := D) ha hb).2.1 h
 obtain ⟨a1, a2, a3, ga⟩ := ha.ok
 obtain ⟨b1, b2, b3, gb⟩ := hb.ok
 obtain ⟨an, ad⟩ := a
 obtain ⟨bn, bd⟩ := b
 obtain ⟨x, rfl⟩ := Int.eq_ofNat_of_zero_le a1
 obtain ⟨y, rfl⟩ := Int.eq_ofNat_of_zero_le b1
 obtain ⟨u, rfl⟩ := Int.eq_ofNat_of_zero_le (show 0 ≤ ad by have : 1 ≤ ad := a2; omega)
 obtain ⟨v, rfl⟩ := Int.eq_ofNat_of_zero_le (show 0 ≤ bd by have : 1 ≤ bd := b2; omega)
 have hc : (x : Int) * (v : Int) = (y : Int) * (u : Int) := hc
 rw [← Int.natCast_mul, ← Int.natCast_mul] at hc
 have hc : x * v = y * u := Int.ofNat.inj hc
 have ga : Nat.gcd x u = 1 := ga
 have gb : Nat.gcd y v = 1 := gb
 have hu : 0 < u := by have : (1 : Int) ≤ (u : Int) := a2; omega
 have d1 : u ∣ v := Nat.Coprime.dvd_of_dvd_mul_left (Nat.Coprime.symm ga) (hc ▸ Nat.dvd_mul_left u y)
 have d2 : v ∣ u := Nat.Coprime.dvd_of_dvd_mul_left (Nat.Coprime.symm gb) (hc ▸ Nat.dvd_mul_left v x)
 obtain rfl := Nat.dvd_antisymm d1 d2
 obtain rfl := Nat.eq_of_mul_eq_mul_right hu hc
 rfl
theorem ky_cmp (ha : VTi a) (hb : VTi b) : cmpE a b = (sgn ((kyT D a : Int) - (kyT D b : Int)), 0) := by
 have hf : firstE [a, b] = 0 := by
  rw [first_go (by rw [show tE a = 0 from ha]; rfl), first_go (by rw [show tE b = 0 from hb]; rfl)]
  rfl
 rw [cmpE_2 (by rw [hf]; rfl)]
 have h1 := ky_cross (D := D) ha hb
 have h2 := ky_cross (D := D) hb ha
 rcases Nat.lt_trichotomy (kyT D a) (kyT D b) with h | h | h
 ·have := h1.1.1 h
  rw [sgn_1 (decide_eq_true (by omega)), sgn_1 (decide_eq_true (by omega))]
 ·have := h1.2.1 h
  rw [sgn_3 (decide_eq_false (by omega)) (decide_eq_false (by omega)), sgn_3 (decide_eq_false (by omega)) (decide_eq_false (by omega))]
 ·have := h2.1.1 h
  rw [sgn_2 (decide_eq_false (by omega)) (decide_eq_true (by omega)), sgn_2 (decide_eq_false (by omega)) (decide_eq_true (by omega))]
theorem ky_lt (ha : VTi a) (hb : VTi b) : decide ((cmpE a b).1 < 0) = decide (kyT D a < kyT D b) := by
 rw [ky_cmp (D := D) ha hb]
 refine decide_eq_decide.2 ?_
 show sgn ((kyT D a : Int) - (kyT D b : Int)) < 0 ↔ _
 rcases Nat.lt_trichotomy (kyT D a) (kyT D b) with h | h | h
 ·rw [sgn_1 (decide_eq_true (by omega))]; omega
 ·rw [sgn_3 (decide_eq_false (by omega)) (decide_eq_false (by omega))]; omega
 ·rw [sgn_2 (decide_eq_false (by omega)) (decide_eq_true (by omega))]; omega
theorem ky_le (ha : VTi a) (hb : VTi b) : decide ((cmpE a b).1 ≤ 0) = decide (kyT D a ≤ kyT D b) := by
 rw [ky_cmp (D := D) ha hb]
 refine decide_eq_decide.2 ?_
 show sgn ((kyT D a : Int) - (kyT D b : Int)) ≤ 0 ↔ _
 rcases Nat.lt_trichotomy (kyT D a) (kyT D b) with h | h | h
 ·rw [sgn_1 (decide_eq_true (by omega))]; omega
 ·rw [sgn_3 (decide_eq_false (by omega)) (decide_eq_false (by omega))]; omega
 ·rw [sgn_2 (decide_eq_false (by omega)) (decide_eq_true (by omega))]; omega
end
end Go.Proofs.YtgiibikieblicaaGreatDoor
namespace Go.Proofs.YtgiibikieblicaaGreatDoor
open Go.Cm Go
set_option maxRecDepth 100000
variable {S : St}
section
variable {D : Den}
def VL (l : List Ti) : Prop := ∀ t, t ∈ l → VTi t
abbrev kyL (D : Den) (l : List Ti) : List Nat := l.map (kyT D)
theorem kyL_inj : ∀ {l m : List Ti}, VL l → VL m → kyL D l = kyL D m → l = m
 | [], [], _, _, _ => rfl
 | [], _ :: _, _, _, h => by cases h
 | _ :: _, [], _, _, h => by cases h
 | x :: l, y :: m, h1, h2, h => by
  injection h with h3 h4
  rw [ky_inj (h1 x (List.mem_cons_self ..)) (h2 y (List.mem_cons_self ..)) h3, kyL_inj (fun t ht => h1 t (List.mem_cons_of_mem _ ht)) (fun t ht => h2 t (List.mem_cons_of_mem _ ht)) h4]
theorem sw_key {a b : List Ti} (ha : VL a) (hb : VL b) : swB a b = swN (kyL D a) (kyL D b) := by
 unfold swB swN
 rw [List.length_map, List.length_map]
 cases a with
 | nil => rfl
 | cons x r =>
  cases b with
  | nil => simp
  | cons y q =>
   show (_ || (_ && decide ((cmpE y x).1 < 0))) = (_ || (_ && decide (kyT D y < kyT D x)))
   rw [ky_lt (D := D) (hb y (List.mem_cons_self ..)) (ha x (List.mem_cons_self ..))]
theorem sp_key {a b : List Ti} (ha : VL a) (hb : VL b) : spN (kyL D a) (kyL D b) = (kyL D (swp a b).1, kyL D (swp a b).2) := by
 unfold swp spN
 rw [sw_key (D := D) ha hb]
 cases swN (kyL D a) (kyL D b) <;> rfl
theorem swp_mem {a b : List Ti} {t : Ti} (h : t ∈ (swp a b).1 ∨ t ∈ (swp a b).2) : t ∈ a ∨ t ∈ b := by
 unfold swp at h
 cases hs : swB a b with
 | true => rw [hs] at h; exact h.symm
 | false => rw [hs] at h; exact h
theorem p_key {o : List Ti} {x : Ti} (ho : VL o) (hx : VTi x) : kyL D (psh o x) = pN (kyL D o) (kyT D x) := by
 have e : psB o x = pbN (kyL D o) (kyT D x) := by
  unfold psB pbN
  rw [List.length_map]
  cases hl : nth o (o.length - 1) with
  | none =>
   have h0 : o.length = 0 := by
    rcases Nat.eq_zero_or_pos o.length with h | h
    ·exact h
    ·obtain ⟨y, hy⟩ := nth_some (l := o) (i := o.length - 1) (by omega)
     rw [hy] at hl; cases hl
   rw [h0]; rfl
  | some l =>
   rw [nth_map (kyT D) hl, Option.getD_some, Option.getD_some]
   have : decide (l = x) = decide (kyT D l = kyT D x) := decide_eq_decide.2 ⟨fun h => by rw [h], fun h => ky_inj (ho l (nth_mem hl)) hx h⟩
   rw [this]
 unfold psh pN
 rw [e]
 cases pbN (kyL D o) (kyT D x) with
 | true => show kyL D (o ++ [x]) = kyL D o ++ [kyT D x]; unfold kyL; rw [List.map_append]; rfl
 | false => rfl
theorem psh_VL {o : List Ti} {x : Ti} (ho : VL o) (hx : VTi x) : VL (psh o x) := by
 unfold psh
 cases psB o x with
 | false => exact ho
 | true =>
  intro t ht
  rcases List.mem_append.1 ht with ht | ht
  ·exact ho t ht
  ·rw [List.mem_singleton.1 ht]; exact hx
theorem mg_key : ∀ (n : Nat) (a b o : List Ti), VL a → VL b → VL o → kyL D (mgG n a b o) = mgN n (kyL D a) (kyL D b) (kyL D o) ∧ VL (mgG n a b o)
 | 0, _, _, _, _, _, ho => ⟨rfl, ho⟩
 | n + 1, a, b, o, ha, hb, ho => by
  have hs : ∀ t, (t ∈ (swp a b).1 ∨ t ∈ (swp a b).2) → VTi t := fun t ht => (swp_mem ht).elim (ha t) (hb t)
  rw [mgG, mgN, sp_key ha hb]
  cases h1 : (swp a b).1 with
  | nil => exact ⟨rfl, ho⟩
  | cons x r =>
   show kyL D (mgG n r (swp a b).2 (psh o x)) = mgN n (kyL D r) (kyL D (swp a b).2) (pN (kyL D o) (kyT D x)) ∧ _
   have hx : VTi x := hs x (.inl (by rw [h1]; exact List.mem_cons_self ..))
   rw [← p_key ho hx]
   exact mg_key n r _ _ (fun y hy => hs y (.inl (by rw [h1]; exact List.mem_cons_of_mem _ hy))) (fun y hy => hs y (.inr hy)) (psh_VL ho hx)
def wiK : List Ti → Ti → Nat
 | [], _ => 0
 | x :: r, t => bif decide ((cmpE x t).1 < 0) then wiK r t + 1 else 0
def wiB (l : List Ti) (t : Ti) : Bool := decide ((wiK l t : Int) < (l.length : Int)) && decide ((nth l (wiK l t)).getD zT = t)
def wiE (l : List Ti) (t : Ti) : List Ti := bif wiB l t then l else l.take (wiK l t) ++ [t] ++ l.drop (wiK l t)
def insN : List Nat → Nat → List Nat
 | [], x => [x]
 | y :: r, x => if y < x then y :: insN r x else if y = x then y :: r else x :: y :: r
theorem wi_cons_1 {x t : Ti} {r : List Ti} (h : decide ((cmpE x t).1 < 0) = true) : wiE (x :: r) t = x :: wiE r t := by
 have hk : wiK (x :: r) t = wiK r t + 1 := by rw [wiK, h]; rfl
 have hB : wiB (x :: r) t = wiB r t := by
  unfold wiB
  rw [hk]
  show (decide (((wiK r t + 1 : Nat) : Int) < ((r.length + 1 : Nat) : Int)) && _) = _
  rw [show decide (((wiK r t + 1 : Nat) : Int) < ((r.length + 1 : Nat) : Int)) = decide ((wiK r t : Int) < (r.length : Int)) from decide_eq_decide.2 (by omega)]
  rfl
 unfold wiE
 rw [hB, hk]
 cases wiB r t <;> rfl
theorem wi_key : ∀ {l : List Ti} {t : Ti}, VL l → VTi t → kyL D (wiE l t) = insN (kyL D l) (kyT D t) ∧ VL (wiE l t)
 | [], t, _, ht => ⟨rfl, fun x hx => by
  have hx : x ∈ [t] := hx
  rw [List.mem_singleton.1 hx]; exact ht⟩
 | x :: r, t, hl, ht => by
  have hx := hl x (List.mem_cons_self ..)
  have hlt := ky_lt (D := D) hx ht
  cases h : decide ((cmpE x t).1 < 0) with
  | true =>
   rw [h] at hlt
   have hlt := of_decide_eq_true hlt.symm
   obtain ⟨i1, i2⟩ := wi_key (l := r) (t := t) (fun y hy => hl y (List.mem_cons_of_mem _ hy)) ht
   rw [wi_cons_1 h]
   refine ⟨?_, fun y hy => ?_⟩
   ·show kyT D x :: kyL D (wiE r t) = insN (kyT D x :: kyL D r) (kyT D t)
    rw [insN, if_pos hlt, i1]
   ·rcases List.mem_cons.1 hy with rfl | hy
    ·exact hx
    ·exact i2 y hy
  | false =>
   rw [h] at hlt
   have hlt := of_decide_eq_false hlt.symm
   have hk : wiK (x :: r) t = 0 := by rw [wiK, h]; rfl
   have hB : wiB (x :: r) t = decide (x = t) := by
    unfold wiB
    rw [hk, decide_eq_true (show ((0 : Nat) : Int) < (((x :: r).length : Nat) : Int) by rw [List.length_cons]; omega)]
    rfl
   unfold wiE
   rw [hB, hk]
   show kyL D (bif decide (x = t) then x :: r else t :: x :: r) = insN (kyT D x :: kyL D r) (kyT D t) ∧ VL (bif decide (x = t) then x :: r else t :: x :: r)
   rw [insN, if_neg hlt]
   by_cases he : x = t
   ·subst he
    rw [decide_eq_true rfl, if_pos rfl]
    exact ⟨rfl, hl⟩
   ·rw [decide_eq_false he, if_neg (fun e => he (ky_inj hx ht e))]
    exact ⟨rfl, fun y hy => (List.mem_cons.1 hy).elim (fun e => by rw [e]; exact ht) (hl y)⟩
theorem ins_ok : ∀ {l : List Nat} {x : Nat}, Asc l → Asc (insN l x) ∧ ∀ y, y ∈ insN l x ↔ y ∈ l ∨ y = x
 | [], x, _ => ⟨List.pairwise_singleton _ _, fun y => by simp [insN]⟩
 | z :: r, x, h => by
  obtain ⟨h1, h2⟩ := List.pairwise_cons.1 h
  obtain ⟨i1, i2⟩ := ins_ok (l := r) (x := x) h2
  rw [insN]
  by_cases hz : z < x
  ·rw [if_pos hz]
   refine ⟨List.pairwise_cons.2 ⟨fun y hy => ?_, i1⟩, fun y => ?_⟩
   ·rcases (i2 y).1 hy with hy | rfl
    ·exact h1 y hy
    ·exact hz
   ·rw [List.mem_cons, i2, List.mem_cons, or_assoc]
  ·rw [if_neg hz]
   by_cases he : z = x
   ·subst he
    rw [if_pos rfl]
    exact ⟨h, fun y => ⟨.inl, fun hy => hy.elim id fun e => by rw [e]; exact List.mem_cons_self ..⟩⟩
   ·rw [if_neg he]
    refine ⟨List.pairwise_cons.2 ⟨fun y hy => ?_, h⟩, fun y => ?_⟩
    ·rcases List.mem_cons.1 hy with rfl | hy
     ·omega
     ·have := h1 y hy; omega
    ·rw [List.mem_cons]
     exact or_comm
end
end Go.Proofs.YtgiibikieblicaaGreatDoor
namespace Go.Proofs.YtgiibikieblicaaGreatDoor
open Go.Cm Go
set_option maxRecDepth 100000
variable {S : St}
theorem mk_valid {n d : Int} (hn : 0 ≤ n) (hd : 0 < d) (h : (mkE n d).2 = 0) : VTi (mkE n d).1 ∧ (mkE n d).1.n * d = n * (mkE n d).1.d := by
 have h1 : (decide (n < 0) || decide (d < 0)) = false := by rw [decide_eq_false (by omega), decide_eq_false (by omega)]; rfl
 have h2 : (d == 0) = false := by rw [beq_eq_false_iff_ne]; omega
 cases h3 : (decide (n.tdiv (gI n d) > 1099511627776) || decide (d.tdiv (gI n d) > 1048576)) with
 | true => rw [mkE_3 h1 h2 h3] at h; cases h
 | false =>
  rw [mkE_4 h1 h2 h3]
  rw [Bool.or_eq_false_iff] at h3
  have b1 := of_decide_eq_false h3.1
  have b2 := of_decide_eq_false h3.2
  obtain ⟨x, rfl⟩ := Int.eq_ofNat_of_zero_le hn
  obtain ⟨y, rfl⟩ := Int.eq_ofNat_of_zero_le (Int.le_of_lt hd)
  have hy : 0 < y := by omega
  have eg : gI (x : Int) (y : Int) = ((Nat.gcd x y : Nat) : Int) := rfl
  have hg : 0 < Nat.gcd x y := Nat.gcd_pos_of_pos_right _ hy
  have e1 : (x : Int).tdiv (gI (x : Int) (y : Int)) = ((x / Nat.gcd x y : Nat) : Int) := by rw [eg, Int.tdiv_eq_ediv_of_nonneg (by omega)]; exact (Int.natCast_ediv _ _).symm
  have e2 : (y : Int).tdiv (gI (x : Int) (y : Int)) = ((y / Nat.gcd x y : Nat) : Int) := by rw [eg, Int.tdiv_eq_ediv_of_nonneg (by omega)]; exact (Int.natCast_ediv _ _).symm
  rw [e1] at b1
  rw [e2] at b2
  rw [e1, e2]
  have hy2 : 0 < y / Nat.gcd x y := Nat.div_pos (Nat.gcd_le_right _ hy) hg
  have hc : Nat.gcd (x / Nat.gcd x y) (y / Nat.gcd x y) = 1 := Nat.coprime_div_gcd_div_gcd hg
  refine ⟨?_, ?_⟩
  ·unfold VTi
   refine tE_3 ?_ (decide_eq_false ?_)
   ·unfold tB
    simp only [Bool.or_eq_false_iff, decide_eq_false_iff_not]
    refine ⟨⟨⟨?_, b1⟩, ?_⟩, b2⟩
    ·exact Int.not_lt.2 (Int.natCast_nonneg _)
    ·exact Int.not_lt.2 (by exact_mod_cast hy2)
   ·show ¬ ((Nat.gcd (x / Nat.gcd x y) (y / Nat.gcd x y) : Nat) : Int) > 1
    rw [hc]; decide
  ·show ((x / Nat.gcd x y : Nat) : Int) * (y : Int) = (x : Int) * ((y / Nat.gcd x y : Nat) : Int)
   rw [← Int.natCast_mul, ← Int.natCast_mul]
   have q1 := Nat.div_mul_cancel (Nat.gcd_dvd_left x y)
   have q2 := Nat.div_mul_cancel (Nat.gcd_dvd_right x y)
   have : x / Nat.gcd x y * y = x * (y / Nat.gcd x y) := by
    calc x / Nat.gcd x y * y = x / Nat.gcd x y * (y / Nat.gcd x y * Nat.gcd x y) := by rw [q2]
     _ = (x / Nat.gcd x y * Nat.gcd x y) * (y / Nat.gcd x y) := by rw [Nat.mul_comm (y / Nat.gcd x y), Nat.mul_assoc]
     _ = x * (y / Nat.gcd x y) := by rw [q1]
   rw [this]
section
variable {D : Den}
theorem add_key {a b : Ti} (ha : VTi a) (hb : VTi b) (h : (addE a b).2 = 0) : VTi (addE a b).1 ∧ kyT D (addE a b).1 = kyT D a + kyT D b := by
 have hf : firstE [a, b] = 0 := by
  rw [first_go (by rw [show tE a = 0 from ha]; rfl), first_go (by rw [show tE b = 0 from hb]; rfl)]
  rfl
 rw [addE_2 (by rw [hf]; rfl)] at h ⊢
 obtain ⟨a1, a2, a3, _⟩ := ha.ok
 obtain ⟨b1, b2, b3, _⟩ := hb.ok
 have m1 : 0 ≤ a.n * b.d := Int.mul_nonneg a1 (by omega)
 have m2 : 0 ≤ b.n * a.d := Int.mul_nonneg b1 (by omega)
 have m3 : 0 < a.d * b.d := Int.mul_pos (by omega) (by omega)
 obtain ⟨hv, he⟩ := mk_valid (n := a.n * b.d + b.n * a.d) (d := a.d * b.d) (by omega) m3 h
 refine ⟨hv, ?_⟩
 obtain ⟨c1, c2, c3, _⟩ := hv.ok
 have ea := ky_mul (D := D) ha
 have eb := ky_mul (D := D) hb
 have ec := ky_mul (D := D) hv
 generalize (mkE (a.n * b.d + b.n * a.d) (a.d * b.d)).1 = c at he ec c1 c2 ⊢
 obtain ⟨an, ad⟩ := a
 obtain ⟨bn, bd⟩ := b
 obtain ⟨cn, cd⟩ := c
 obtain ⟨x, rfl⟩ := Int.eq_ofNat_of_zero_le a1
 obtain ⟨y, rfl⟩ := Int.eq_ofNat_of_zero_le b1
 obtain ⟨z, rfl⟩ := Int.eq_ofNat_of_zero_le c1
 obtain ⟨u, rfl⟩ := Int.eq_ofNat_of_zero_le (show 0 ≤ ad by have : 1 ≤ ad := a2; omega)
 obtain ⟨v, rfl⟩ := Int.eq_ofNat_of_zero_le (show 0 ≤ bd by have : 1 ≤ bd := b2; omega)
 obtain ⟨w, rfl⟩ := Int.eq_ofNat_of_zero_le (show 0 ≤ cd by have : 1 ≤ cd := c2; omega)
 generalize kyT D ⟨(x : Int), (u : Int)⟩ = p at ea ⊢
 generalize kyT D ⟨(y : Int), (v : Int)⟩ = q at eb ⊢
 generalize kyT D ⟨(z : Int), (w : Int)⟩ = r at ec ⊢
 have ea : p * u = x * D.m := ea
 have eb : q * v = y * D.m := eb
 have ec : r * w = z * D.m := ec
 have he : (z : Int) * ((u : Int) * (v : Int)) = ((x : Int) * (v : Int) + (y : Int) * (u : Int)) * (w : Int) := he
 have he : z * (u * v) = (x * v + y * u) * w := by
  apply Int.ofNat.inj
  show ((z * (u * v) : Nat) : Int) = (((x * v + y * u) * w : Nat) : Int)
  simpa only [Int.natCast_mul, Int.natCast_add] using he
 have hu : 0 < u := by have : (1 : Int) ≤ (u : Int) := a2; omega
 have hv' : 0 < v := by have : (1 : Int) ≤ (v : Int) := b2; omega
 have hw : 0 < w := by have : (1 : Int) ≤ (w : Int) := c2; omega
 have huv : 0 < u * v := Nat.mul_pos hu hv'
 have k1 : (r * (u * v)) * w = ((p + q) * (u * v)) * w := by
  calc (r * (u * v)) * w = (r * w) * (u * v) := by rw [Nat.mul_right_comm]
   _ = (z * (u * v)) * D.m := by rw [ec, Nat.mul_right_comm]
   _ = ((x * D.m) * v + (y * D.m) * u) * w := by rw [he, Nat.mul_right_comm, Nat.add_mul, Nat.mul_right_comm x, Nat.mul_right_comm y]
   _ = ((p * u) * v + (q * v) * u) * w := by rw [ea, eb]
   _ = ((p + q) * (u * v)) * w := by rw [Nat.add_mul p q, ← Nat.mul_assoc p, Nat.mul_comm u v, ← Nat.mul_assoc q]
 exact Nat.eq_of_mul_eq_mul_right huv (Nat.eq_of_mul_eq_mul_right hw k1)
theorem ky_zero : kyT D zT = 0 := by unfold kyT zT; simp
theorem zT_valid : VTi zT := by unfold VTi; decide
theorem ky_pos {t : Ti} (h : VTi t) (hn : t.n ≠ 0) : 0 < kyT D t := by
 obtain ⟨h1, h2, h3, _⟩ := h.ok
 have hd := D.dvd t.d.toNat (by omega) (by omega)
 exact Nat.mul_pos (by omega) (Nat.div_pos (Nat.le_of_dvd D.pos hd) (by omega))
def KV (D : Den) : List Ev → Nat → Prop
 | [], _ => True
 | x :: r, s => (VTi x.at_ ∧ kyT D x.at_ = s ∧ 0 < kyT D x.dur ∧ VTi (addE x.at_ x.dur).1 ∧ kyT D (addE x.at_ x.dur).1 = s + kyT D x.dur) ∧ KV D r (s + kyT D x.dur)
theorem one_ok {x : Ev} (h : oneE x = 0) : VTi x.at_ ∧ VTi x.dur ∧ x.dur.n ≠ 0 ∧ midE x = 0 := by
 cases h1 : (firstE [x.at_, x.dur] != 0) with
 | true => rw [one_1 h1] at h; rw [h] at h1; cases h1
 | false =>
  have f := first2 h1
  have h1 : firstE [x.at_, x.dur] = 0 := by simpa using h1
  cases h2 : (x.dur.n == 0) with
  | true => rw [one_2 h1 h2] at h; cases h
  | false =>
   cases h3 : (midE x != 0) with
   | true => rw [one_3 h1 h2 h3] at h; rw [h] at h3; cases h3
   | false => exact ⟨f.1, f.2, by simpa using h2, by simpa using h3⟩
theorem evG_kv : ∀ {C : List Ev} {now : Ti} {i : Nat}, (evG C now i).1 = 0 → KV D C (kyT D now) ∧ ∀ x, x ∈ C → midE x = 0
 | [], _, _, _ => ⟨trivial, fun _ h => (List.not_mem_nil h).elim⟩
 | x :: r, now, i, h => by
  cases h1 : (oneE x != 0) with
  | true =>
   rw [evG_1 h1] at h
   have h' : oneE x = 0 := h
   rw [h'] at h1; cases h1
  | false =>
   cases h2 : (!decide (x.at_ = now)) with
   | true => rw [evG_2 h1 h2] at h; cases h
   | false =>
    cases h3 : ((addE x.at_ x.dur).2 != 0) with
    | true =>
     rw [evG_3 h1 h2 h3] at h
     have h' : (addE x.at_ x.dur).2 = 0 := h
     rw [h'] at h3; cases h3
    | false =>
     rw [evG_4 h1 h2 h3] at h
     have ha : x.at_ = now := by simpa using h2
     obtain ⟨v1, v2, v3, v4⟩ := one_ok (x := x) (by simpa using h1)
     obtain ⟨w1, w2⟩ := add_key (D := D) v1 v2 (by simpa using h3)
     obtain ⟨i1, i2⟩ := evG_kv (C := r) h
     rw [w2, ha] at i1
     refine ⟨⟨⟨v1, by rw [ha], ky_pos v2 v3, w1, by rw [w2, ha]⟩, i1⟩, fun y hy => ?_⟩
     rcases List.mem_cons.1 hy with rfl | hy
     ·exact v4
     ·exact i2 y hy
theorem ev_kv {C : List Ev} (h : (evE C).1 = 0) : KV D C 0 ∧ (∀ x, x ∈ C → midE x = 0) ∧ C.length ≤ 2000 := by
 have hl : C.length ≤ 2000 := ev_len (by rw [h]; rfl)
 rw [ev_2 (decide_eq_false (by omega))] at h
 have := evG_kv (D := D) h
 rw [ky_zero] at this
 exact ⟨this.1, this.2, hl⟩
def kvE (D : Den) : List Ev → Nat → Nat
 | [], s => s
 | x :: r, s => kvE D r (s + kyT D x.dur)
def kvO (D : Den) : List Ev → Nat → List Nat
 | [], _ => []
 | x :: r, s => s :: kvO D r (s + kyT D x.dur)
theorem kv_last : ∀ {C : List Ev} {s : Nat}, KV D C s → 0 < C.length → ∃ x, nth C (C.length - 1) = some x ∧ VTi (addE x.at_ x.dur).1 ∧ kyT D (addE x.at_ x.dur).1 = kvE D C s
 | [x], s, ⟨⟨_, _, _, h4, h5⟩, _⟩, _ => ⟨x, rfl, h4, h5⟩
 | x :: y :: r, s, ⟨_, hr⟩, _ => by
  obtain ⟨z, h1, h2, h3⟩ := kv_last hr (by simp)
  exact ⟨z, h1, h2, h3⟩
theorem kv_end {C : List Ev} (he : (evE C).1 = 0) : VTi (endE C).1 ∧ kyT D (endE C).1 = kvE D C 0 := by
 have hk := (ev_kv (D := D) he).1
 have he' : ((evE C).1 != 0) = false := by rw [he]; rfl
 cases C with
 | nil => rw [end_2 he' rfl]; exact ⟨zT_valid, ky_zero⟩
 | cons x r =>
  obtain ⟨z, h1, h2, h3⟩ := kv_last hk (by simp)
  rw [end_3 he' h1]
  exact ⟨h2, h3⟩
theorem kv_at : ∀ {C : List Ev} {s : Nat}, KV D C s → kyL D (C.map Ev.at_) = kvO D C s ∧ VL (C.map Ev.at_)
 | [], _, _ => ⟨rfl, fun _ h => (List.not_mem_nil h).elim⟩
 | x :: r, s, ⟨⟨h1, h2, _⟩, hr⟩ => by
  obtain ⟨i1, i2⟩ := kv_at hr
  refine ⟨by show kyT D x.at_ :: kyL D (r.map Ev.at_) = _; rw [i1, h2]; rfl, fun t ht => ?_⟩
  rcases List.mem_cons.1 ht with rfl | ht
  ·exact h1
  ·exact i2 t ht
theorem kvE_le : ∀ {C : List Ev} {s : Nat}, KV D C s → s ≤ kvE D C s
 | [], _, _ => Nat.le_refl _
 | x :: r, s, ⟨_, hr⟩ => Nat.le_trans (Nat.le_add_right _ _) (kvE_le hr)
theorem kvO_in : ∀ {C : List Ev} {s : Nat}, KV D C s → ∀ y, y ∈ kvO D C s → s ≤ y ∧ y < kvE D C s
 | [], _, _, y, hy => (List.not_mem_nil hy).elim
 | x :: r, s, ⟨⟨_, _, h3, _⟩, hr⟩, y, hy => by
  have hle := kvE_le hr
  rcases List.mem_cons.1 hy with rfl | hy
  ·exact ⟨Nat.le_refl _, by show y < kvE D r (y + kyT D x.dur); omega⟩
  ·have := kvO_in hr y hy
   exact ⟨by omega, this.2⟩
theorem kvO_asc : ∀ {C : List Ev} {s : Nat}, KV D C s → Asc (kvO D C s)
 | [], _, _ => List.Pairwise.nil
 | x :: r, s, ⟨⟨_, _, h3, _⟩, hr⟩ => List.pairwise_cons.2 ⟨fun y hy => by have := (kvO_in hr y hy).1; omega, kvO_asc hr⟩
def kmV (D : Den) (C : List Ev) : List Nat := kvO D C 0 ++ bif decide ((C.length : Int) > 0) then [kvE D C 0] else []
theorem kmV_asc {C : List Ev} (h : KV D C 0) : Asc (kmV D C) := by
 unfold kmV
 cases hd : decide ((C.length : Int) > 0) with
 | false => show Asc (kvO D C 0 ++ []); rw [List.append_nil]; exact kvO_asc h
 | true => exact List.pairwise_append.2 ⟨kvO_asc h, List.pairwise_singleton _ _, fun y hy z hz => by rw [List.mem_singleton.1 hz]; exact (kvO_in h y hy).2⟩
theorem ow_key {C : List Ev} (he : (evE C).1 = 0) : kyL D (owE C) = kmV D C ∧ VL (owE C) := by
 obtain ⟨i1, i2⟩ := kv_at (ev_kv (D := D) he).1
 obtain ⟨e1, e2⟩ := kv_end (D := D) he
 unfold owE kmV
 cases decide ((C.length : Int) > 0) with
 | true =>
  refine ⟨by show kyL D (C.map Ev.at_ ++ [(endE C).1]) = kvO D C 0 ++ [kvE D C 0]; unfold kyL; rw [List.map_append, List.map_cons, e2]; exact congrArg (· ++ _) i1, fun t ht => ?_⟩
  rcases List.mem_append.1 ht with ht | ht
  ·exact i2 t ht
  ·rw [List.mem_singleton.1 ht]; exact e1
 | false =>
  refine ⟨by show kyL D (C.map Ev.at_ ++ []) = kvO D C 0 ++ []; rw [List.append_nil, List.append_nil]; exact i1, fun t ht => ?_⟩
  exact i2 t ((List.mem_append.1 ht).elim id fun h => (List.not_mem_nil h).elim)
theorem mo_key : ∀ (V : List (List Ev)) (O : List Ti), (∀ v, v ∈ V → (evE v).1 = 0) → VL O → Asc (kyL D O) → VL (moG V O) ∧ Asc (kyL D (moG V O)) ∧ ∀ x, x ∈ kyL D (moG V O) ↔ x ∈ kyL D O ∨ ∃ v, v ∈ V ∧ x ∈ kmV D v
 | [], O, _, hO, hA => ⟨hO, hA, fun x => ⟨.inl, fun h => h.elim id fun ⟨v, hv, _⟩ => (List.not_mem_nil hv).elim⟩⟩
 | v :: r, O, hV, hO, hA => by
  have he := hV v (List.mem_cons_self ..)
  obtain ⟨o1, o2⟩ := ow_key (D := D) he
  have hk := (ev_kv (D := D) he).1
  obtain ⟨m1, m2⟩ := mg_key (D := D) (O.length + (owE v).length) O (owE v) [] hO o2 fun x hx => (List.not_mem_nil hx).elim
  obtain ⟨n1, n2⟩ := mgN_ok (O.length + (owE v).length) (kyL D O) (kyL D (owE v)) [] (by rw [List.length_map, List.length_map]) hA (by rw [o1]; exact kmV_asc hk) List.Pairwise.nil fun x hx => (List.not_mem_nil hx).elim
  have m1 : kyL D (mgE O (owE v)) = mgN (O.length + (owE v).length) (kyL D O) (kyL D (owE v)) [] := m1
  rw [← m1] at n1 n2
  obtain ⟨q1, q2, q3⟩ := mo_key r (mgE O (owE v)) (fun w hw => hV w (List.mem_cons_of_mem _ hw)) m2 n1
  refine ⟨q1, q2, fun x => (q3 x).trans ?_⟩
  rw [n2, o1]
  constructor
  ·rintro ((h | h | h) | ⟨w, hw, h⟩)
   ·exact (List.not_mem_nil h).elim
   ·exact .inl h
   ·exact .inr ⟨v, List.mem_cons_self .., h⟩
   ·exact .inr ⟨w, List.mem_cons_of_mem _ hw, h⟩
  ·rintro (h | ⟨w, hw, h⟩)
   ·exact .inl (.inr (.inl h))
   ·rcases List.mem_cons.1 hw with rfl | hw
    ·exact .inl (.inr (.inr h))
    ·exact .inr ⟨w, hw, h⟩
def rmV : List Ev → List Ti → List Ti
 | [], O => O
 | x :: r, O => rmV r (wiE (wiE O x.at_) (addE x.at_ x.dur).1)
def rmG : List (List Ev) → List Ti → List Ti
 | [], O => O
 | v :: r, O => rmG r (rmV v O)
theorem rmV_key : ∀ (C : List Ev) (s : Nat) (O : List Ti), KV D C s → VL O → Asc (kyL D O) → VL (rmV C O) ∧ Asc (kyL D (rmV C O)) ∧ ∀ x, x ∈ kyL D (rmV C O) ↔ x ∈ kyL D O ∨ (0 < C.length ∧ (x ∈ kvO D C s ∨ x = kvE D C s))
 | [], _, O, _, hO, hA => ⟨hO, hA, fun x => ⟨.inl, fun h => h.elim id fun h => absurd h.1 (Nat.lt_irrefl 0)⟩⟩
 | x :: r, s, O, ⟨⟨h1, h2, h3, h4, h5⟩, hr⟩, hO, hA => by
  obtain ⟨a1, a2⟩ := wi_key (D := D) hO h1
  obtain ⟨b1, b2⟩ := ins_ok (x := kyT D x.at_) hA
  rw [← a1] at b1 b2
  obtain ⟨c1, c2⟩ := wi_key (D := D) a2 h4
  obtain ⟨d1, d2⟩ := ins_ok (x := kyT D (addE x.at_ x.dur).1) b1
  rw [← c1] at d1 d2
  obtain ⟨q1, q2, q3⟩ := rmV_key r (s + kyT D x.dur) _ hr c2 d1
  refine ⟨q1, q2, fun y => (q3 y).trans ?_⟩
  rw [d2, b2, h2, h5]
  show _ ↔ y ∈ kyL D O ∨ (0 < (x :: r).length ∧ (y ∈ s :: kvO D r (s + kyT D x.dur) ∨ y = kvE D r (s + kyT D x.dur)))
  cases r with
  | nil =>
   constructor
   ·rintro (((h | h) | h) | ⟨h, _⟩)
    ·exact .inl h
    ·exact .inr ⟨by simp, .inl (by rw [h]; exact List.mem_cons_self ..)⟩
    ·exact .inr ⟨by simp, .inr h⟩
    ·exact absurd h (Nat.lt_irrefl 0)
   ·rintro (h | ⟨_, h | h⟩)
    ·exact .inl (.inl (.inl h))
    ·exact .inl (.inl (.inr (List.mem_singleton.1 h)))
    ·exact .inl (.inr h)
  | cons z q =>
   constructor
   ·rintro (((h | h) | h) | ⟨_, h | h⟩)
    ·exact .inl h
    ·exact .inr ⟨by simp, .inl (by rw [h]; exact List.mem_cons_self ..)⟩
    ·exact .inr ⟨by simp, .inl (by rw [h]; exact List.mem_cons_of_mem _ (List.mem_cons_self ..))⟩
    ·exact .inr ⟨by simp, .inl (List.mem_cons_of_mem _ h)⟩
    ·exact .inr ⟨by simp, .inr h⟩
   ·rintro (h | ⟨_, h | h⟩)
    ·exact .inl (.inl (.inl h))
    ·rcases List.mem_cons.1 h with h | h
     ·exact .inl (.inl (.inr h))
     ·exact .inr ⟨by simp, .inl h⟩
    ·exact .inr ⟨by simp, .inr h⟩
theorem kmV_mem {C : List Ev} {x : Nat} : x ∈ kmV D C ↔ 0 < C.length ∧ (x ∈ kvO D C 0 ∨ x = kvE D C 0) := by
 cases C with
 | nil =>
  constructor
  ·intro h
   exact (List.not_mem_nil (show x ∈ ([] : List Nat) from h)).elim
  ·rintro ⟨h, _⟩
   exact absurd h (Nat.lt_irrefl 0)
 | cons y r =>
  unfold kmV
  rw [decide_eq_true (show (((y :: r).length : Nat) : Int) > 0 by rw [List.length_cons]; omega)]
  show x ∈ _ ++ [_] ↔ _
  rw [List.mem_append, List.mem_singleton]
  exact ⟨fun h => ⟨by simp, h⟩, fun h => h.2⟩
theorem rm_key : ∀ (V : List (List Ev)) (O : List Ti), (∀ v, v ∈ V → (evE v).1 = 0) → VL O → Asc (kyL D O) → VL (rmG V O) ∧ Asc (kyL D (rmG V O)) ∧ ∀ x, x ∈ kyL D (rmG V O) ↔ x ∈ kyL D O ∨ ∃ v, v ∈ V ∧ x ∈ kmV D v
 | [], O, _, hO, hA => ⟨hO, hA, fun x => ⟨.inl, fun h => h.elim id fun ⟨v, hv, _⟩ => (List.not_mem_nil hv).elim⟩⟩
 | v :: r, O, hV, hO, hA => by
  obtain ⟨a1, a2, a3⟩ := rmV_key (D := D) v 0 O (ev_kv (D := D) (hV v (List.mem_cons_self ..))).1 hO hA
  obtain ⟨q1, q2, q3⟩ := rm_key r _ (fun w hw => hV w (List.mem_cons_of_mem _ hw)) a1 a2
  refine ⟨q1, q2, fun x => (q3 x).trans ?_⟩
  rw [a3, ← kmV_mem]
  constructor
  ·rintro ((h | h) | ⟨w, hw, h⟩)
   ·exact .inl h
   ·exact .inr ⟨v, List.mem_cons_self .., h⟩
   ·exact .inr ⟨w, List.mem_cons_of_mem _ hw, h⟩
  ·rintro (h | ⟨w, hw, h⟩)
   ·exact .inl (.inl h)
   ·rcases List.mem_cons.1 hw with rfl | hw
    ·exact .inl (.inr h)
    ·exact .inr ⟨w, hw, h⟩
end
theorem rm_mo {V : List (List Ev)} (hV : ∀ v, v ∈ V → (evE v).1 = 0) : rmG V [] = moE V := by
 obtain ⟨D⟩ := den_ex
 have hn : VL ([] : List Ti) := fun _ h => (List.not_mem_nil h).elim
 obtain ⟨a1, a2, a3⟩ := mo_key (D := D) V [] hV hn List.Pairwise.nil
 obtain ⟨b1, b2, b3⟩ := rm_key (D := D) V [] hV hn List.Pairwise.nil
 exact kyL_inj (D := D) b1 a1 (asc_ext b2 a2 fun x => (b3 x).trans (a3 x).symm)
end Go.Proofs.YtgiibikieblicaaGreatDoor
namespace Go.Proofs.YtgiibikieblicaaGreatDoor
open Go.Cm Go
set_option maxRecDepth 100000
variable {S : St}
def onG : List Ev → Ti → Nat → Int
 | [], _, _ => -1
 | x :: r, t, i => bif (!decide ((cmpE t x.at_).1 < 0)) && decide ((cmpE t (addE x.at_ x.dur).1).1 < 0) then (i : Int) else onG r t (i + 1)
def onE (C : List Ev) (t : Ti) : Int := onG C t 0
def rslG (V : List (List Ev)) : List Ti → List Sl × Int
 | t :: u :: r => bif (subE u t).2 != 0 then ([], (subE u t).2) else (⟨t, (subE u t).1, V.map fun C => onE C t⟩ :: (rslG V (u :: r)).1, (rslG V (u :: r)).2)
 | _ => ([], 0)
def rslsE (V : List (List Ev)) : List Sl × Int := bif (acE V).1 != 0 then ([], (acE V).1) else bif (rslG V (rmG V [])).2 != 0 then ([], (rslG V (rmG V [])).2) else ((rslG V (rmG V [])).1, 0)
section
variable {D : Den} {t : Ti}
theorem asc_nth : ∀ {l : List Nat} {i j a b : Nat}, Asc l → i < j → nth l i = some a → nth l j = some b → a < b
 | [], _, _, _, _, _, _, h, _ => by cases h
 | x :: l, 0, 0, _, _, _, h, _, _ => absurd h (Nat.lt_irrefl 0)
 | x :: l, 0, j + 1, a, b, hl, _, h1, h2 => by
  cases h1
  exact (List.pairwise_cons.1 hl).1 b (nth_mem h2)
 | x :: l, i + 1, 0, _, _, _, h, _, _ => absurd h (Nat.not_lt_zero _)
 | x :: l, i + 1, j + 1, a, b, hl, h, h1, h2 => asc_nth (List.pairwise_cons.1 hl).2 (Nat.lt_of_succ_lt_succ h) h1 h2
def akC (D : Den) (C : List Ev) (k : Nat) : Nat := kyT D (atT C k)
theorem ak_nth {C : List Ev} {s k : Nat} (h : KV D C s) (hk : k < C.length) : nth (kvO D C s) k = some (akC D C k) ∧ VTi (atT C k) := by
 obtain ⟨x, hx⟩ := nth_some hk
 obtain ⟨h1, h2⟩ := kv_at h
 have e : atT C k = x.at_ := by unfold atT; rw [hx]; rfl
 unfold akC
 rw [e]
 have hm := nth_map Ev.at_ hx
 refine ⟨?_, h2 _ (nth_mem hm)⟩
 rw [← h1]
 exact nth_map (kyT D) hm
theorem ak_lt {C : List Ev} {s i j : Nat} (h : KV D C s) (hij : i < j) (hj : j < C.length) : akC D C i < akC D C j :=
 asc_nth (kvO_asc h) hij (ak_nth h (by omega)).1 (ak_nth h hj).1
theorem adv_ok {C : List Ev} (h : KV D C 0) (ht : VTi t) : ∀ (f k : Nat), C.length - k ≤ f → k < C.length → akC D C k ≤ kyT D t → adv f C t k < C.length ∧ akC D C (adv f C t k) ≤ kyT D t ∧ (adv f C t k + 1 < C.length → kyT D t < akC D C (adv f C t k + 1))
 | 0, k, hf, hk, _ => by omega
 | f + 1, k, hf, hk, ha => by
  rw [adv]
  cases hb : advB C t k with
  | true =>
   have hl := advB_lt hb
   refine adv_ok h ht f (k + 1) (by omega) hl ?_
   unfold advB at hb
   rw [Bool.and_eq_true] at hb
   have := hb.2
   rw [ky_le (D := D) (ak_nth h hl).2 ht] at this
   exact of_decide_eq_true this
  | false =>
   refine ⟨hk, ha, fun hl => ?_⟩
   have hl : k + 1 < C.length := hl
   unfold advB at hb
   rw [decide_eq_true (show (k : Int) + 1 < (C.length : Int) by have : k + 1 < C.length := hl; omega), Bool.true_and, ky_le (D := D) (ak_nth h hl).2 ht] at hb
   have := of_decide_eq_false hb
   show kyT D t < akC D C (k + 1)
   unfold akC
   omega
theorem on_ok (ht : VTi t) : ∀ {C : List Ev} {s i : Nat}, KV D C s → s ≤ kyT D t → (kyT D t < kvE D C s → ∃ p, onG C t i = ((i + p : Nat) : Int) ∧ p < C.length ∧ akC D C p ≤ kyT D t ∧ (p + 1 < C.length → kyT D t < akC D C (p + 1))) ∧ (kvE D C s ≤ kyT D t → onG C t i = -1)
 | [], s, i, _, hs => ⟨fun h => by have : kyT D t < s := h; omega, fun _ => rfl⟩
 | x :: r, s, i, ⟨⟨h1, h2, h3, h4, h5⟩, hr⟩, hs => by
  have c1 : (!decide ((cmpE t x.at_).1 < 0)) = true := by rw [ky_lt (D := D) ht h1, h2, decide_eq_false (by omega)]; rfl
  have c2 : decide ((cmpE t (addE x.at_ x.dur).1).1 < 0) = decide (kyT D t < s + kyT D x.dur) := by rw [ky_lt (D := D) ht h4, h5]
  by_cases hlt : kyT D t < s + kyT D x.dur
  ·have e : onG (x :: r) t i = (i : Int) := by rw [onG, c1, c2, decide_eq_true hlt]; rfl
   have h0 : akC D (x :: r) 0 = s := h2
   refine ⟨fun _ => ⟨0, e, by simp, by rw [h0]; exact hs, fun hl => ?_⟩, fun h => ?_⟩
   ·cases r with
    | nil => simp at hl
    | cons y q =>
     have : akC D (x :: y :: q) (0 + 1) = s + kyT D x.dur := hr.1.2.1
     rw [this]; exact hlt
   ·have := kvE_le hr
    have h : kvE D r (s + kyT D x.dur) ≤ kyT D t := h
    omega
  ·have e : onG (x :: r) t i = onG r t (i + 1) := by rw [onG, c1, c2, decide_eq_false hlt]; rfl
   obtain ⟨i1, i2⟩ := on_ok ht (i := i + 1) hr (by omega)
   rw [e]
   refine ⟨fun h => ?_, fun h => i2 h⟩
   obtain ⟨p, p1, p2, p3, p4⟩ := i1 h
   refine ⟨p + 1, by rw [p1]; congr 1; omega, by rw [List.length_cons]; omega, p3, fun hl => p4 (by rw [List.length_cons] at hl; omega)⟩
theorem hr_on {C : List Ev} {k : Nat} (he : (evE C).1 = 0) (ht : VTi t) (hk : C = [] ∨ (k < C.length ∧ akC D C k ≤ kyT D t)) : hrE C t (advE C t k) = onE C t ∧ (C = [] ∨ (advE C t k < C.length ∧ akC D C (advE C t k) ≤ kyT D t)) := by
 have hv := (ev_kv (D := D) he).1
 obtain ⟨e1, e2⟩ := kv_end (D := D) he
 have hd : decide ((cmpE (endE C).1 t).1 ≤ 0) = decide (kvE D C 0 ≤ kyT D t) := by rw [ky_le (D := D) e1 ht, e2]
 obtain ⟨o1, o2⟩ := on_ok (D := D) ht (i := 0) hv (Nat.zero_le _)
 unfold hrE
 rw [hd]
 rcases hk with rfl | ⟨hk1, hk2⟩
 ·refine ⟨?_, .inl rfl⟩
  rw [decide_eq_true (show kvE D [] 0 ≤ kyT D t from Nat.zero_le _)]
  rfl
 ·obtain ⟨a1, a2, a3⟩ := adv_ok hv ht (C.length - k) k (Nat.le_refl _) hk1 hk2
  refine ⟨?_, .inr ⟨a1, a2⟩⟩
  by_cases hlt : kyT D t < kvE D C 0
  ·obtain ⟨p, p1, p2, p3, p4⟩ := o1 hlt
   rw [decide_eq_false (by omega)]
   show ((advE C t k : Nat) : Int) = onE C t
   have e : onE C t = ((p : Nat) : Int) := by rw [Nat.zero_add] at p1; exact p1
   rw [e]
   congr 1
   show adv (C.length - k) C t k = p
   rcases Nat.lt_trichotomy (adv (C.length - k) C t k) p with h | h | h
   ·have q1 := a3 (by omega)
    rcases Nat.lt_or_ge (adv (C.length - k) C t k + 1) p with h2 | h2
    ·have := ak_lt hv h2 p2; omega
    ·rw [show adv (C.length - k) C t k + 1 = p by omega] at q1; omega
   ·exact h
   ·have q1 := p4 (by omega)
    rcases Nat.lt_or_ge (p + 1) (adv (C.length - k) C t k) with h2 | h2
    ·have := ak_lt hv h2 a1; omega
    ·rw [show p + 1 = adv (C.length - k) C t k by omega] at q1; omega
  ·rw [decide_eq_true (by omega)]
   exact (o2 (by omega)).symm
def AOk (D : Den) (V : List (List Ev)) (τ : Nat) (A : List Nat) : Prop := A.length = V.length ∧ ∀ j C k, nth V j = some C → nth A j = some k → C = [] ∨ (k < C.length ∧ akC D C k ≤ τ)
theorem evs_on (ht : VTi t) : ∀ {V : List (List Ev)} {A : List Nat}, (∀ v, v ∈ V → (evE v).1 = 0) → AOk D V (kyT D t) A → evs V t A = V.map (fun C => onE C t) ∧ AOk D V (kyT D t) (upd V t A)
 | [], [], _, _ => ⟨rfl, rfl, fun j C k h _ => by cases h⟩
 | [], _ :: _, _, h => by cases h.1
 | _ :: _, [], _, h => by cases h.1
 | C :: V, k :: A, hV, ⟨hl, hA⟩ => by
  obtain ⟨e1, e2⟩ := hr_on (D := D) (hV C (List.mem_cons_self ..)) ht (hA 0 C k rfl rfl)
  obtain ⟨i1, i2⟩ := evs_on ht (V := V) (A := A) (fun v hv => hV v (List.mem_cons_of_mem _ hv)) ⟨by simpa using hl, fun j C k h1 h2 => hA (j + 1) C k h1 h2⟩
  refine ⟨by show hrE C t (advE C t k) :: evs V t A = _; rw [e1, i1]; rfl, by show (upd V t A).length + 1 = V.length + 1; rw [i2.1], fun j C' k' h1 h2 => ?_⟩
  cases j with
  | zero => cases h1; cases h2; exact e2
  | succ j => exact i2.2 j C' k' h1 h2
theorem slG_rsl {V : List (List Ev)} (hV : ∀ v, v ∈ V → (evE v).1 = 0) : ∀ (l : List Ti) (A : List Nat) (τ : Nat), VL l → Asc (kyL D l) → (∀ x, x ∈ kyL D l → τ ≤ x) → AOk D V τ A → slG V l A = rslG V l
 | [], _, _, _, _, _, _ => rfl
 | [_], _, _, _, _, _, _ => rfl
 | t :: u :: r, A, τ, hl, ha, hle, hA => by
  have ht := hl t (List.mem_cons_self ..)
  obtain ⟨h1, h2⟩ := List.pairwise_cons.1 ha
  have hA' : AOk D V (kyT D t) A := ⟨hA.1, fun j C k a b => (hA.2 j C k a b).imp id fun h => ⟨h.1, Nat.le_trans h.2 (hle _ (List.mem_cons_self ..))⟩⟩
  obtain ⟨e1, e2⟩ := evs_on ht hV hA'
  have ih := slG_rsl hV (u :: r) (upd V t A) (kyT D t) (fun x hx => hl x (List.mem_cons_of_mem _ hx)) h2 (fun x hx => Nat.le_of_lt (h1 x hx)) e2
  rw [slG, rslG, ih, e1]
end
theorem ac_all : ∀ {V : List (List Ev)} {i : Nat}, (acG V i).1 = 0 → ∀ v, v ∈ V → (evE v).1 = 0
 | [], _, _, v, hv => (List.not_mem_nil hv).elim
 | w :: r, i, h, v, hv => by
  cases h1 : ((evE w).1 != 0) with
  | true =>
   rw [acG_1 h1] at h
   have h' : (evE w).1 = 0 := h
   rw [h'] at h1; cases h1
  | false =>
   rw [acG_2 h1] at h
   rcases List.mem_cons.1 hv with rfl | hv
   ·simpa using h1
   ·exact ac_all h v hv
theorem rsls_eq (V : List (List Ev)) : rslsE V = slsE V := by
 cases h1 : ((acE V).1 != 0) with
 | true => rw [sls_1 h1]; unfold rslsE; rw [h1]; rfl
 | false =>
  have hV : ∀ v, v ∈ V → (evE v).1 = 0 := by
   have h0 : (acE V).1 = 0 := by simpa using h1
   cases h2 : decide ((V.length : Int) > 8) with
   | true => rw [ac_1 h2] at h0; cases h0
   | false => rw [ac_2 h2] at h0; exact ac_all h0
  obtain ⟨D⟩ := den_ex
  have hn : VL ([] : List Ti) := fun _ h => (List.not_mem_nil h).elim
  obtain ⟨a1, a2, _⟩ := mo_key (D := D) V [] hV hn List.Pairwise.nil
  have e : slE V = rslG V (rmG V []) := by
   rw [rm_mo hV]
   refine slG_rsl (D := D) hV (moE V) _ 0 a1 a2 (fun _ _ => Nat.zero_le _) ⟨List.length_map _, fun j C k h2 h3 => ?_⟩
   obtain ⟨C', h4, rfl⟩ := nth_unmap2 h3
   rw [h2] at h4
   cases h4
   cases C with
   | nil => exact .inl rfl
   | cons x r =>
    refine .inr ⟨by simp, ?_⟩
    have hk := (ev_kv (D := D) (hV _ (nth_mem h2))).1
    have : akC D (x :: r) 0 = 0 := hk.1.2.1
    rw [this]
    exact Nat.le_refl _
  unfold rslsE slsE
  rw [h1, e]
end Go.Proofs.YtgiibikieblicaaGreatDoor
namespace Go.Proofs.YtgiibikieblicaaGreatDoor
open Go.Cm Go
set_option maxRecDepth 100000
variable {S : St}
def wcB (l : List Ti) (t : Ti) (k : Nat) : Bool := decide ((k : Int) < (l.length : Int)) && decide ((cmpE ((nth l k).getD zT) t).1 < 0)
theorem wi_le : ∀ (l : List Ti) (t : Ti), wiK l t ≤ l.length
 | [], _ => Nat.le_refl _
 | x :: r, t => by
  have := wi_le r t
  unfold wiK
  cases decide ((cmpE x t).1 < 0) with
  | true => show wiK r t + 1 ≤ r.length + 1; omega
  | false => exact Nat.zero_le _
theorem wi_go {l : List Ti} {t : Ti} {k : Nat} (h : wcB l t k = true) : wiK (l.drop k) t = wiK (l.drop (k + 1)) t + 1 := by
 unfold wcB at h
 rw [Bool.and_eq_true] at h
 obtain ⟨x, hx⟩ := nth_some (l := l) (i := k) (by have := of_decide_eq_true h.1; omega)
 rw [hx, Option.getD_some] at h
 rw [drop_nth' hx, wiK, h.2]
 rfl
theorem wi_stop {l : List Ti} {t : Ti} {k : Nat} (h : wcB l t k = false) : wiK (l.drop k) t = 0 := by
 unfold wcB at h
 cases hd : decide ((k : Int) < (l.length : Int)) with
 | false => rw [List.drop_eq_nil_of_le (by have := of_decide_eq_false hd; omega)]; rfl
 | true =>
  obtain ⟨x, hx⟩ := nth_some (l := l) (i := k) (by have := of_decide_eq_true hd; omega)
  rw [hd, hx] at h
  have h : decide ((cmpE x t).1 < 0) = false := h
  rw [drop_nth' hx, wiK, h]
  rfl
theorem wi_1 {l : List Ti} {t : Ti} (h : wiB l t = true) : wiE l t = l := by unfold wiE; rw [h]; rfl
theorem wi_2 {l : List Ti} {t : Ti} (h : wiB l t = false) : wiE l t = l.take (wiK l t) ++ [t] ++ l.drop (wiK l t) := by unfold wiE; rw [h]; rfl
theorem wi_len (l : List Ti) (t : Ti) : (wiE l t).length ≤ l.length + 1 := by
 cases h : wiB l t with
 | true => rw [wi_1 h]; omega
 | false =>
  have := wi_le l t
  rw [wi_2 h, List.length_append, List.length_append, List.length_take, List.length_drop]
  show min _ _ + 1 + _ ≤ _
  omega
def befB (a b : Ti) : Bool := decide ((cmpE a b).1 < 0)
noncomputable def cd73 : Code := Tryz.f73.body.getD .skip
theorem spec73 (x : Ev) : CC Tryz.prog KK 73 [x.v] S (fun v S' => Keep S S' ∧ v = (addE x.at_ x.dur).1.v) := by
 refine cc_enter (c := cd73) (n := 14) Tryz.func73 rfl rfl rfl (by kernel_rfl) rfl rfl ?_
 have hl := Hold.start S
 refine zg ?_; refine re_boxL hl rfl rfl rfl rfl rfl rfl ?_; intro B1 S1 hl; refine re_allocL hl rfl rfl rfl rfl rfl (z := [.int .i64 0, .int .i64 0]) (by kernel_rfl) ?_; intro B2 S2 hl; refine zg ?_
 refine zc hl rfl (spec101 x.at_ x.dur) ?_; rintro v S1 hk1 rfl hl
 refine zg ?_; refine re_allocL hl rfl rfl rfl rfl rfl (z := [.int .i64 0, .int .i64 0]) (by kernel_rfl) ?_; intro B3 S3 hl; refine re_storeL hl 0 rfl rfl rfl rfl rfl rfl rfl (by kernel_rfl) rfl ?_; intro S1 hl; refine zg ?_; refine re_storeL hl 1 rfl rfl rfl rfl rfl rfl rfl (by kernel_rfl) rfl ?_; intro S1 hl; refine zg ?_
 refine done_ret (ress_cell rfl (lN (z := 2) (hl.get 1 rfl) rfl) rfl) ⟨hl.keep, rfl⟩
noncomputable def cd76 : Code := Tryz.f76.body.getD .skip
theorem spec76 (a b : Ti) : CC Tryz.prog KK 76 [a.v, b.v] S (fun v S' => Keep S S' ∧ v = .bool (befB a b)) := by
 refine cc_enter (c := cd76) (n := 15) Tryz.func76 rfl rfl rfl (by kernel_rfl) rfl rfl ?_
 have hl := Hold.start S
 refine zg ?_; refine re_boxL hl rfl rfl rfl rfl rfl rfl ?_; intro B2 S2 hl; refine re_boxL hl rfl rfl rfl rfl rfl rfl ?_; intro B3 S3 hl; refine zg ?_
 refine zc hl rfl (spec104 a b) ?_; rintro v S1 hk1 rfl hl
 refine zg ?_
 refine y1 rfl ⟨hl.keep, rfl⟩
end Go.Proofs.YtgiibikieblicaaGreatDoor
namespace Go.Proofs.YtgiibikieblicaaGreatDoor
open Go.Cm Go
set_option maxRecDepth 100000
variable {S : St}
theorem wi_end {S S' : St} {v : Value} {l : List Ti} {t : Ti} {k : Nat} (hK : wiK l t = k) (hb : wiB l t = false) (hg : Grow S S' ⟨v, 50, 2, [] ++ ((l.take k).map Ti.cells).flatten ++ t.cells ++ ((l.drop k).map Ti.cells).flatten, 0 + (l.take k).length + 1 + (l.drop k).length⟩) :
  ∃ av c2, tupV [v] = .slice av (wiE l t).length c2 ∧ Tis S' (.slice av (wiE l t).length c2) (wiE l t) := by
 have e : (⟨v, 50, 2, [] ++ ((l.take k).map Ti.cells).flatten ++ t.cells ++ ((l.drop k).map Ti.cells).flatten, 0 + (l.take k).length + 1 + (l.drop k).length⟩ : Gr) = gOf 50 2 Ti.cells v (wiE l t) := by
  unfold gOf
  rw [wi_2 hb, hK]
  congr 1
  ·simp
  ·simp; omega
 rw [e] at hg
 obtain ⟨a, ha⟩ := Grow.is hg
 have ha : v = .slice a (wiE l t).length (wiE l t).length := ha
 subst ha
 exact ⟨a, _, rfl, Grow.ls (fun _ => rfl) hg⟩
noncomputable def cd72 : Code := Tryz.f72.body.getD .skip
theorem spec72 (a : Option Addr) (cap : Nat) (l : List Ti) (t : Ti) (hF : Fresh S) (hn : l.length ≤ 100000) (hv : Tis S (.slice a l.length cap) l) : CC Tryz.prog KK 72 [.slice a l.length cap, t.v] S (fun v S' => Keep S S' ∧ ∃ av c2, v = .slice av (wiE l t).length c2 ∧ Tis S' (.slice av (wiE l t).length c2) (wiE l t)) := by
 refine cc_enter (c := cd72) (n := 47) Tryz.func72 rfl rfl rfl (by kernel_rfl) rfl rfl ?_
 have hl := Hold.start S
 refine zg ?_; refine re_boxL hl rfl rfl rfl rfl rfl rfl ?_; intro B3 S3 hl; refine zA ?_; refine zS ?_; refine xp_seq rfl ?_; refine xp_block rfl ?_
 -- LOOP
 refine xe_sub (L' := [(5, .int .i64 0), (4, .slice none 0 0), (3, ptrTo B3 0), (0, .slice a l.length cap)]) ⟨rfl, rfl, rfl, rfl, trivial⟩ ?_
 refine xp_loop rfl (fun m Le S' => ∃ k : Nat, k ≤ l.length ∧ m = l.length - k ∧ k + wiK (l.drop k) t = wiK l t ∧ SubE [(5, .int .i64 k), (4, .slice none 0 0), (3, ptrTo B3 0), (0, .slice a l.length cap)] Le ∧ HoldG S [S] S' [(B3, .cells t.cells 50 false true [])] []) ?_ (m := l.length) ⟨0, by omega, rfl, by rw [Nat.zero_add]; rfl, ⟨rfl, rfl, rfl, rfl, trivial⟩, hl⟩
 clear hl; rintro m Le S' ⟨k, hk, rfl, hin, hsub, hl⟩; refine xe_sub hsub ?_
 refine xp_seq rfl ?_; refine xp_seq rfl (xe_toE hl 18 (.bool (wcB l t k)) ?_ rfl ?_)
 ·
  refine xp_draw (idx := [0, 1, 2, 3, 4, 5, 6, 7, 8, 9, 10, 11]) rfl (by kernel_rfl) (by kernel_rfl) ?_; refine zg ?_; refine rp_bool (d := 11) rfl (fun h11 => ?_) (fun h11 => ?_)
  ·
   refine zg ?_
   have hlt : k < l.length := by have := of_decide_eq_true h11; omega
   obtain ⟨x, hx⟩ := nth_some hlt
   obtain ⟨b1, o1, cs1, ha, _, hrow, htk⟩ := hv.elem hx
   refine zg ?_
   refine zp hl rfl (spec76 x t) ?_; rintro v S1 hk1 rfl hl; refine ⟨zt, ?_⟩
   refine zg ?_
   exact ⟨rfl, bl (by unfold wcB; rw [h11, hx]; rfl), sB, hl⟩
  ·
   refine zg ?_
   exact ⟨rfl, bl (by unfold wcB; rw [h11]; rfl), sB, hl⟩
 intro S1 hl
 refine zg ?_
 constructor <;> intro h18
 ·
  have hlt : k < l.length := by have := h18; unfold wcB at this; rw [Bool.and_eq_true] at this; have := of_decide_eq_true this.1; omega
  refine zg ?_
  exact ⟨l.length - (k + 1), by omega, k + 1, by omega, rfl, by rw [← hin, wi_go h18]; omega, ⟨rfl, rfl, rfl, rfl, trivial⟩, hl⟩
 ·
  have hK : wiK l t = k := by rw [← hin, wi_stop h18]; rfl
  refine xp_exit rfl ?_; refine xp_seq rfl ?_; refine xp_seq rfl (xe_toE hl 32 (.bool (wiB l t)) ?_ rfl ?_)
  ·
   refine xp_draw (idx := [0, 1, 2, 3, 4, 5, 6, 7, 8, 9, 10, 11]) rfl (by kernel_rfl) (by kernel_rfl) ?_; refine zg ?_; refine rp_bool (d := 25) rfl (fun h25 => ?_) (fun h25 => ?_)
   ·
    refine zg ?_
    have hlt : k < l.length := by have := of_decide_eq_true h25; omega
    obtain ⟨x, hx⟩ := nth_some hlt
    obtain ⟨b1, o1, cs1, ha, _, hrow, htk⟩ := hv.elem hx
    refine zg ?_
    exact ⟨rfl, bl (by unfold wiB; rw [hK, h25, hx]; rfl), sB, hl⟩
   ·
    refine zg ?_
    exact ⟨rfl, bl (by unfold wiB; rw [hK, h25]; rfl), sB, hl⟩
  intro S1 hl
  refine zg ?_
  constructor <;> intro h32
  ·
   refine zg ?_
   exact (z1 rfl ⟨hl.keep, ⟨a, cap, by rw [wi_1 h32] <;> rfl, by rw [wi_1 h32]; exact hv.move (hl.since 0 rfl)⟩⟩)
  ·
   refine zg ?_; refine xp_draw (idx := [0, 1, 2, 3, 5, 6, 4, 7, 8]) rfl (by kernel_rfl) (by kernel_rfl) ?_; refine rp_buildSliceG hF hl (c := []) 2 rfl rfl rfl rfl rfl Tryz.underlying116 rfl (by kernel_rfl) rfl ?_; intro B34 v34 S1 hl
   obtain ⟨av34, rfl⟩ : ∃ x, v34 = .slice x 0 0 := Grow.is (hl.gr _ (List.mem_cons_self ..))
   obtain ⟨a2, c2, hs2, h2⟩ := hv.upto (t := 116) (P := Tryz.prog) (k := k) (hl.since 0 rfl) Tryz.underlying116 (by kernel_rfl) hk
   refine zg ?_; refine pk rfl (rd_slice rfl rfl rfl rfl rfl hs2) ?_; refine zg ?_; refine rp_buildSliceR hF hl rfl rfl rfl rfl rfl Tryz.underlying116 rfl (c := t.cells) (by kernel_rfl) ?_; intro B40 Sr hg40 hr40 hl
   have hl := hl.mark
   have hgv := hl.gr _ (List.mem_cons_self ..)
   refine rp_appendX hl 0 rfl rfl (by simp [setG]) rfl rfl rfl rfl rfl rfl rfl Tryz.underlying116 Tryz.underlying116 rfl rfl (by kernel_rfl) (h2.move (hl.since 1 rfl)).cells (flat_len (f := Ti.cells) (z := 2) (fun _ => rfl) _) (flatCells (f := Ti.cells) (fun _ => rfl) _) (by kernel_rfl) (by show 0 + (l.take k).length ≤ maxNeed; rw [List.length_take]; unfold maxNeed; omega) ?_; intro v38 S1 hl hx; obtain ⟨av38, rfl⟩ : ∃ x, v38 = .slice x (0 + (l.take k).length) (0 + (l.take k).length) := Grow.is (hl.gr _ (List.mem_cons_self ..)); refine ⟨by repeat (first| exact trivial| refine stays_left ?_| (refine ⟨by first| exact sN rfl (hx _ _ hr40.1 (gb_ne hgv hg40 nofun) hg40) (by simp [Ti.cells])| exact sN rfl (hl.get 0 rfl)| exact stays_load rfl rfl (lN (z := 2) (hl.get 0 rfl) rfl) sG rfl| exact stays_load rfl rfl (l1 (hl.get 0 rfl) rfl) sQ rfl| exact sZ, ?_⟩)), ?_⟩
   refine rp_appendG hl 0 rfl rfl (by simp [setG]) rfl rfl rfl rfl rfl rfl rfl Tryz.underlying116 Tryz.underlying116 rfl rfl (by kernel_rfl) (src_row (new := t.cells) (row_move (hl.since 0 rfl) hr40) rfl) rfl rfl (by kernel_rfl) (by show 0 + (l.take k).length + 1 ≤ maxNeed; rw [List.length_take]; unfold maxNeed; omega) ?_; intro v41 S1 hl; obtain ⟨av41, rfl⟩ : ∃ x, v41 = .slice x (0 + (l.take k).length + 1) (0 + (l.take k).length + 1) := Grow.is (hl.gr _ (List.mem_cons_self ..)); obtain ⟨a3, c3, hs3, h3⟩ := hv.rest (t := 116) (P := Tryz.prog) (k := k) (hl.since 1 rfl) Tryz.underlying116 (by kernel_rfl) hk; refine ⟨stays_all (by kernel_rfl), ?_⟩
   refine zg ?_; refine rr rfl (rd_slice rfl rfl rfl rfl rfl hs3) ?_; refine re_appendG hl 0 rfl rfl (by simp [setG]) rfl rfl rfl rfl rfl rfl rfl Tryz.underlying116 Tryz.underlying116 rfl rfl (by kernel_rfl) (h3.move (hl.since 1 rfl)).cells (flat_len (f := Ti.cells) (z := 2) (fun _ => rfl) _) (flatCells (f := Ti.cells) (fun _ => rfl) _) (by kernel_rfl) (by show 0 + (l.take k).length + 1 + (l.drop k).length ≤ maxNeed; rw [List.length_take, List.length_drop]; unfold maxNeed; omega) ?_; intro v46 S1 hl; refine zg ?_
   refine y1 rfl ⟨hl.keep, wi_end hK h32 (hl.gr _ (List.mem_cons_self ..))⟩
end Go.Proofs.YtgiibikieblicaaGreatDoor
namespace Go.Proofs.YtgiibikieblicaaGreatDoor
open Go.Cm Go
set_option maxRecDepth 100000
variable {S : St}
theorem HoldG.unmark {S0 S T : St} {Ts : List St} {l : List (Nat × Blk)} {gs : List Gr} (h : HoldG S0 (T :: Ts) S l gs) : HoldG S0 Ts S l gs :=
 HoldG.shrink h (List.Sublist.refl _) (fun _ h => h) (fun _ h => List.mem_cons_of_mem _ h)
def onB (x : Ev) (t : Ti) : Bool := (!befB t x.at_) && befB t (addE x.at_ x.dur).1
theorem on_1 {x : Ev} {r : List Ev} {t : Ti} {i : Nat} (h : onB x t = true) : onG (x :: r) t i = (i : Int) := by
 unfold onB befB at h
 rw [onG, h]; rfl
theorem on_2 {x : Ev} {r : List Ev} {t : Ti} {i : Nat} (h : onB x t = false) : onG (x :: r) t i = onG r t (i + 1) := by
 unfold onB befB at h
 rw [onG, h]; rfl
noncomputable def cd49 : Code := Tryz.f49.body.getD .skip
theorem spec49 (a : Option Addr) (cap : Nat) (V : List (List Ev)) (hv : Vs S (.slice a V.length cap) V) : CC Tryz.prog KK 49 [.slice a V.length cap] S (fun v S' => Keep S S' ∧ v = tupV [.int .i64 (acE V).1, .int .i64 (acE V).2]) := by
 refine cc_enter (c := cd49) (n := 28) Tryz.func49 rfl rfl rfl (by kernel_rfl) rfl rfl ?_
 have hl := Hold.start S
 refine zg ?_
 constructor <;> intro h9
 ·
  refine zg ?_
  exact (z2 rfl rfl ⟨hl.keep, by rw [ac_1 h9] <;> rfl⟩)
 ·
  refine xp_skip rfl ?_; refine xp_seq rfl ?_; refine zS ?_; refine xp_block rfl ?_
  -- LOOP
  have hn : (V.length : Int) ≤ 8 := by have := of_decide_eq_false h9; omega
  refine xe_sub (L' := [(4, .int .i64 0), (3, .int .i64 0), (2, .int .i64 0), (0, .slice a V.length cap)]) ⟨rfl, rfl, rfl, rfl, trivial⟩ ?_
  refine xp_loop rfl (fun m Le S' => ∃ i : Nat, i ≤ V.length ∧ m = V.length - i ∧ acG (V.drop i) i = acG V 0 ∧ SubE [(4, .int .i64 i), (3, .int .i64 0), (2, .int .i64 0), (0, .slice a V.length cap)] Le ∧ HoldG S [S] S' [] []) ?_ (m := V.length) ⟨0, by omega, rfl, rfl, ⟨rfl, rfl, rfl, rfl, trivial⟩, hl⟩
  clear hl; rintro m Le S' ⟨i, hi, rfl, hin, hsub, hl⟩; refine xe_sub hsub ?_
  refine zg ?_
  constructor <;> intro h13
  ·
   have hlt : i < V.length := by have := of_decide_eq_true h13; omega
   obtain ⟨x, hx⟩ := nth_some hlt
   obtain ⟨b1, o1, cs1, aw, cw, ha, _, hrow, htk, hvx⟩ := hv.elem hx
   rw [drop_nth' hx] at hin
   refine zg ?_
   refine zc hl rfl (spec71 aw cw x (hvx.move (hl.since 0 rfl))) ?_; rintro v S1 hk1 rfl hl
   refine zg ?_
   constructor <;> intro h25
   ·
    refine zg ?_
    refine blk_ret (thn_ret (round_ret (blk_ret ((z2 rfl rfl ⟨hl.keep, by rw [ac_2 h9, ← hin, acG_1 h25] <;> rfl⟩)))))
   ·
    refine zg ?_
    exact ⟨V.length - (i + 1), by omega, i + 1, by omega, rfl, by rw [← hin, acG_2 h25], ⟨rfl, rfl, rfl, rfl, trivial⟩, hl⟩
  ·
   refine zg ?_
   refine y2 rfl rfl ⟨hl.keep, by rw [ac_2 h9, ← hin, List.drop_eq_nil_of_le (by have := of_decide_eq_false h13; omega)] <;> rfl⟩
noncomputable def cd52 : Code := Tryz.f52.body.getD .skip
theorem spec52 (a : Option Addr) (cap : Nat) (C : List Ev) (t : Ti) (hn : C.length ≤ 2000) (hv : Evs S (.slice a C.length cap) C) : CC Tryz.prog KK 52 [.slice a C.length cap, t.v] S (fun v S' => Keep S S' ∧ v = .int .i64 (onE C t)) := by
 refine cc_enter (c := cd52) (n := 30) Tryz.func52 rfl rfl rfl (by kernel_rfl) rfl rfl ?_
 have hl := Hold.start S
 refine zg ?_; refine re_boxL hl rfl rfl rfl rfl rfl rfl ?_; intro B3 S3 hl; refine zA ?_; refine xp_seq rfl ?_; refine zS ?_; refine xp_block rfl ?_
 -- LOOP
 refine xe_sub (L' := [(5, .int .i64 0), (4, .int .i64 0), (3, ptrTo B3 0), (0, .slice a C.length cap)]) ⟨rfl, rfl, rfl, rfl, trivial⟩ ?_
 refine xp_loop rfl (fun m Le S' => ∃ i : Nat, i ≤ C.length ∧ m = C.length - i ∧ onG (C.drop i) t i = onG C t 0 ∧ SubE [(5, .int .i64 i), (4, .int .i64 0), (3, ptrTo B3 0), (0, .slice a C.length cap)] Le ∧ HoldG S [S] S' [(B3, .cells t.cells 50 false true [])] []) ?_ (m := C.length) ⟨0, by omega, rfl, rfl, ⟨rfl, rfl, rfl, rfl, trivial⟩, hl⟩
 clear hl; rintro m Le S' ⟨i, hi, rfl, hin, hsub, hl⟩; refine xe_sub hsub ?_
 refine zg ?_
 constructor <;> intro h9
 ·
  have hlt : i < C.length := by have := of_decide_eq_true h9; omega
  obtain ⟨x, hx⟩ := nth_some hlt
  obtain ⟨b1, o1, cs1, ha, _, hrow, htk⟩ := hv.elem hx
  rw [drop_nth' hx] at hin
  refine xp_skip rfl ?_; refine xp_seq rfl ?_; refine xp_block rfl ?_; refine xp_seq rfl (xe_toE hl 28 (.bool (onB x t)) ?_ rfl ?_)
  ·
   refine xp_draw (idx := [0, 1, 2, 3, 4, 5, 6, 7, 8, 9, 10, 11, 12, 13, 14, 15, 16]) rfl (by kernel_rfl) (by kernel_rfl) ?_; refine zg ?_
   refine zp hl rfl (spec76 t x.at_) ?_; rintro v S1 hk1 rfl hl; refine ⟨zt, ?_⟩
   refine pr rfl (rd_un rfl rfl rfl) ?_; refine zg ?_; refine rp_bool (d := 20) rfl (fun h20 => ?_) (fun h20 => ?_)
   ·
    refine zg ?_
    refine zp hl rfl (spec73 x) ?_; rintro v S1 hk1 rfl hl; refine ⟨zt, ?_⟩
    refine zp hl rfl (spec76 t (addE x.at_ x.dur).1) ?_; rintro v S1 hk1 rfl hl; refine ⟨zt, ?_⟩
    refine zg ?_
    exact ⟨rfl, bl (by unfold onB; rw [h20]; rfl), sB, hl⟩
   ·
    refine zg ?_
    exact ⟨rfl, bl (by unfold onB; rw [h20]; rfl), sB, hl⟩
  intro S1 hl
  refine zg ?_
  constructor <;> intro h28
  ·
   refine zg ?_
   refine blk_ret (thn_ret (round_ret (blk_ret ((z1 rfl ⟨hl.keep, by unfold onE; rw [← hin, on_1 h28] <;> rfl⟩)))))
  ·
   refine zg ?_
   exact ⟨C.length - (i + 1), by omega, i + 1, by omega, rfl, by rw [← hin, on_2 h28], ⟨rfl, rfl, rfl, rfl, trivial⟩, hl⟩
 ·
  refine zg ?_
  refine y1 rfl ⟨hl.keep, by unfold onE; rw [← hin, List.drop_eq_nil_of_le (by have := of_decide_eq_false h9; omega)] <;> rfl⟩
end Go.Proofs.YtgiibikieblicaaGreatDoor
namespace Go.Proofs.YtgiibikieblicaaGreatDoor
open Go.Cm Go
set_option maxRecDepth 100000
variable {S : St}
theorem rm_end {S' : St} {V : List (List Ev)} {O : List Ti} {ao : Option Addr} {co : Nat} (he : rmG V [] = O) (hT : Tis S' (.slice ao O.length co) O) : ∃ av c2, tupV [.slice ao O.length co] = .slice av (rmG V []).length c2 ∧ Tis S' (.slice av (rmG V []).length c2) (rmG V []) := by
 rw [he]
 exact ⟨ao, co, rfl, hT⟩
noncomputable def cd50 : Code := Tryz.f50.body.getD .skip
theorem spec50 (a : Option Addr) (cap : Nat) (V : List (List Ev)) (hF : Fresh S) (hn : V.length ≤ 8) (hV : ∀ x, x ∈ V → x.length ≤ 2000) (hv : Vs S (.slice a V.length cap) V) : CC Tryz.prog KK 50 [.slice a V.length cap] S (fun v S' => Keep S S' ∧ ∃ av c2, v = .slice av (rmG V []).length c2 ∧ Tis S' (.slice av (rmG V []).length c2) (rmG V [])) := by
 refine cc_enter (c := cd50) (n := 42) Tryz.func50 rfl rfl rfl (by kernel_rfl) rfl rfl ?_
 have hl := Hold.start S
 iterate 2 refine zS ?_
 refine xp_seq rfl ?_; refine zS ?_; refine xp_block rfl ?_
 -- LOOP
 refine xe_sub (L' := [(4, .int .i64 0), (3, .slice none ([] : List Ti).length 0), (2, .slice none 0 0), (0, .slice a V.length cap)]) ⟨rfl, rfl, rfl, rfl, trivial⟩ ?_
 refine xp_loop rfl (fun m Le S' => ∃ (i : Nat) (O : List Ti) (ao : Option Addr) (co : Nat), i ≤ V.length ∧ m = V.length - i ∧ O.length ≤ 4000 * i ∧ rmG (V.drop i) O = rmG V [] ∧ SubE [(4, .int .i64 i), (3, .slice ao O.length co), (2, .slice none 0 0), (0, .slice a V.length cap)] Le ∧ Tis S' (.slice ao O.length co) O ∧ HoldG S [S] S' [] []) ?_ (m := V.length) ⟨0, [], none, 0, by omega, rfl, Nat.le_refl _, rfl, ⟨rfl, rfl, rfl, rfl, trivial⟩, LsOf.nil, hl⟩
 clear hl; rintro m Le S' ⟨i, O, ao, co, hi, rfl, hO, hin, hsub, hT, hl⟩; refine xe_sub hsub ?_
 refine zg ?_
 constructor <;> intro h9
 ·
  have hlt : i < V.length := by have := of_decide_eq_true h9; omega
  obtain ⟨x, hx⟩ := nth_some hlt
  obtain ⟨b1, o1, cs1, aw, cw, ha, _, hrow, htk, hvx⟩ := hv.elem hx
  rw [drop_nth' hx] at hin
  have hxl := hV x (nth_mem hx)
  refine xp_skip rfl ?_; refine xp_seq rfl ?_; refine xp_block rfl ?_; refine zS ?_; refine xp_block rfl ?_
  -- LOOP
  refine xe_sub (L' := [(5, .int .i64 0), (4, .int .i64 i), (3, .slice ao O.length co), (2, .slice none 0 0), (0, .slice a V.length cap)]) ⟨rfl, rfl, rfl, rfl, rfl, trivial⟩ ?_
  refine xp_loop rfl (fun m Le S' => ∃ (k : Nat) (O2 : List Ti) (a2 : Option Addr) (c2 : Nat), k ≤ x.length ∧ m = x.length - k ∧ O2.length ≤ 4000 * i + 2 * k ∧ rmV (x.drop k) O2 = rmV x O ∧ SubE [(5, .int .i64 k), (4, .int .i64 i), (3, .slice a2 O2.length c2), (2, .slice none 0 0), (0, .slice a V.length cap)] Le ∧ Tis S' (.slice a2 O2.length c2) O2 ∧ HoldG S [S] S' [] []) ?_ (m := x.length) ⟨0, O, ao, co, by omega, rfl, by omega, rfl, ⟨rfl, rfl, rfl, rfl, rfl, trivial⟩, hT, hl⟩
  clear hl; rintro m Le S' ⟨k, O2, a2, c2, hk, rfl, hO2, hin2, hsub2, hT2, hl⟩; refine xe_sub hsub2 ?_
  refine zg ?_
  constructor <;> intro h18
  ·
   have hlt2 : k < x.length := by have := of_decide_eq_true h18; omega
   obtain ⟨y, hy⟩ := nth_some hlt2
   obtain ⟨b2, o2, cs2, ha2, _, hrow2, htk2⟩ := hvx.elem hy
   rw [drop_nth' hy] at hin2
   refine zg ?_
   refine zc hl rfl (spec72 a2 c2 O2 y.at_ (hl.keep.3 hF) (by omega) hT2) ?_; rintro v S1 hk1 ⟨a3, c3, rfl, hT3⟩ hl; have hl := hl.mark; have hO3 := wi_len O2 y.at_
   refine zg ?_
   refine zc hl rfl (spec73 y) ?_; rintro v S1 hk1 rfl hl
   refine zc hl rfl (spec72 a3 c3 (wiE O2 y.at_) (addE y.at_ y.dur).1 (hl.keep.3 hF) (by omega) (hT3.move (hl.since 0 rfl))) ?_; rintro v S1 hk1 ⟨a4, c4, rfl, hT4⟩ hl; have hl := HoldG.unmark hl; have hO4 := wi_len (wiE O2 y.at_) (addE y.at_ y.dur).1
   refine zg ?_
   exact ⟨x.length - (k + 1), by omega, k + 1, wiE (wiE O2 y.at_) (addE y.at_ y.dur).1, a4, c4, by omega, rfl, by omega, hin2, ⟨rfl, rfl, rfl, rfl, rfl, trivial⟩, hT4, hl⟩
  ·
   have he : rmV x O = O2 := by rw [← hin2, List.drop_eq_nil_of_le (by have := of_decide_eq_false h18; omega)]; rfl
   refine zg ?_
   exact ⟨V.length - (i + 1), by omega, i + 1, O2, a2, c2, by omega, rfl, by omega, by rw [← hin, ← he]; rfl, ⟨rfl, rfl, rfl, rfl, trivial⟩, hT2, hl⟩
 ·
  refine zg ?_
  refine y1 rfl ⟨hl.keep, (rm_end (by rw [← hin, List.drop_eq_nil_of_le (by have := of_decide_eq_false h9; omega)]; rfl) hT)⟩
end Go.Proofs.YtgiibikieblicaaGreatDoor
namespace Go.Proofs.YtgiibikieblicaaGreatDoor
open Go.Cm Go
set_option maxRecDepth 100000
variable {S : St}
theorem rmV_len : ∀ (C : List Ev) (O : List Ti), (rmV C O).length ≤ O.length + 2 * C.length
 | [], O => by show O.length ≤ _; omega
 | x :: r, O => by
  have h1 := rmV_len r (wiE (wiE O x.at_) (addE x.at_ x.dur).1)
  have h2 := wi_len (wiE O x.at_) (addE x.at_ x.dur).1
  have h3 := wi_len O x.at_
  show (rmV r _).length ≤ _
  rw [List.length_cons]
  omega
theorem rmG_len : ∀ (V : List (List Ev)) (O : List Ti), (∀ x, x ∈ V → x.length ≤ 2000) → (rmG V O).length ≤ O.length + 4000 * V.length
 | [], O, _ => by show O.length ≤ _; omega
 | v :: r, O, h => by
  have h1 := rmG_len r (rmV v O) (fun x hx => h x (List.mem_cons_of_mem _ hx))
  have h2 := rmV_len v O
  have h3 := h v (List.mem_cons_self ..)
  show (rmG r _).length ≤ _
  rw [List.length_cons]
  omega
theorem rsl_1 {V : List (List Ev)} {t u : Ti} {r : List Ti} (h : ((subE u t).2 != 0) = true) : rslG V (t :: u :: r) = ([], (subE u t).2) := by rw [rslG, h]; rfl
theorem rsl_2 {V : List (List Ev)} {t u : Ti} {r : List Ti} (h : ((subE u t).2 != 0) = false) : rslG V (t :: u :: r) = (⟨t, (subE u t).1, V.map fun C => onE C t⟩ :: (rslG V (u :: r)).1, (rslG V (u :: r)).2) := by rw [rslG, h]; rfl
theorem rsl_end {V : List (List Ev)} {l : List Ti} (h : l.length ≤ 1) : rslG V l = ([], 0) := by
 match l, h with
 | [], _ => rfl
 | [_], _ => rfl
 | _ :: _ :: _, h => simp at h
theorem rs_1 {V : List (List Ev)} (h : ((acE V).1 != 0) = true) : slsE V = ([], (acE V).1) := by rw [← rsls_eq]; unfold rslsE; rw [h]; rfl
theorem rs_2 {V : List (List Ev)} {e : Int} (h : ((acE V).1 != 0) = false) (he : (rslG V (rmG V [])).2 = e) (h2 : (e != 0) = true) : slsE V = ([], e) := by rw [← rsls_eq]; unfold rslsE; rw [h, he, h2]; rfl
theorem rs_3 {V : List (List Ev)} {L : List Sl} (h : ((acE V).1 != 0) = false) (he : rslG V (rmG V []) = (L, 0)) : slsE V = (L, 0) := by rw [← rsls_eq]; unfold rslsE; rw [h, he]; rfl
theorem rsl_back {S S' : St} {V : List (List Ev)} {D : List (Sl × Value)} {oa : Option Addr} (h : ((acE V).1 != 0) = false) (he : rslG V (rmG V []) = (D.map (·.1), 0)) (hg : Grow S S' (gOf 110 5 slC (.slice oa D.length D.length) D)) (hD : ∀ x, x ∈ D → Ints S' x.2 x.1.ev) : ∃ w, (tupV [.slice oa D.length D.length, .int .i64 0] : Value) = tupV [w, .int .i64 (slsE V).2] ∧ Sls S' w (slsE V).1 := by
 rw [rs_3 h he]
 exact ⟨_, rfl, D, Grow.ls (fun _ => rfl) hg, rfl, hD⟩
theorem rsl_fin {V : List (List Ev)} {D : List (Sl × Value)} {m l : List Ti} (h1 : (rslG V m).1 = D.map (·.1) ++ (rslG V l).1) (h2 : (rslG V m).2 = (rslG V l).2) (hl : l.length ≤ 1) : rslG V m = (D.map (·.1), 0) := by
 rw [rsl_end hl] at h1 h2
 exact Prod.ext (h1.trans (List.append_nil _)) h2
theorem gI_push {a : Option Addr} {C : List Int} {x : Int} : gOf 3 1 (fun k => [Value.int .i64 k]) (.slice a (C ++ [x]).length (C ++ [x]).length) (C ++ [x]) = ⟨.slice a (C.length + 1) (C.length + 1), 3, 1, (C.map (fun k => [Value.int .i64 k])).flatten ++ [Value.int .i64 x], C.length + 1⟩ := gOf_push
noncomputable def cd36 : Code := Tryz.f36.body.getD .skip
theorem spec36 (a : Option Addr) (cap : Nat) (V : List (List Ev)) (hF : Fresh S) (hv : Vs S (.slice a V.length cap) V) : CC Tryz.prog KK 36 [.slice a V.length cap] S (fun v S' => Keep S S' ∧ ∃ w, v = tupV [w, .int .i64 (slsE V).2] ∧ Sls S' w (slsE V).1) := by
 refine cc_enter (c := cd36) (n := 77) Tryz.func36 rfl rfl rfl (by kernel_rfl) rfl rfl ?_
 have hl := Hold.start S
 refine zg ?_
 refine zc hl rfl (spec49 a cap V (hv.move (hl.since 0 rfl))) ?_; rintro v S1 hk1 rfl hl
 refine zg ?_
 constructor <;> intro h19
 ·
  refine zg ?_
  exact (z2 rfl rfl ⟨hl.keep, ⟨.slice none 0 0, by rw [rs_1 h19] <;> rfl, by rw [rs_1 h19]; exact Sls.nil⟩⟩)
 ·
  obtain ⟨hn, hV⟩ := ac_ok h19
  have hML := rmG_len V [] hV
  have hML : (rmG V []).length ≤ 4000 * V.length := by simpa using hML
  refine zg ?_
  refine zc hl rfl (spec50 a cap V (hl.keep.3 hF) hn hV (hv.move (hl.since 0 rfl))) ?_; rintro v T1 hk1 ⟨am, cm, rfl, hM⟩ hl; have hl := hl.mark
  refine zA ?_; refine zS ?_; refine xp_seq rfl ?_; refine zS ?_; refine xp_block rfl ?_
  -- LOOP
  have hl := hl.addG (g := gOf 110 5 slC (.slice none ([] : List (Sl × Value)).length ([] : List (Sl × Value)).length) ([] : List (Sl × Value))) (.inl ⟨rfl, rfl, rfl⟩)
  refine xe_sub (L' := [(8, .int .i64 0), (7, .slice none ([] : List (Sl × Value)).length ([] : List (Sl × Value)).length), (6, .slice am (rmG V []).length cm), (3, .int .i64 0), (2, .slice none 0 0), (0, .slice a V.length cap)]) ⟨rfl, rfl, rfl, rfl, rfl, rfl, trivial⟩ ?_
  refine xp_loop rfl (fun m Le S' => ∃ (n : Nat) (D : List (Sl × Value)) (oa : Option Addr), n ≤ (rmG V []).length ∧ m = (rmG V []).length - n ∧ D.length ≤ n ∧ (rslG V (rmG V [])).1 = D.map (·.1) ++ (rslG V ((rmG V []).drop n)).1 ∧ (rslG V (rmG V [])).2 = (rslG V ((rmG V []).drop n)).2 ∧ (∀ x, x ∈ D → Ints S' x.2 x.1.ev) ∧ SubE [(8, .int .i64 n), (7, .slice oa D.length D.length), (6, .slice am (rmG V []).length cm), (3, .int .i64 0), (2, .slice none 0 0), (0, .slice a V.length cap)] Le ∧ HoldG S [T1, S] S' [] [gOf 110 5 slC (.slice oa D.length D.length) D]) ?_ (m := (rmG V []).length) ⟨0, [], none, by omega, rfl, Nat.le_refl _, rfl, rfl, fun x hx => (List.not_mem_nil hx).elim, ⟨rfl, rfl, rfl, rfl, rfl, rfl, trivial⟩, hl⟩
  clear hl; rintro m Le T0 ⟨n, D, oa, hnM, rfl, hDn, hp1, hp2, hD, hsub, hl⟩; refine xe_sub hsub ?_
  refine zg ?_
  constructor <;> intro h27
  ·
   have hlt : n + 1 < (rmG V []).length := by have := of_decide_eq_true h27; omega
   obtain ⟨t0, ht⟩ := nth_some (l := (rmG V [])) (i := n) (by omega)
   obtain ⟨u, hu⟩ := nth_some hlt
   obtain ⟨b1, o1, cs1, ha1, _, hrow1, htk1⟩ := hM.elem ht
   obtain ⟨b2, o2, cs2, ha2, _, hrow2, htk2⟩ := hM.elem hu
   rw [show n + 1 = ((n : Int) + 1).toNat by omega] at htk2
   rw [drop_nth' ht, drop_nth' hu] at hp1 hp2
   have hl := hl.mark
   refine zg ?_; refine xp_draw (idx := [0, 1, 2, 3, 4, 5, 6, 7, 8, 13, 9, 10, 11, 12, 14, 15]) rfl (by kernel_rfl) (by kernel_rfl) ?_; refine zg ?_; refine rp_allocL hF hl rfl rfl rfl rfl rfl (z := [.int .i64 0, .int .i64 0]) (by kernel_rfl) ?_; intro B9 S9 hl
   refine zp hl rfl (spec51 u t0) ?_; rintro v S1 hk1 rfl hl; refine ⟨zt, ?_⟩
   refine zg ?_
   refine rp_storeL hl 0 rfl rfl rfl rfl rfl rfl rfl (by kernel_rfl) rfl ?_; intro S1 hl; refine ⟨stays_all (by kernel_rfl), ?_⟩
   refine zg ?_
   constructor <;> intro h44
   ·
    refine zg ?_
    refine thn_ret (blk_ret (thn_ret (round_ret (blk_ret ((z2 rfl rfl ⟨hl.keep, ⟨.slice none 0 0, by rw [(rs_2 h19 (hp2.trans (congrArg Prod.snd (rsl_1 h44))) h44)] <;> rfl, by rw [(rs_2 h19 (hp2.trans (congrArg Prod.snd (rsl_1 h44))) h44)]; exact Sls.nil⟩⟩))))))
   ·
    refine zg ?_; refine xp_draw (idx := [0, 1, 2, 3, 4, 5, 6, 7]) rfl (by kernel_rfl) (by kernel_rfl) ?_; refine zg ?_; refine pr rfl (rd_build rfl rfl (v := aggL [.int .i64 t0.n, .int .i64 t0.d, .int .i64 (subE u t0).1.n, .int .i64 (subE u t0).1.d, .slice none 0 0]) (by rfl)) ?_; refine rp_allocL hF hl rfl rfl rfl rfl rfl (z := zSl) (by kernel_rfl) ?_; intro B11 S11 hl
    refine rp_storeL hl 0 rfl rfl rfl rfl rfl rfl rfl (by kernel_rfl) rfl ?_; intro S1 hl; refine ⟨stays_all (by kernel_rfl), ?_⟩
    refine zA ?_; refine xp_seq rfl ?_; refine zS ?_; refine xp_block rfl ?_
    -- LOOP
    have hl := hl.addG (g := gOf 3 1 (fun k => [Value.int .i64 k]) (.slice none ([] : List Int).length ([] : List Int).length) ([] : List Int)) (.inl ⟨rfl, rfl, rfl⟩)
    refine xe_sub (L' := [(12, .int .i64 0), (11, ptrTo B11 0), (8, .int .i64 n), (7, .slice oa D.length D.length), (6, .slice am (rmG V []).length cm), (3, .int .i64 0), (2, .slice none 0 0), (0, .slice a V.length cap)]) ⟨rfl, rfl, rfl, rfl, rfl, rfl, rfl, rfl, trivial⟩ ?_
    refine xp_loop rfl (fun m Le S' => ∃ (k : Nat) (E : List Int) (ae : Option Addr), k ≤ V.length ∧ m = V.length - k ∧ E.length = k ∧ E ++ (V.drop k).map (fun C => onE C t0) = (V.map fun C => onE C t0) ∧ SubE [(12, .int .i64 k), (11, ptrTo B11 0), (8, .int .i64 n), (7, .slice oa D.length D.length), (6, .slice am (rmG V []).length cm), (3, .int .i64 0), (2, .slice none 0 0), (0, .slice a V.length cap)] Le ∧ HoldG S [T0, T1, S] S' [(B11, .cells [.int .i64 t0.n, .int .i64 t0.d, .int .i64 (subE u t0).1.n, .int .i64 (subE u t0).1.d, .slice ae E.length E.length] 110 false true []), (B9, .cells (subE u t0).1.cells 50 false true [])] [gOf 3 1 (fun k => [Value.int .i64 k]) (.slice ae E.length E.length) E, gOf 110 5 slC (.slice oa D.length D.length) D]) ?_ (m := V.length) ⟨0, [], none, by omega, rfl, rfl, rfl, ⟨rfl, rfl, rfl, rfl, rfl, rfl, rfl, rfl, trivial⟩, hl⟩
    clear hl; rintro m Le S' ⟨k, E, ae, hk, rfl, hEk, hE, hsub2, hl⟩; refine xe_sub hsub2 ?_
    refine zg ?_
    constructor <;> intro h55
    ·
     have hlt2 : k < V.length := by have := of_decide_eq_true h55; omega
     obtain ⟨x, hx⟩ := nth_some hlt2
     obtain ⟨b3, o3, cs3, aw, cw, ha3, _, hrow3, htk3, hvx⟩ := hv.elem hx
     rw [drop_nth' hx] at hE
     refine zg ?_; refine xp_draw (idx := [0, 1, 2, 3, 4, 5, 6, 7, 8, 9, 10, 11, 12, 13, 14]) rfl (by kernel_rfl) (by kernel_rfl) ?_; refine zg ?_
     refine zp hl rfl (spec52 aw cw x t0 (hV x (nth_mem hx)) (hvx.move (hl.since 2 rfl))) ?_; rintro v S1 hk1 rfl hl; refine ⟨zt, ?_⟩
     refine rp_buildSliceR hF hl rfl rfl rfl rfl rfl Tryz.underlying39 rfl (c := [.int .i64 (onE x t0)]) (by kernel_rfl) ?_; intro B69 S1 hg69 hr69 hl
     refine rp_appendG hl 0 rfl rfl (by simp [gOf]) rfl rfl rfl rfl rfl rfl rfl Tryz.underlying39 Tryz.underlying39 rfl rfl (by kernel_rfl) (src_row (new := [.int .i64 (onE x t0)]) hr69 rfl) rfl rfl (by kernel_rfl) (by show E.length + 1 ≤ maxNeed; unfold maxNeed; omega) ?_; intro v70 S1 hl; obtain ⟨ae2, rfl⟩ : ∃ x, v70 = .slice x (E.length + 1) (E.length + 1) := Grow.is (hl.gr _ (List.mem_cons_self ..)); refine ⟨stays_all (by kernel_rfl), ?_⟩
     refine zg ?_
     refine rp_storeL hl 0 rfl rfl rfl rfl rfl rfl rfl (by kernel_rfl) rfl ?_; intro S1 hl; refine ⟨stays_all (by kernel_rfl), ?_⟩
     refine zg ?_
     refine ⟨V.length - (k + 1), by omega, k + 1, (E ++ [onE x t0]), ae2, by omega, rfl, by rw [List.length_append, hEk]; rfl, by rw [List.append_assoc]; exact hE, ⟨rfl, rfl, rfl, rfl, rfl, rfl, rfl, rfl, trivial⟩, ?_⟩
     rw [gI_push]
     rw [show ((E ++ [onE x t0]).length) = E.length + 1 by rw [List.length_append]; rfl]
     exact hl
    ·
     have hEf : E = (V.map fun C => onE C t0) := by rw [← hE, List.drop_eq_nil_of_le (by have := of_decide_eq_false h55; omega)]; exact (List.append_nil _).symm
     refine zg ?_; refine re_buildSliceR hl rfl rfl rfl rfl rfl Tryz.underlying71 rfl (c := slC ((⟨t0, (subE u t0).1, E⟩ : Sl), Value.slice ae E.length E.length)) (by kernel_rfl) ?_; intro B74 S1 hr74 hl; refine re_appendG hl 1 rfl rfl (by simp [gOf]) rfl rfl rfl rfl rfl rfl rfl Tryz.underlying71 Tryz.underlying71 rfl rfl (by kernel_rfl) (src_row (new := slC ((⟨t0, (subE u t0).1, E⟩ : Sl), Value.slice ae E.length E.length)) hr74 rfl) rfl rfl (by kernel_rfl) (by show D.length + 1 ≤ maxNeed; unfold maxNeed; omega) ?_; intro v75 S1 hl
     obtain ⟨oa2, rfl⟩ : ∃ x, v75 = .slice x (D.length + 1) (D.length + 1) := Grow.is (hl.gr _ (List.mem_cons_of_mem _ (List.mem_cons_self ..)))
     refine zg ?_
     have hDx : ∀ x, x ∈ (D ++ [((⟨t0, (subE u t0).1, E⟩ : Sl), Value.slice ae E.length E.length)]) → Ints S1 x.2 x.1.ev := fun x hx => by
      rcases List.mem_append.1 hx with hx | hx
      ·exact (hD x hx).move (hl.since 0 rfl)
      ·rw [List.mem_singleton.1 hx]
       exact Grow.ls (f := (fun k => [Value.int .i64 k])) (z := 1) (C := E) (fun _ => rfl) (hl.gr _ (List.mem_cons_self ..))
     refine ⟨(rmG V []).length - (n + 1), by omega, n + 1, (D ++ [((⟨t0, (subE u t0).1, E⟩ : Sl), Value.slice ae E.length E.length)]), oa2, by omega, rfl, by rw [List.length_append]; show D.length + 1 ≤ _; omega, ?_, ?_, hDx, ⟨rfl, congrArg some (congrArg (fun n => Value.slice oa2 n n) (by rw [List.length_append]; rfl)), rfl, rfl, rfl, rfl, trivial⟩, ?_⟩
     ·rw [hp1, rsl_2 h44, ← drop_nth' hu, List.map_append, List.append_assoc, hEf]; rfl
     ·rw [hp2, rsl_2 h44, ← drop_nth' hu]
     ·rw [gOf_push]
      exact HoldG.shrink hl (List.nil_sublist _) (fun g hg => List.mem_cons_of_mem _ hg) (fun T hT => List.mem_cons_of_mem _ hT)
  ·
   refine zg ?_
   refine y2 rfl rfl ⟨hl.keep, rsl_back h19 (rsl_fin hp1 hp2 (by rw [List.length_drop]; have := of_decide_eq_false h27; omega)) (hl.gr _ (List.mem_cons_self ..)) hD⟩
end Go.Proofs.YtgiibikieblicaaGreatDoor
namespace Go.Proofs.YtgiibikieblicaaGreatDoor
open Go.Cm Go
set_option maxRecDepth 100000
variable {S : St}
instance : DecidableEq Iv := fun a b => decidable_of_iff (a.st = b.st ∧ a.hf = b.hf) ⟨fun h => by cases a; cases b; rw [Iv.mk.injEq]; exact h, fun h => by subst h; simp⟩
theorem numB {p : Pt} (h : pB p = false) : 0 ≤ (numE p).1 ∧ (numE p).1 ≤ 62 := by rw [numE_ok h]; exact num_bd h
theorem hgtB {p : Pt} (h : pB p = false) : -1 ≤ (hgtE p).1 ∧ (hgtE p).1 ≤ 2000 := by
 rw [hgtE_ok h]
 have a1 := num_bd h
 have b1 := pB_ok h
 exact hgt_bd a1.1 a1.2 b1.2.2.2.2.1 b1.2.2.2.2.2
theorem low_ok {p q : Pt} (hp : pB p = false) (hq : pB q = false) : pB (lowE p q).1 = false ∧ pB (lowE p q).2 = false := by
 cases h : lowB p q with
 | true => rw [low_1 h]; exact ⟨hq, hp⟩
 | false => rw [low_2 h]; exact ⟨hp, hq⟩
theorem bw_val {p q : Pt} (hp : pB p = false) (hq : pB q = false) : bwE p q = (ivP (lowE p q).1 (lowE p q).2, 0) := by
 rw [bw_3 (by rw [pE_2 hp]; rfl) (by rw [pE_2 hq]; rfl)]
 exact btw_2 (fstP_ok (low_ok hp hq).1 (low_ok hp hq).2)
theorem up_val {p q : Pt} (hp : pB p = false) (hq : pB q = false) : (⟨(numE (lowE p q).2).1 - (numE (lowE p q).1).1, (hgtE (lowE p q).2).1 - (hgtE (lowE p q).1).1⟩ : Iv) = (bwE p q).1 := by
 have hv := low_ok hp hq
 rw [bw_val hp hq, numE_ok hv.1, numE_ok hv.2, hgtE_ok hv.1, hgtE_ok hv.2]
 rfl
theorem fstP_1 {p q : Pt} (h : (pE p == 0) = true) : fstP [p, q] = pE q := by
 have h0 : pE p = 0 := by simpa using h
 rw [fstP_go (by rw [h0]; rfl)]
 show (bif pE q != 0 then pE q else 0) = _
 cases h2 : pE q != 0 with
 | true => rfl
 | false => have : pE q = 0 := by simpa using h2
            rw [this]; rfl
theorem fstP_2 {p q : Pt} (h : (pE p == 0) = false) : fstP [p, q] = pE p := fstP_bad (by simpa using h)
theorem spf_1 {p q : Pt} (h : (fstP [p, q] != 0) = true) : spE p q = (i0, fstP [p, q]) := by
 cases h1 : (pE p != 0) with
 | true => rw [sp_1 (by rw [bw_1 h1]; exact h1), bw_1 h1, fstP_bad h1]
 | false =>
  have e : fstP [p, q] = pE q := fstP_1 (by simpa using h1)
  rw [e] at h ⊢
  rw [sp_1 (by rw [bw_2 h1 h]; exact h), bw_2 h1 h]
theorem spf_2 {p q : Pt} (hp : pB p = false) (hq : pB q = false) : spE p q = (spI (bwE p q).1, 0) := sp_2 (by rw [bw_val hp hq]; rfl)
def kaB (x : Iv) : Bool := decide (x = ⟨0, 0⟩) || decide (x = ⟨4, 7⟩)
def kbB (x : Iv) : Bool := decide (x = ⟨2, 3⟩) || (decide (x = ⟨2, 4⟩) || (decide (x = ⟨5, 8⟩) || decide (x = ⟨5, 9⟩)))
def kcB (x : Iv) : Bool := decide (x = ⟨3, 6⟩) || decide (x = ⟨4, 6⟩)
def mkI (x : Iv) : Int := bif kaB x then 1 else bif kbB x then 2 else bif decide (x = ⟨3, 5⟩) then 3 else bif kcB x then 4 else 5
def mkT : Bool := (List.range 7).all fun s => (List.range 13).all fun h => decide (mkI ⟨(s : Int), (h : Int)⟩ = bif kdB ⟨(s : Int), (h : Int)⟩ then kI s h else 5)
theorem mkT_ok : mkT = true := by decide +kernel
theorem mk_kd {x : Iv} (h0 : 0 ≤ x.st) (h1 : x.st < 7) : mkI x = bif kdB x then kI x.st x.hf else 5 := by
 by_cases hh : 0 ≤ x.hf ∧ x.hf < 13
 ·have := mkT_ok
  unfold mkT at this
  rw [List.all_eq_true] at this
  have := this x.st.toNat (List.mem_range.2 (by omega))
  rw [List.all_eq_true] at this
  have := of_decide_eq_true (this x.hf.toNat (List.mem_range.2 (by omega)))
  rw [show ((x.st.toNat : Nat) : Int) = x.st by omega, show ((x.hf.toNat : Nat) : Int) = x.hf by omega] at this
  exact this
 ·have hk : kdB x = false := by
   unfold kdB
   rcases Decidable.em (0 ≤ x.hf) with h2 | h2
   ·rw [decide_eq_false (p := x.hf < 13) (by omega)]; simp
   ·rw [decide_eq_false (p := x.hf ≥ 0) (by omega)]; simp
  have e : ∀ s h : Int, 0 ≤ h → h < 13 → decide (x = ⟨s, h⟩) = false := fun s h ha hb => decide_eq_false fun e => by rw [e] at hh; exact hh ⟨ha, hb⟩
  rw [hk]
  unfold mkI kaB kbB kcB
  rw [e _ _ (by decide) (by decide), e _ _ (by decide) (by decide), e _ _ (by decide) (by decide), e _ _ (by decide) (by decide), e _ _ (by decide) (by decide), e _ _ (by decide) (by decide), e _ _ (by decide) (by decide), e _ _ (by decide) (by decide), e _ _ (by decide) (by decide)]
  rfl
theorem mk_kind {p q : Pt} (hp : pB p = false) (hq : pB q = false) : mkI (spI (bwE p q).1) = (kdE p q).1 := by
 have hs := spf_2 hp hq
 have hb : 0 ≤ (bwE p q).1.st := by rw [bw_val hp hq]; exact (ivP_bd hp hq).1
 have h2 := spI_bd hb
 rw [mk_kd h2.1 h2.2]
 unfold kdE
 rw [hs]
 cases kdB (spI (bwE p q).1) <;> rfl
theorem mk_1 {x : Iv} (h : kaB x = true) : mkI x = 1 := by unfold mkI; rw [h]; rfl
theorem mk_2 {x : Iv} (h : kaB x = false) (h2 : kbB x = true) : mkI x = 2 := by unfold mkI; rw [h, h2]; rfl
theorem mk_q {x : Iv} (h : kaB x = false) (h2 : kbB x = false) (h3 : decide (x = ⟨3, 5⟩) = true) : mkI x = 3 := by unfold mkI; rw [h, h2, h3]; rfl
theorem mk_r {x : Iv} (h : kaB x = false) (h2 : kbB x = false) (h3 : decide (x = ⟨3, 5⟩) = false) (h4 : kcB x = true) : mkI x = 4 := by unfold mkI; rw [h, h2, h3, h4]; rfl
theorem mk_s {x : Iv} (h : kaB x = false) (h2 : kbB x = false) (h3 : decide (x = ⟨3, 5⟩) = false) (h4 : kcB x = false) : mkI x = 5 := by unfold mkI; rw [h, h2, h3, h4]; rfl
theorem kdf_1 {p q : Pt} (h : (fstP [p, q] != 0) = true) : kdE p q = (0, fstP [p, q]) := by rw [kd_1 (by rw [spf_1 h]; exact h), spf_1 h]
theorem kdf_2 {p q : Pt} (hp : pB p = false) (hq : pB q = false) : (kdE p q).2 = 0 := by
 have hs := spf_2 hp hq
 unfold kdE
 rw [hs]
 cases kdB (spI (bwE p q).1) <;> rfl
theorem isIv (xo yo : Operand) (s r : Iv) : binV Tryz.prog .eql 137 xo yo s.v r.v = some (.bool (decide (s = r))) := bin_eq (by kernel_rfl) (by
 have h : eqV Tryz.prog 40 137 (aggL s.cells) (aggL r.cells) = _ := eq_struct Tryz.underlying137 (by kernel_rfl) (eqFields_cons (by kernel_rfl) (part1 (by kernel_rfl) rfl) (part1 (by kernel_rfl) rfl) (eq_int Tryz.underlying3) (eqFields_cons (by kernel_rfl) (part1 (by kernel_rfl) rfl) (part1 (by kernel_rfl) rfl) (eq_int Tryz.underlying3) rfl))
 refine h.trans (congrArg some ?_)
 cases s; cases r
 simp only [Iv.mk.injEq]
 rw [Bool.eq_iff_iff]
 simp)
noncomputable def cd123 : Code := Tryz.f123.body.getD .skip
theorem spec123 (p : Pt) : CC Tryz.prog KK 123 [p.v] S (fun v S' => Keep S S' ∧ v = .int .i64 (numE p).1) := by
 refine cc_enter (c := cd123) (n := 11) Tryz.func123 rfl rfl rfl (by kernel_rfl) rfl rfl ?_
 have hl := Hold.start S
 refine zg ?_; refine re_boxL hl rfl rfl rfl rfl rfl rfl ?_; intro B1 S1 hl; refine zg ?_
 refine zc hl rfl (spec79 p) ?_; rintro v S1 hk1 rfl hl
 refine zg ?_
 refine y1 rfl ⟨hl.keep, rfl⟩
noncomputable def cd124 : Code := Tryz.f124.body.getD .skip
theorem spec124 (p : Pt) (hF : Fresh S) : CC Tryz.prog KK 124 [p.v] S (fun v S' => Keep S S' ∧ v = .int .i64 (hgtE p).1) := by
 refine cc_enter (c := cd124) (n := 11) Tryz.func124 rfl rfl rfl (by kernel_rfl) rfl rfl ?_
 have hl := Hold.start S
 refine zg ?_; refine re_boxL hl rfl rfl rfl rfl rfl rfl ?_; intro B1 S1 hl; refine zg ?_
 refine zc hl rfl (spec128 p (hl.keep.3 hF)) ?_; rintro v S1 hk1 rfl hl
 refine zg ?_
 refine y1 rfl ⟨hl.keep, rfl⟩
noncomputable def cd110 : Code := Tryz.f110.body.getD .skip
theorem spec110 (p q : Pt) (hF : Fresh S) : CC Tryz.prog KK 110 [p.v, q.v] S (fun v S' => Keep S S' ∧ v = (lowE p q).1.v) := by
 refine cc_enter (c := cd110) (n := 26) Tryz.func110 rfl rfl rfl (by kernel_rfl) rfl rfl ?_
 have hl := Hold.start S
 refine zg ?_; refine re_boxL hl rfl rfl rfl rfl rfl rfl ?_; intro B2 S2 hl; refine re_boxL hl rfl rfl rfl rfl rfl rfl ?_; intro B3 S3 hl; refine re_allocL hl rfl rfl rfl rfl rfl (z := [.int .i64 0, .int .i64 0, .int .i64 0]) (by kernel_rfl) ?_; intro B4 S4 hl; refine zA ?_; refine xp_seq rfl ?_; refine xp_seq rfl (xe_toE hl 23 (.bool (lowB p q)) ?_ rfl ?_)
 ·
  refine xp_draw (idx := [0, 2, 1, 3, 4, 5, 6, 8, 7, 9, 10, 11, 12, 14, 13, 15, 16, 17, 18]) rfl (by kernel_rfl) (by kernel_rfl) ?_; refine zg ?_
  refine zp hl rfl (spec123 q) ?_; rintro v S1 hk1 rfl hl; refine ⟨zt, ?_⟩
  refine zp hl rfl (spec123 p) ?_; rintro v S1 hk1 rfl hl; refine ⟨zt, ?_⟩
  refine zg ?_; refine rp_bool (d := 10) rfl (fun h10 => ?_) (fun h10 => ?_)
  ·
   refine zg ?_
   exact ⟨rfl, bl (by unfold lowB; rw [h10]; rfl), sB, hl⟩
  ·
   refine zg ?_
   refine zp hl rfl (spec123 q) ?_; rintro v S1 hk1 rfl hl; refine ⟨zt, ?_⟩
   refine zp hl rfl (spec123 p) ?_; rintro v S1 hk1 rfl hl; refine ⟨zt, ?_⟩
   refine zg ?_; refine rp_bool (d := 16) rfl (fun h16 => ?_) (fun h16 => ?_)
   ·
    refine zg ?_
    refine zp hl rfl (spec124 q (hl.keep.3 hF)) ?_; rintro v S1 hk1 rfl hl; refine ⟨zt, ?_⟩
    refine zp hl rfl (spec124 p (hl.keep.3 hF)) ?_; rintro v S1 hk1 rfl hl; refine ⟨zt, ?_⟩
    refine zg ?_
    exact ⟨rfl, bl (by unfold lowB; rw [h10, h16]; rfl), sB, hl⟩
   ·
    refine zg ?_
    exact ⟨rfl, bl (by unfold lowB; rw [h10, h16]; rfl), sB, hl⟩
 intro S1 hl
 refine zg ?_
 constructor <;> intro h23
 ·
  refine zg ?_; refine re_storeL hl 0 rfl rfl rfl rfl rfl rfl rfl (by kernel_rfl) rfl ?_; intro S1 hl; refine zg ?_
  refine thn_ret (done_ret (ress_cell rfl (lN (z := 3) (hl.get 0 rfl) rfl) rfl) ⟨hl.keep, by rw [low_1 h23]; rfl⟩)
 ·
  refine zg ?_; refine re_storeL hl 0 rfl rfl rfl rfl rfl rfl rfl (by kernel_rfl) rfl ?_; intro S1 hl; refine zg ?_
  refine done_ret (ress_cell rfl (lN (z := 3) (hl.get 0 rfl) rfl) rfl) ⟨hl.keep, by rw [low_2 h23]; rfl⟩
end Go.Proofs.YtgiibikieblicaaGreatDoor
namespace Go.Proofs.YtgiibikieblicaaGreatDoor
open Go.Cm Go
set_option maxRecDepth 100000
variable {S : St}
noncomputable def cd108 : Code := Tryz.f108.body.getD .skip
theorem spec108 (p q : Pt) (hF : Fresh S) (hp : pB p = false) (hq : pB q = false) : CC Tryz.prog KK 108 [p.v, q.v] S (fun v S' => Keep S S' ∧ v = (bwE p q).1.v) := by
 refine cc_enter (c := cd108) (n := 37) Tryz.func108 rfl rfl rfl (by kernel_rfl) rfl rfl ?_
 have hl := Hold.start S
 refine zg ?_; refine re_boxL hl rfl rfl rfl rfl rfl rfl ?_; intro B2 S2 hl; refine re_boxL hl rfl rfl rfl rfl rfl rfl ?_; intro B3 S3 hl; refine re_allocL hl rfl rfl rfl rfl rfl (z := [.int .i64 0, .int .i64 0]) (by kernel_rfl) ?_; intro B4 S4 hl; refine zA ?_; refine xp_seq rfl (xe_cut (fun Le S' => SubE [(4, ptrTo B4 0), (3, ptrTo B3 0), (2, ptrTo B2 0)] Le ∧ HoldG S [S] S' [(B4, .cells [.int .i64 0, .int .i64 0] 137 false true []), (B3, .cells (lowE p q).2.cells 52 false true []), (B2, .cells (lowE p q).1.cells 52 false true [])] []) ?_ ?_)
 ·
  refine xp_seq rfl (xe_toE hl 23 (.bool (lowB p q)) ?_ rfl ?_)
  ·
   refine xp_draw (idx := [0, 2, 1, 3, 4, 5, 6, 8, 7, 9, 10, 11, 12, 14, 13, 15, 16, 17, 18]) rfl (by kernel_rfl) (by kernel_rfl) ?_; refine zg ?_
   refine zp hl rfl (spec123 q) ?_; rintro v S1 hk1 rfl hl; refine ⟨zt, ?_⟩
   refine zp hl rfl (spec123 p) ?_; rintro v S1 hk1 rfl hl; refine ⟨zt, ?_⟩
   refine zg ?_; refine rp_bool (d := 10) rfl (fun h10 => ?_) (fun h10 => ?_)
   ·
    refine zg ?_
    exact ⟨rfl, bl (by unfold lowB; rw [h10]; rfl), sB, hl⟩
   ·
    refine zg ?_
    refine zp hl rfl (spec123 q) ?_; rintro v S1 hk1 rfl hl; refine ⟨zt, ?_⟩
    refine zp hl rfl (spec123 p) ?_; rintro v S1 hk1 rfl hl; refine ⟨zt, ?_⟩
    refine zg ?_; refine rp_bool (d := 16) rfl (fun h16 => ?_) (fun h16 => ?_)
    ·
     refine zg ?_
     refine zp hl rfl (spec124 q (hl.keep.3 hF)) ?_; rintro v S1 hk1 rfl hl; refine ⟨zt, ?_⟩
     refine zp hl rfl (spec124 p (hl.keep.3 hF)) ?_; rintro v S1 hk1 rfl hl; refine ⟨zt, ?_⟩
     refine zg ?_
     exact ⟨rfl, bl (by unfold lowB; rw [h10, h16]; rfl), sB, hl⟩
    ·
     refine zg ?_
     exact ⟨rfl, bl (by unfold lowB; rw [h10, h16]; rfl), sB, hl⟩
  intro S1 hl
  refine zg ?_
  constructor <;> intro h23
  ·
   refine zg ?_; refine re_storeL hl 2 rfl rfl rfl rfl rfl rfl rfl (by kernel_rfl) rfl ?_; intro S1 hl; refine re_storeL hl 1 rfl rfl rfl rfl rfl rfl rfl (by kernel_rfl) rfl ?_; intro S1 hl; refine zg ?_
   exact ⟨rfl, ⟨rfl, rfl, rfl, trivial⟩, by rw [low_1 h23]; exact hl⟩
  ·
   refine zg ?_
   exact ⟨rfl, ⟨rfl, rfl, rfl, trivial⟩, by rw [low_2 h23]; exact hl⟩
 clear hl; rintro Le3 S1 ⟨hsub3, hl⟩; refine xe_sub hsub3 ?_
 have hv := low_ok hp hq
 have n1 := numB hv.1
 have n2 := numB hv.2
 have g1 := hgtB hv.1
 have g2 := hgtB hv.2
 refine zg ?_; refine xp_draw (idx := [0, 2, 5, 7, 1, 3, 4, 6, 8, 9, 10, 11]) rfl (by kernel_rfl) (by kernel_rfl) ?_; refine zg ?_
 refine zp hl rfl (spec123 (lowE p q).2) ?_; rintro v S1 hk1 rfl hl; refine ⟨zt, ?_⟩
 refine zp hl rfl (spec123 (lowE p q).1) ?_; rintro v S1 hk1 rfl hl; refine ⟨zt, ?_⟩
 refine zg ?_
 refine zp hl rfl (spec124 (lowE p q).2 (hl.keep.3 hF)) ?_; rintro v S1 hk1 rfl hl; refine ⟨zt, ?_⟩
 refine zp hl rfl (spec124 (lowE p q).1 (hl.keep.3 hF)) ?_; rintro v S1 hk1 rfl hl; refine ⟨zt, ?_⟩
 refine zg ?_; refine pr rfl (rd_build rfl rfl (v := aggL [.int .i64 ((numE (lowE p q).2).1 - (numE (lowE p q).1).1), .int .i64 ((hgtE (lowE p q).2).1 - (hgtE (lowE p q).1).1)]) (by rfl)) ?_
 refine rp_storeL hl 0 rfl rfl rfl rfl rfl rfl rfl (by kernel_rfl) rfl ?_; intro S1 hl; refine ⟨stays_all (by kernel_rfl), ?_⟩
 refine zg ?_
 refine done_ret (ress_cell rfl (lN (z := 2) (hl.get 0 rfl) rfl) rfl) ⟨hl.keep, by rw [← up_val hp hq]; rfl⟩
noncomputable def cd107 : Code := Tryz.f107.body.getD .skip
theorem spec107 (i : Iv) (h0 : 0 ≤ i.st) (h1 : i.st ≤ 62) (h2 : -5000 ≤ i.hf) (h3 : i.hf ≤ 5000) : CC Tryz.prog KK 107 [i.v] S (fun v S' => Keep S S' ∧ v = (spI i).v) := by
 refine cc_enter (c := cd107) (n := 14) Tryz.func107 rfl rfl rfl (by kernel_rfl) rfl rfl ?_
 have hl := Hold.start S
 have hq := quo_bd (a := i.st) (b := 7) (by omega) h0
 refine zg ?_; refine re_boxL hl rfl rfl rfl rfl rfl rfl ?_; intro B1 S1 hl; refine re_allocL hl rfl rfl rfl rfl rfl (z := [.int .i64 0, .int .i64 0]) (by kernel_rfl) ?_; intro B2 S2 hl; refine zg ?_; refine rr rfl (rd_bin rfl rfl rfl (remV (by omega))) ?_; refine rr rfl (rd_fieldAddr rfl rfl (fa Tryz.underlying137 az137 rfl)) ?_; refine rr rfl (rd_load rfl rfl (l1 (hl.get 1 rfl) rfl)) ?_; refine rr rfl (rd_fieldAddr rfl rfl (fa Tryz.underlying137 az137 rfl)) ?_; refine rr rfl (rd_load rfl rfl (l1 (hl.get 1 rfl) rfl)) ?_
 refine rr rfl (rd_bin rfl rfl rfl (quoV (by omega) (by omega) (by omega))) ?_; refine zg ?_; refine rr rfl (rd_build rfl rfl (v := aggL [.int .i64 (i.st.tmod 7), .int .i64 (i.hf - 12 * (i.st.tdiv 7))]) (by rfl)) ?_; refine re_storeL hl 0 rfl rfl rfl rfl rfl rfl rfl (by kernel_rfl) rfl ?_; intro S1 hl; refine zg ?_
 refine done_ret (ress_cell rfl (lN (z := 2) (hl.get 0 rfl) rfl) rfl) ⟨hl.keep, rfl⟩
noncomputable def cd105 : Code := Tryz.f105.body.getD .skip
theorem spec105 (p q : Pt) : CC Tryz.prog KK 105 [p.v, q.v] S (fun v S' => Keep S S' ∧ v = .int .i64 (fstP [p, q])) := by
 refine cc_enter (c := cd105) (n := 13) Tryz.func105 rfl rfl rfl (by kernel_rfl) rfl rfl ?_
 have hl := Hold.start S
 refine zg ?_; refine re_boxL hl rfl rfl rfl rfl rfl rfl ?_; intro B2 S2 hl; refine re_boxL hl rfl rfl rfl rfl rfl rfl ?_; intro B3 S3 hl; refine zg ?_
 refine zc hl rfl (spec109 p) ?_; rintro v S1 hk1 rfl hl
 refine zA ?_; refine xp_seq rfl (xe_cut (fun Le S' => SubE [(5, .int .i64 (fstP [p, q])), (4, .int .i64 0)] Le ∧ HoldG S [S] S' [] []) ?_ ?_)
 ·
  refine zg ?_
  constructor <;> intro h9
  ·
   refine zg ?_
   refine zc hl rfl (spec109 q) ?_; rintro v S1 hk1 rfl hl
   refine zg ?_
   exact ⟨rfl, ⟨congrArg some (congrArg (Value.int .i64) (fstP_1 h9).symm), rfl, trivial⟩, hl.tail.tail⟩
  ·
   refine zg ?_
   exact ⟨rfl, ⟨congrArg some (congrArg (Value.int .i64) (fstP_2 h9).symm), rfl, trivial⟩, hl.tail.tail⟩
 clear hl; rintro Le3 S1 ⟨hsub3, hl⟩; refine xe_sub hsub3 ?_
 refine zg ?_
 refine y1 rfl ⟨hl.keep, rfl⟩
noncomputable def cd78 : Code := Tryz.f78.body.getD .skip
theorem spec78 (p q : Pt) (hF : Fresh S) : CC Tryz.prog KK 78 [p.v, q.v] S (fun v S' => Keep S S' ∧ v = ri (spE p q)) := by
 refine cc_enter (c := cd78) (n := 18) Tryz.func78 rfl rfl rfl (by kernel_rfl) rfl rfl ?_
 have hl := Hold.start S
 refine zg ?_; refine re_boxL hl rfl rfl rfl rfl rfl rfl ?_; intro B2 S2 hl; refine re_boxL hl rfl rfl rfl rfl rfl rfl ?_; intro B3 S3 hl; refine re_allocL hl rfl rfl rfl rfl rfl (z := [.int .i64 0, .int .i64 0]) (by kernel_rfl) ?_; intro B4 S4 hl; refine zg ?_
 refine zc hl rfl (spec105 p q) ?_; rintro v S1 hk1 rfl hl
 refine zg ?_
 constructor <;> intro h11
 ·
  refine zg ?_; refine rr rfl (rd_build rfl rfl (v := aggL [.int .i64 0, .int .i64 0]) (by rfl)) ?_; refine zg ?_; refine re_storeL hl 0 rfl rfl rfl rfl rfl rfl rfl (by kernel_rfl) rfl ?_; intro S1 hl; refine zg ?_
  refine thn_ret (done_ret (ress_cell rfl (lN (z := 2) (hl.get 0 rfl) rfl) (ress_tmp rfl rfl)) ⟨hl.keep, by rw [spf_1 h11]; rfl⟩)
 ·
  have hpq := fstP2 (by simpa using h11 : fstP [p, q] = 0)
  have hb := bw_bd (p := p) (q := q) (by rw [bw_val hpq.1 hpq.2]; rfl)
  refine zg ?_
  refine zc hl rfl (spec108 p q (hl.keep.3 hF) hpq.1 hpq.2) ?_; rintro v S1 hk1 rfl hl
  refine zc hl rfl (spec107 (bwE p q).1 hb.1 hb.2.1 hb.2.2.1 hb.2.2.2) ?_; rintro v S1 hk1 rfl hl
  refine re_storeL hl 0 rfl rfl rfl rfl rfl rfl rfl (by kernel_rfl) rfl ?_; intro S1 hl; refine zg ?_
  refine done_ret (ress_cell rfl (lN (z := 2) (hl.get 0 rfl) rfl) (ress_tmp rfl rfl)) ⟨hl.keep, by rw [spf_2 hpq.1 hpq.2]; rfl⟩
end Go.Proofs.YtgiibikieblicaaGreatDoor
namespace Go.Proofs.YtgiibikieblicaaGreatDoor
open Go.Cm Go
set_option maxRecDepth 100000
variable {S : St}
noncomputable def cd106 : Code := Tryz.f106.body.getD .skip
theorem spec106 (p q : Pt) (hF : Fresh S) (hp : pB p = false) (hq : pB q = false) : CC Tryz.prog KK 106 [p.v, q.v] S (fun v S' => Keep S S' ∧ v = .int .i64 (kdE p q).1) := by
 refine cc_enter (c := cd106) (n := 33) Tryz.func106 rfl rfl rfl (by kernel_rfl) rfl rfl ?_
 have hl := Hold.start S
 have hpq : pB p = false ∧ pB q = false := ⟨hp, hq⟩
 have hb := bw_bd (p := p) (q := q) (by rw [bw_val hpq.1 hpq.2]; rfl)
 refine zg ?_; refine re_boxL hl rfl rfl rfl rfl rfl rfl ?_; intro B2 S2 hl; refine re_boxL hl rfl rfl rfl rfl rfl rfl ?_; intro B3 S3 hl; refine zg ?_
 refine zc hl rfl (spec108 p q (hl.keep.3 hF) hpq.1 hpq.2) ?_; rintro v S1 hk1 rfl hl
 refine zc hl rfl (spec107 (bwE p q).1 hb.1 hb.2.1 hb.2.2.1 hb.2.2.2) ?_; rintro v S1 hk1 rfl hl
 refine re_allocL hl rfl rfl rfl rfl rfl (z := [.int .i64 0, .int .i64 0]) (by kernel_rfl) ?_; intro B5 S5 hl; refine re_storeL hl 0 rfl rfl rfl rfl rfl rfl rfl (by kernel_rfl) rfl ?_; intro S1 hl; refine zA ?_; refine zS ?_; refine xp_block rfl ?_; refine xp_seq rfl (xe_toE hl 11 (.bool (kaB (spI (bwE p q).1))) ?_ rfl ?_)
 ·
  refine zg ?_; refine rr rfl (rd_build rfl rfl (v := aggL [.int .i64 0, .int .i64 0]) (by rfl)) ?_; refine rr rfl (rd_bin rfl rfl rfl (isIv _ _ (spI (bwE p q).1) ⟨0, 0⟩)) ?_; refine zg ?_
  constructor <;> intro h11
  ·
   refine zg ?_
   exact ⟨rfl, bl (by unfold kaB; rw [h11]; rfl), sB, hl⟩
  ·
   refine zg ?_; refine rr rfl (rd_build rfl rfl (v := aggL [.int .i64 4, .int .i64 7]) (by rfl)) ?_; refine rr rfl (rd_bin rfl rfl rfl (isIv _ _ (spI (bwE p q).1) ⟨4, 7⟩)) ?_; refine zg ?_
   exact ⟨rfl, bl (by unfold kaB; rw [h11]; rfl), sB, hl⟩
 intro S1 hl
 refine zg ?_
 constructor <;> intro h11
 ·
  refine zg ?_
  refine blk_ret ((z1 rfl ⟨hl.keep, congrArg (Value.int .i64) ((mk_kind hp hq).symm.trans (mk_1 h11)).symm⟩))
 ·
  refine xp_seq rfl (xe_toE hl 16 (.bool (kbB (spI (bwE p q).1))) ?_ rfl ?_)
  ·
   refine zg ?_; refine rr rfl (rd_build rfl rfl (v := aggL [.int .i64 2, .int .i64 3]) (by rfl)) ?_; refine rr rfl (rd_bin rfl rfl rfl (isIv _ _ (spI (bwE p q).1) ⟨2, 3⟩)) ?_; refine zg ?_
   constructor <;> intro h16
   ·
    refine zg ?_
    exact ⟨rfl, bl (by unfold kbB; rw [h16]; rfl), sB, hl⟩
   ·
    refine zg ?_; refine rr rfl (rd_build rfl rfl (v := aggL [.int .i64 2, .int .i64 4]) (by rfl)) ?_; refine rr rfl (rd_bin rfl rfl rfl (isIv _ _ (spI (bwE p q).1) ⟨2, 4⟩)) ?_; refine zg ?_
    constructor <;> intro h1016
    ·
     refine zg ?_
     exact ⟨rfl, bl (by unfold kbB; rw [h16, h1016]; rfl), sB, hl⟩
    ·
     refine zg ?_; refine rr rfl (rd_build rfl rfl (v := aggL [.int .i64 5, .int .i64 8]) (by rfl)) ?_; refine rr rfl (rd_bin rfl rfl rfl (isIv _ _ (spI (bwE p q).1) ⟨5, 8⟩)) ?_; refine zg ?_
     constructor <;> intro h2016
     ·
      refine zg ?_
      exact ⟨rfl, bl (by unfold kbB; rw [h16, h1016, h2016]; rfl), sB, hl⟩
     ·
      refine zg ?_; refine rr rfl (rd_build rfl rfl (v := aggL [.int .i64 5, .int .i64 9]) (by rfl)) ?_; refine rr rfl (rd_bin rfl rfl rfl (isIv _ _ (spI (bwE p q).1) ⟨5, 9⟩)) ?_; refine zg ?_
      exact ⟨rfl, bl (by unfold kbB; rw [h16, h1016, h2016]; rfl), sB, hl⟩
  intro S1 hl
  refine zg ?_
  constructor <;> intro h16
  ·
   refine zg ?_
   refine blk_ret ((z1 rfl ⟨hl.keep, congrArg (Value.int .i64) ((mk_kind hp hq).symm.trans (mk_2 h11 h16)).symm⟩))
  ·
   refine zg ?_; refine rr rfl (rd_build rfl rfl (v := aggL [.int .i64 3, .int .i64 5]) (by rfl)) ?_; refine rr rfl (rd_bin rfl rfl rfl (isIv _ _ (spI (bwE p q).1) ⟨3, 5⟩)) ?_; refine zg ?_
   constructor <;> intro h25
   ·
    refine zg ?_
    refine blk_ret ((z1 rfl ⟨hl.keep, congrArg (Value.int .i64) ((mk_kind hp hq).symm.trans (mk_q h11 h16 h25)).symm⟩))
   ·
    refine xp_seq rfl (xe_toE hl 28 (.bool (kcB (spI (bwE p q).1))) ?_ rfl ?_)
    ·
     refine zg ?_; refine rr rfl (rd_build rfl rfl (v := aggL [.int .i64 3, .int .i64 6]) (by rfl)) ?_; refine rr rfl (rd_bin rfl rfl rfl (isIv _ _ (spI (bwE p q).1) ⟨3, 6⟩)) ?_; refine zg ?_
     constructor <;> intro h28
     ·
      refine zg ?_
      exact ⟨rfl, bl (by unfold kcB; rw [h28]; rfl), sB, hl⟩
     ·
      refine zg ?_; refine rr rfl (rd_build rfl rfl (v := aggL [.int .i64 4, .int .i64 6]) (by rfl)) ?_; refine rr rfl (rd_bin rfl rfl rfl (isIv _ _ (spI (bwE p q).1) ⟨4, 6⟩)) ?_; refine zg ?_
      exact ⟨rfl, bl (by unfold kcB; rw [h28]; rfl), sB, hl⟩
    intro S1 hl
    refine zg ?_
    constructor <;> intro h28
    ·
     refine zg ?_
     refine blk_ret ((z1 rfl ⟨hl.keep, congrArg (Value.int .i64) ((mk_kind hp hq).symm.trans (mk_r h11 h16 h25 h28)).symm⟩))
    ·
     refine zg ?_
     refine y1 rfl ⟨hl.keep, congrArg (Value.int .i64) ((mk_kind hp hq).symm.trans (mk_s h11 h16 h25 h28)).symm⟩
noncomputable def cd77 : Code := Tryz.f77.body.getD .skip
theorem spec77 (p q : Pt) (hF : Fresh S) : CC Tryz.prog KK 77 [p.v, q.v] S (fun v S' => Keep S S' ∧ v = tupV [.int .i64 (kdE p q).1, .int .i64 (kdE p q).2]) := by
 refine cc_enter (c := cd77) (n := 16) Tryz.func77 rfl rfl rfl (by kernel_rfl) rfl rfl ?_
 have hl := Hold.start S
 refine zg ?_; refine re_boxL hl rfl rfl rfl rfl rfl rfl ?_; intro B2 S2 hl; refine re_boxL hl rfl rfl rfl rfl rfl rfl ?_; intro B3 S3 hl; refine zg ?_
 refine zc hl rfl (spec105 p q) ?_; rintro v S1 hk1 rfl hl
 refine zg ?_
 constructor <;> intro h11
 ·
  refine zg ?_
  exact (z2 rfl rfl ⟨hl.keep, by rw [kdf_1 h11] <;> rfl⟩)
 ·
  have hpq := fstP2 (by simpa using h11 : fstP [p, q] = 0)
  refine zg ?_
  refine zc hl rfl (spec106 p q (hl.keep.3 hF) hpq.1 hpq.2) ?_; rintro v S1 hk1 rfl hl
  refine zg ?_
  refine y2 rfl rfl ⟨hl.keep, by rw [kdf_2 hpq.1 hpq.2] <;> rfl⟩
end Go.Proofs.YtgiibikieblicaaGreatDoor
namespace Go.Proofs.YtgiibikieblicaaGreatDoor
open Go.Cm Go
set_option maxRecDepth 100000
variable {S : St}
theorem bsB_self (x : Pt) : bsB x x = false := by unfold bsB; simp
theorem bs_first {C : List Pt} (h : 0 < C.length) : bsG C (C.drop 1) 1 0 = bsE C := by
 obtain ⟨x, hx⟩ := nth_some h
 have := bsG_no (C := C) (i := 0) (b := 0) hx hx (bsB_self x)
 rw [List.drop_zero] at this
 exact this.symm
theorem clI_skip {low x : Pt} {a : Nat} {C : List Pt} : ∀ (n b : Nat), b + n = a + 1 → clI low x a (C.drop b) b = clI low x a (C.drop (a + 1)) (a + 1)
 | 0, b, h => by rw [show b = a + 1 by omega]
 | n + 1, b, h => by
  rw [← clI_skip n (b + 1) (by omega)]
  by_cases hb : b < C.length
  ·obtain ⟨y, hy⟩ := nth_some hb
   rw [drop_nth' hy, clI_1 (by simp; omega)]
  ·rw [List.drop_eq_nil_of_le (by omega), List.drop_eq_nil_of_le (by omega)]; rfl
noncomputable def cd111 : Code := Tryz.f111.body.getD .skip
theorem spec111 (a : Option Addr) (cap : Nat) (C : List Pt) (hF : Fresh S) (h0 : 0 < C.length) (hn : C.length ≤ 1000) (hv : Pts S (.slice a C.length cap) C) : CC Tryz.prog KK 111 [.slice a C.length cap] S (fun v S' => Keep S S' ∧ v = .int .i64 (bsE C : Nat)) := by
 refine cc_enter (c := cd111) (n := 50) Tryz.func111 rfl rfl rfl (by kernel_rfl) rfl rfl ?_
 have hl := Hold.start S
 iterate 2 refine zS ?_
 refine xp_seq rfl ?_; refine zS ?_; refine xp_block rfl ?_
 -- LOOP
 refine xe_sub (L' := [(4, .int .i64 1), (3, .int .i64 0), (2, .int .i64 0), (0, .slice a C.length cap)]) ⟨rfl, rfl, rfl, rfl, trivial⟩ ?_
 refine xp_loop rfl (fun m Le S' => ∃ i k : Nat, i ≤ C.length ∧ m = C.length - i ∧ k < C.length ∧ SubE [(4, .int .i64 (i : Int)), (3, .int .i64 (k : Int)), (2, .int .i64 0), (0, .slice a C.length cap)] Le ∧ bsG C (C.drop i) i k = bsE C ∧ HoldG S [S] S' [] []) ?_ (m := C.length - 1) ⟨1, 0, h0, rfl, h0, ⟨rfl, rfl, rfl, rfl, trivial⟩, bs_first h0, hl⟩
 clear hl; rintro m Le S' ⟨i, k, hi, rfl, hk2, hsub, hin, hl⟩; refine xe_sub hsub ?_
 refine zg ?_
 constructor <;> intro h8
 ·
  have hlt : i < C.length := by have := of_decide_eq_true h8; omega
  obtain ⟨x, hx⟩ := nth_some hlt
  obtain ⟨y, hy⟩ := nth_some hk2
  obtain ⟨b1, o1, cs1, ha, _, hrow, htk⟩ := hv.elem hx
  obtain ⟨b2, o2, cs2, ha2, _, hrow2, htk2⟩ := hv.elem hy
  refine xp_skip rfl ?_; refine xp_seq rfl ?_; refine xp_block rfl ?_; refine xp_seq rfl (xe_toE hl 47 (.bool (bsB x y)) ?_ rfl ?_)
  ·
   refine xp_draw (idx := [0, 1, 2, 3, 5, 6, 7, 8, 4, 9, 10, 11, 12, 13, 14, 15, 17, 18, 19, 20, 16, 21, 22, 23, 24, 25, 26, 27, 29, 30, 31, 32, 28, 33, 34, 35, 36]) rfl (by kernel_rfl) (by kernel_rfl) ?_; refine zg ?_
   refine zp hl rfl (spec124 x (hl.keep.3 hF)) ?_; rintro v S1 hk1 rfl hl; refine ⟨zt, ?_⟩
   refine zp hl rfl (spec124 y (hl.keep.3 hF)) ?_; rintro v S1 hk1 rfl hl; refine ⟨zt, ?_⟩
   refine zg ?_; refine rp_bool (d := 22) rfl (fun h22 => ?_) (fun h22 => ?_)
   ·
    refine zg ?_
    exact ⟨rfl, bl (by unfold bsB; rw [h22]; rfl), sB, hl⟩
   ·
    refine zg ?_
    refine zp hl rfl (spec124 x (hl.keep.3 hF)) ?_; rintro v S1 hk1 rfl hl; refine ⟨zt, ?_⟩
    refine zp hl rfl (spec124 y (hl.keep.3 hF)) ?_; rintro v S1 hk1 rfl hl; refine ⟨zt, ?_⟩
    refine zg ?_; refine rp_bool (d := 34) rfl (fun h34 => ?_) (fun h34 => ?_)
    ·
     refine zg ?_
     refine zp hl rfl (spec123 x) ?_; rintro v S1 hk1 rfl hl; refine ⟨zt, ?_⟩
     refine zp hl rfl (spec123 y) ?_; rintro v S1 hk1 rfl hl; refine ⟨zt, ?_⟩
     refine zg ?_
     exact ⟨rfl, bl (by unfold bsB; rw [h22, h34]; rfl), sB, hl⟩
    ·
     refine zg ?_
     exact ⟨rfl, bl (by unfold bsB; rw [h22, h34]; rfl), sB, hl⟩
  intro S1 hl
  refine zg ?_
  constructor <;> intro h47
  ·
   refine zg ?_
   exact ⟨C.length - (i + 1), by omega, i + 1, i, by omega, rfl, hlt, ⟨rfl, rfl, rfl, rfl, trivial⟩, by rw [← bsG_yes hx hy h47]; exact hin, hl⟩
  ·
   refine zg ?_
   exact ⟨C.length - (i + 1), by omega, i + 1, k, by omega, rfl, hk2, ⟨rfl, rfl, rfl, rfl, trivial⟩, by rw [← bsG_no hx hy h47]; exact hin, hl⟩
 ·
  refine zg ?_
  refine y1 rfl ⟨hl.keep, congrArg (fun n : Nat => Value.int .i64 n) (by rw [← hin, List.drop_eq_nil_of_le (by have := of_decide_eq_false h8; omega)]; rfl)⟩
end Go.Proofs.YtgiibikieblicaaGreatDoor
namespace Go.Proofs.YtgiibikieblicaaGreatDoor
open Go.Cm Go
set_option maxRecDepth 100000
variable {S : St}
theorem clr_end {S S' : St} {C : List Pt} {av : Option Addr} {O : List Cl} (h : O = clO ((nth C (bsE C)).getD p0) C C 0) (hg : Grow S S' (gOf 106 3 Cl.cells (.slice av O.length O.length) O)) : ∃ bv, (tupV [.slice av O.length O.length] : Value) = .slice bv (clE C).length (clE C).length ∧ Grow S S' (gOf 106 3 Cl.cells (tupV [.slice av O.length O.length]) (clE C)) := by
 have he : clE C = O := h.symm
 rw [he]
 exact ⟨av, rfl, hg⟩
noncomputable def cd81 : Code := Tryz.f81.body.getD .skip
theorem spec81 (a : Option Addr) (cap : Nat) (C : List Pt) (hF : Fresh S) (hn : C.length ≤ 8) (hp : ∀ x, x ∈ C → pB x = false) (hv : Pts S (.slice a C.length cap) C) : CC Tryz.prog KK 81 [.slice a C.length cap] S (fun v S' => Keep S S' ∧ ∃ av, v = .slice av (clE C).length (clE C).length ∧ Grow S S' (gOf 106 3 Cl.cells v (clE C))) := by
 refine cc_enter (c := cd81) (n := 67) Tryz.func81 rfl rfl rfl (by kernel_rfl) rfl rfl ?_
 have hl := Hold.start S
 iterate 2 refine zS ?_
 refine xp_seq rfl ?_; refine zS ?_; refine xp_block rfl ?_
 -- LOOP
 have hl := hl.addG (g := gOf 106 3 Cl.cells (.slice none 0 0) []) (.inl ⟨rfl, rfl, rfl⟩)
 refine xe_sub (L' := [(4, .int .i64 0), (3, .slice none ([] : List Cl).length ([] : List Cl).length), (2, .slice none 0 0), (0, .slice a C.length cap)]) ⟨rfl, rfl, rfl, rfl, trivial⟩ ?_
 refine xp_loop rfl (fun m Le S' => ∃ (i : Nat) (av : Option Addr) (O : List Cl), i ≤ C.length ∧ m = C.length - i ∧ O.length ≤ 8 * i ∧ O ++ clO ((nth C (bsE C)).getD p0) C (C.drop i) i = clO ((nth C (bsE C)).getD p0) C C 0 ∧ SubE [(4, .int .i64 (i : Int)), (3, .slice av O.length O.length), (2, .slice none 0 0), (0, .slice a C.length cap)] Le ∧ HoldG S [S] S' [] [gOf 106 3 Cl.cells (.slice av O.length O.length) O]) ?_ (m := C.length) ⟨0, none, [], by omega, by omega, Nat.le_refl _, rfl, ⟨rfl, rfl, rfl, rfl, trivial⟩, hl⟩
 clear hl; rintro m Le S' ⟨i, av, O, hi, rfl, hO, hpr, hsub, hl⟩; refine xe_sub hsub ?_
 refine zg ?_
 constructor <;> intro h11
 ·
  have hlt : i < C.length := by have := of_decide_eq_true h11; omega
  have hbl := bsE_lt (C := C) (by omega)
  obtain ⟨low, hlow⟩ := nth_some hbl
  have hlw : (nth C (bsE C)).getD p0 = low := by rw [hlow]; rfl
  rw [hlw] at hpr
  obtain ⟨b0, o0, cs0, ha0, _, hrow0, htk0⟩ := hv.elem hlow
  obtain ⟨x, hx⟩ := nth_some hlt
  obtain ⟨b1, o1, cs1, ha1, _, hrow1, htk1⟩ := hv.elem hx
  have hpx := hp x (nth_mem hx)
  rw [drop_nth' hx, clO_step] at hpr
  have hsk := clI_skip (low := low) (x := x) (a := i) (C := C) (i + 1) 0 (by omega)
  rw [List.drop_zero] at hsk
  refine xp_skip rfl ?_; refine xp_seq rfl ?_; refine xp_block rfl ?_; refine zS ?_; refine xp_block rfl ?_
  -- LOOP
  refine xe_sub (L' := [(5, .int .i64 ((i : Int) + 1)), (4, .int .i64 (i : Int)), (3, .slice av O.length O.length), (2, .slice none 0 0), (0, .slice a C.length cap)]) ⟨rfl, rfl, rfl, rfl, rfl, trivial⟩ ?_
  refine xp_loop rfl (fun m Le S' => ∃ (k : Nat) (av : Option Addr) (O2 : List Cl), i + 1 ≤ k ∧ k ≤ C.length ∧ m = C.length - k ∧ O2.length ≤ 8 * i + k ∧ O2 ++ clI low x i (C.drop k) k = O ++ clI low x i C 0 ∧ SubE [(5, .int .i64 (k : Int)), (4, .int .i64 (i : Int)), (3, .slice av O2.length O2.length), (2, .slice none 0 0), (0, .slice a C.length cap)] Le ∧ HoldG S [S] S' [] [gOf 106 3 Cl.cells (.slice av O2.length O2.length) O2]) ?_ (m := C.length - (i + 1)) ⟨i + 1, av, O, Nat.le_refl _, hlt, rfl, by show O.length ≤ 8 * i + (i + 1); omega, by rw [hsk], ⟨rfl, rfl, rfl, rfl, rfl, trivial⟩, hl⟩
  clear hl; rintro m Le S' ⟨k, av2, O2, hik, hk, rfl, hO2, hpr2, hsub2, hl⟩; refine xe_sub hsub2 ?_
  refine zg ?_
  constructor <;> intro h19
  ·
   have hlt2 : k < C.length := by have := of_decide_eq_true h19; omega
   obtain ⟨y, hy⟩ := nth_some hlt2
   obtain ⟨b2, o2, cs2, ha2, _, hrow2, htk2⟩ := hv.elem hy
   have hpy := hp y (nth_mem hy)
   rw [drop_nth' hy] at hpr2
   have hki : decide ((k : Int) ≤ (i : Int)) = false := decide_eq_false (by omega)
   refine zg ?_; refine xp_draw (idx := [0, 1, 2, 3, 4, 5, 6, 7, 8, 9]) rfl (by kernel_rfl) (by kernel_rfl) ?_; refine zg ?_
   refine zp hl rfl (spec106 x y (hl.keep.3 hF) hpx hpy) ?_; rintro v S1 hk1 rfl hl; refine ⟨zt, ?_⟩
   refine zg ?_; refine xp_draw (idx := [0, 1, 2, 3, 4, 5, 6, 7, 9, 10, 8, 11, 12, 13, 14, 15]) rfl (by kernel_rfl) (by kernel_rfl) ?_; refine zg ?_
   refine zp hl rfl (spec110 x y (hl.keep.3 hF)) ?_; rintro v S1 hk1 rfl hl; refine ⟨zt, ?_⟩
   refine zp hl rfl (spec111 a cap C (hl.keep.3 hF) (by omega) (by omega) (hv.move (hl.since 0 rfl))) ?_; rintro v S1 hk1 rfl hl; refine ⟨zt, ?_⟩
   refine zA ?_; refine xp_seq rfl (xe_toE hl 58 (.bool (clB low x y)) ?_ rfl ?_)
   ·
    refine zg ?_; refine re_bool (d := 48) rfl (fun h48 => ?_) (fun h48 => ?_)
    ·
     refine zg ?_
     exact ⟨rfl, bl (by unfold clB; rw [h48]; rfl), sB, hl⟩
    ·
     refine zg ?_; refine re_bool (d := 50) rfl (fun h50 => ?_) (fun h50 => ?_)
     ·
      refine zg ?_; refine re_bool (d := 53) rfl (fun h53 => ?_) (fun h53 => ?_)
      ·
       refine zg ?_
       exact ⟨rfl, bl (by unfold clB; rw [h48, h50, h53]; rfl), sB, hl⟩
      ·
       refine zg ?_
       exact ⟨rfl, bl (by unfold clB; rw [h48, h50, h53]; cases ((kdE x y).1 == 4) <;> rfl), sB, hl⟩
     ·
      refine zg ?_
      exact ⟨rfl, bl (by unfold clB; rw [h48, h50]; cases ((kdE x y).1 == 3) <;> cases ((kdE x y).1 == 4) <;> rfl), sB, hl⟩
   intro S1 hl
   refine zg ?_
   constructor <;> intro h58
   ·
    refine zg ?_; refine rr rfl (rd_build rfl rfl (v := aggL [.int .i64 i, .int .i64 k, .int .i64 (kdE x y).1]) (by rfl)) ?_; refine re_buildSliceR hl rfl rfl rfl rfl rfl Tryz.underlying101 rfl (c := [.int .i64 i, .int .i64 k, .int .i64 (kdE x y).1]) (by kernel_rfl) ?_; intro B64 S1 hr64 hl; refine re_appendG hl 0 rfl rfl (by simp) rfl rfl rfl rfl rfl rfl rfl Tryz.underlying101 Tryz.underlying101 rfl rfl (by kernel_rfl) (src_row (new := [.int .i64 i, .int .i64 k, .int .i64 (kdE x y).1]) hr64 rfl) rfl rfl (by kernel_rfl) (by show O2.length + 1 ≤ maxNeed; unfold maxNeed; omega) ?_; intro v65 S1 hl
    obtain ⟨av3, rfl⟩ : ∃ av3, v65 = .slice av3 (O2.length + 1) (O2.length + 1) := Grow.is (hl.gr _ (List.mem_cons_self ..))
    refine zg ?_
    refine ⟨C.length - (k + 1), by omega, k + 1, av3, (O2 ++ [⟨(i : Int), (k : Int), (kdE x y).1⟩]), by omega, by omega, rfl, by rw [List.length_append]; show O2.length + 1 ≤ _; omega, by rw [← hpr2, clI_2 hki h58, List.append_assoc]; rfl, ⟨rfl, rfl, congrArg some (congrArg (fun n => Value.slice av3 n n) (by rw [List.length_append]; rfl)), rfl, rfl, trivial⟩, ?_⟩
    rw [gOf_push]
    exact hl
   ·
    refine zg ?_
    exact ⟨C.length - (k + 1), by omega, k + 1, av2, O2, by omega, by omega, rfl, by omega, by rw [← hpr2, clI_3 hki h58], ⟨rfl, rfl, rfl, rfl, rfl, trivial⟩, hl⟩
  ·
   refine zg ?_
   have he : O2 = O ++ clI low x i C 0 := by rw [← hpr2, List.drop_eq_nil_of_le (by have := of_decide_eq_false h19; omega)]; exact (List.append_nil _).symm
   exact ⟨C.length - (i + 1), by omega, i + 1, av2, O2, by omega, rfl, by omega, by rw [he, List.append_assoc, hlw]; exact hpr, ⟨rfl, rfl, rfl, rfl, trivial⟩, hl⟩
 ·
  refine zg ?_
  refine y1 rfl ⟨hl.keep, (clr_end (by rw [← hpr, List.drop_eq_nil_of_le (by have := of_decide_eq_false h11; omega)]; exact (List.append_nil _).symm) (hl.gr _ (List.mem_cons_self ..)))⟩
end Go.Proofs.YtgiibikieblicaaGreatDoor
