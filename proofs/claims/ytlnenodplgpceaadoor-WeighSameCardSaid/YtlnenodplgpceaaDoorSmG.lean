/-
  The plain law, 6. From contracts to calls. A rest as a further voice, and moving all voices by an octave, do not change the weight: WeighSame returns true for all lists of numbers and all numbers.
-/
import Derived.Test.YtlnenodplgpceaaDoorSmF
import Derived.Test.YtlnenodplgpceaaDoorWs4
import Derived.Test.YtlnenodplgpceaaDoorSy2
import Derived.Test.YtlnenodplgpceaaDoorWs3
import Derived.Test.YtlnenodplgpceaaDoorCards
import Derived.Test.YtlnenodplgpceaaDoorTie
import Derived.WalkKit
import Derived.ProofKit
import Derived.OpenShut
import Derived.Deep.DeepHandedRow
namespace Go.Proofs.YtlnenodplgpceaaDoor
open Go.Cm Go
set_option maxRecDepth 100000
variable {S : St}
def duD : Bool := (List.range 289).all fun s => duL.all fun d => decide (addE (sx s) d.1 = (sx (s + d.2), 0)) && decide ((d.1.n * 6 / d.1.d).toNat = d.2) && !decide (d.1.n = 0)
theorem duD_ok : duD = true := by decide +kernel
theorem du_more {s : Nat} (hs : s < 289) {n : Int} (h0 : 0 ≤ n) : addE (sx s) (duX n).1 = (sx (s + (duX n).2), 0) ∧ ((duX n).1.n * 6 / (duX n).1.d).toNat = (duX n).2 ∧ (duX n).1.n ≠ 0 := by
 have h := duD_ok
 unfold duD at h
 rw [List.all_eq_true] at h
 have h := h s (List.mem_range.2 hs)
 rw [List.all_eq_true] at h
 have hb := (vo_bd h0).1
 obtain ⟨x, hx⟩ := nth_some (l := duL) (i := ((n.tdiv 63).tmod 9).toNat) (by show _ < 9; omega)
 have e : duX n = x := by unfold duX; rw [hx]; rfl
 have h := h x (nth_mem hx)
 rw [e]
 simpa [and_assoc] using h
theorem pB_of {s o a : Int} (h1 : 0 ≤ s ∧ s ≤ 6) (h2 : 0 ≤ o ∧ o ≤ 8) (h3 : -1 ≤ a ∧ a ≤ 1) : pB ⟨s, o, a⟩ = false := by
 show (((((decide (s < 0) || decide (s > 6)) || decide (o < 0)) || decide (o > 8)) || decide (a < -1)) || decide (a > 1)) = false
 rw [decide_eq_false (by omega), decide_eq_false (by omega), decide_eq_false (by omega), decide_eq_false (by omega), decide_eq_false (by omega), decide_eq_false (by omega)]
 rfl
theorem vo_pv {n k : Int} (hn : 0 ≤ n) (hk : -1 ≤ k ∧ k ≤ 1) : Pv k ⟨n.tmod 7, 3 + (n.tdiv 7).tmod 3, (n.tdiv 21).tmod 3 - 1⟩ := by
 have a1 := rem_bd (a := n) (b := 7) (by omega) hn
 have a2 := rem_bd (a := n.tdiv 7) (b := 3) (by omega) (quo_bd (b := 7) (by omega) hn).1
 have a3 := rem_bd (a := n.tdiv 21) (b := 3) (by omega) (quo_bd (b := 21) (by omega) hn).1
 refine ⟨pB_of (by omega) (by omega) (by omega), ?_⟩
 show pB ⟨n.tmod 7, 3 + (n.tdiv 7).tmod 3 + k, (n.tdiv 21).tmod 3 - 1⟩ = false
 exact pB_of (by omega) (by omega) (by omega)
theorem vo_one {i s : Nat} {n : Int} (hs : s < 289) (hn : 0 ≤ n) : oneE (voEv i (sx s) n) = 0 := by
 have hf := du_fact hs hn
 have hm := du_more hs hn
 have hp : 0 ≤ (n.tdiv 567).tmod 2 := (rem_bd (by omega) (quo_bd (b := 567) (by omega) hn).1).1
 refine one_5 (by rw [vo_at, vo_dur]; exact hf.2.1) (by rw [vo_dur]; simpa using hm.2.2) ?_ ?_
 ·cases h : (n.tdiv 567 == 6) with
  | true => rw [vo_1 h]; rfl
  | false => rw [vo_2 h, mid_3 rfl, pE_2 (vo_pv (k := 0) hn (by omega)).1]
 ·cases h : (n.tdiv 567 == 6) with
  | true =>
   rw [vo_1 h]
   show (decide ((i : Int) < 0) || decide ((n.tdiv 567).tmod 2 < 0)) = false
   rw [decide_eq_false (by omega), decide_eq_false (by omega)]; rfl
  | false =>
   rw [vo_2 h]
   show (decide ((i : Int) < 0) || decide ((n.tdiv 567).tmod 2 < 0)) = false
   rw [decide_eq_false (by omega), decide_eq_false (by omega)]; rfl
theorem ch_tv : ∀ {V : List Ev} {i s : Nat}, ChV V i s → s + 36 * V.length ≤ 288 → TV V s ∧ ∀ k : Int, (-1 ≤ k ∧ k ≤ 1) → VP k V
 | [], _, _, _, _ => ⟨trivial, fun _ _ x hx => (List.not_mem_nil hx).elim⟩
 | x :: r, i, s, ⟨n, hn, hx, hr⟩, hs => by
  rw [List.length_cons] at hs
  have hf := du_fact (s := s) (by omega) hn.1
  have hm := du_more (s := s) (by omega) hn.1
  have hd : dU x = (duX n).2 := by unfold dU; rw [hx, vo_dur]; exact hm.2.1
  obtain ⟨i1, i2⟩ := ch_tv hr (by omega)
  refine ⟨⟨⟨by rw [hx, vo_at], by rw [hx]; exact vo_one (by omega) hn.1, by rw [hd]; exact hf.2.2.2, by rw [hd]; omega, by rw [hd, hx, vo_dur]; exact hm.1⟩, by rw [hd]; exact i1⟩, fun k hk y hy hrest => ?_⟩
  rcases List.mem_cons.1 hy with rfl | hy
  ·rw [hx] at hrest ⊢
   cases h : (n.tdiv 567 == 6) with
   | true => rw [vo_1 h] at hrest; cases hrest
   | false => rw [vo_2 h]; exact vo_pv hn.1 hk
  ·exact i2 k hk y hy hrest
theorem vo_tv (X : List Int) : TV (voE X) 0 ∧ (∀ k : Int, (-1 ≤ k ∧ k ≤ 1) → VP k (voE X)) ∧ (voE X).length ≤ 8 := by
 have hl : (voE X).length ≤ 8 := voG_len X 8 0 0
 have h := ch_tv (voG_ch X 8 0 0) (by have : (voG X 8 0 0).length ≤ 8 := hl; omega)
 exact ⟨h.1, h.2, hl⟩
theorem mv_oc {k : Int} {p : Pt} (hk : -1 ≤ k ∧ k ≤ 1) (h : Pv k p) : mvE p (7 * k) = (oc k p, 0) := by
 have hn := num_bd h.2
 rw [numI_oc] at hn
 have hb := pB_ok h.1
 have hb2 := pB_ok h.2
 have ho : 0 ≤ p.o + k := hb2.2.2.1
 have ht := tdiv7 (o := p.o + k) (s := p.s) ho hb.1 hb.2.1
 rw [mv_3 h.1 (by rw [decide_eq_false (by omega), decide_eq_false (by omega)]; rfl), tp_2 (by unfold tpB; rw [decide_eq_false (by omega), decide_eq_false (by omega), decide_eq_false (by omega), decide_eq_false (by omega)]; rfl)]
 rw [show numI p + 7 * k = 7 * (p.o + k) + p.s by unfold numI; omega, ht.1, ht.2]
 rfl
theorem chP_oe {k : Int} {x : Ev} (hk : -1 ≤ k ∧ k ≤ 1) (h : x.rest = false → Pv k x.p) : chP x (7 * k) = (oe k x, 0) := by
 cases hr : x.rest with
 | true => rw [chP_1 hr, oe_1 hr]
 | false => rw [chP_2 hr, oe_2 hr, mv_oc hk (h hr)]
theorem set_midE {α : Type} : ∀ {p : List α} {x y : α} {r : List α}, (p ++ x :: r).set p.length y = p ++ y :: r
 | [], _, _, _ => rfl
 | q :: p, x, y, r => congrArg (q :: ·) (set_midE (p := p))
theorem nth_midE {α : Type} : ∀ {p : List α} {x : α} {r : List α}, nth (p ++ x :: r) p.length = some x
 | [], _, _ => rfl
 | _ :: p, _, _ => nth_midE (p := p)
theorem alN_oe {k : Int} (hk : -1 ≤ k ∧ k ≤ 1) : ∀ (r p : List Ev), VP k r → alN (7 * k) r.length (p ++ r) p.length = (p ++ r.map (oe k), 0)
 | [], p, _ => by rw [List.append_nil]; show (p, (0 : Int)) = _; rw [List.map_nil, List.append_nil]
 | x :: r, p, h => by
  have hd : dI (p ++ x :: r) p.length = x := dI_at nth_midE
  have hc := chP_oe hk (h x (List.mem_cons_self ..))
  rw [List.length_cons, alN_go (by rw [hd, hc]; rfl), hd, hc]
  show alN (7 * k) r.length ((p ++ x :: r).set p.length (oe k x)) (p.length + 1) = _
  rw [set_midE]
  have ih := alN_oe hk r (p ++ [oe k x]) fun y hy => h y (List.mem_cons_of_mem _ hy)
  rw [List.length_append, List.append_assoc, List.append_assoc] at ih
  exact ih
theorem chN_tv : ∀ (r p : List Ev) (s : Nat), TV r s → chN r.length (p ++ r) p.length (sx s) = (p ++ r, 0)
 | [], p, _, _ => rfl
 | x :: r, p, s, ⟨⟨h1, _, _, _, h5⟩, hr⟩ => by
  have hd : dI (p ++ x :: r) p.length = x := dI_at nth_midE
  rw [List.length_cons, chN_go (by rw [hd, h5]; rfl), hd, h5]
  have he : x.put (sx s) = x := by unfold Ev.put; rw [← h1]
  rw [he, set_midE]
  have ih := chN_tv r (p ++ [x]) (s + dU x) hr
  rw [List.length_append, List.append_assoc] at ih
  exact ih
theorem mv_tv {k : Int} {C : List Ev} (hk : -1 ≤ k ∧ k ≤ 1) (h : TV C 0) (hn : C.length ≤ 2000) (hp : VP k C) : mvVE C (7 * k) = (C.map (oe k), 0) := by
 rw [mvV_2 (by rw [ev_tv h hn]; rfl), all_2 (D := C.map (oe k)) (alN_oe hk C [] hp)]
 unfold chnE
 rw [← sx_zero]
 exact chN_tv (C.map (oe k)) [] 0 (tv_oe h hp).1
theorem mk_ok {n d : Int} (h : (mkE n d).2 = 0) : mkE n d = (tT n d, 0) := by
 cases h1 : (decide (n < 0) || decide (d < 0)) with
 | true => rw [mkE_1 h1] at h; cases h
 | false =>
  cases h2 : (d == 0) with
  | true => rw [mkE_2 h1 h2] at h; cases h
  | false =>
   cases h3 : (decide (n.tdiv (gI n d) > 1099511627776) || decide (d.tdiv (gI n d) > 1048576)) with
   | true => rw [mkE_3 h1 h2 h3] at h; cases h
   | false => rw [mkE_4 h1 h2 h3]; rfl
theorem pl_add {a b c : Ti} (h : addE a b = (c, 0)) : plT a b = c := by
 cases h1 : (firstE [a, b] != 0) with
 | true =>
  rw [addE_1 h1] at h
  injection h with _ h2
  rw [h2] at h1; cases h1
 | false =>
  rw [addE_2 h1] at h
  have h2 := mk_ok (by rw [h])
  rw [h2] at h
  exact (Prod.mk.inj h).1
theorem eo_tv {C : List Ev} (h : TV C 0) : eoT C = sx (tvE C 0) := by
 cases C with
 | nil => exact sx_zero.symm
 | cons x r =>
  obtain ⟨z, s2, h1, h2, h3⟩ := last_tv h (by simp)
  rw [eo_2 h1, h2]
  exact pl_add h3
theorem eM_sx {a b : Nat} (ha : a ≤ 288) (hb : b ≤ 288) : eM (sx a) (sx b) = sx (max a b) := by
 by_cases h : a < b
 ·rw [eM_1 (decide_eq_true (sx_lt ha hb h)), Nat.max_eq_right (Nat.le_of_lt h)]
 ·rw [eM_2 (decide_eq_false ?_), Nat.max_eq_left (by omega)]
  rcases Nat.lt_or_ge b a with k | k
  ·have := sx_lt hb ha k; omega
  ·obtain rfl : a = b := by omega
   omega
def sxA : Bool := (List.range 289).all fun s => decide (addE (sx 0) (sx s) = (sx s, 0)) && (decide ((sx s).n > 0) == decide (0 < s)) && decide (((sx s).n * 6 / (sx s).d).toNat = s)
theorem sxA_ok : sxA = true := by decide +kernel
theorem sx_more {s : Nat} (hs : s ≤ 288) : addE (sx 0) (sx s) = (sx s, 0) ∧ decide ((sx s).n > 0) = decide (0 < s) ∧ ((sx s).n * 6 / (sx s).d).toNat = s := by
 have h := sxA_ok
 unfold sxA at h
 rw [List.all_eq_true] at h
 have h := h s (List.mem_range.2 (by omega))
 rw [Bool.and_eq_true, Bool.and_eq_true] at h
 exact ⟨of_decide_eq_true h.1.1, by simpa only [beq_iff_eq] using h.1.2, of_decide_eq_true h.2⟩
theorem rest_tv {e : Nat} (h0 : 0 < e) (he : e ≤ 288) : TV [reE (sx e)] 0 ∧ moV [reE (sx e)] = [0, e] ∧ tvE [reE (sx e)] 0 = e := by
 obtain ⟨h1, h2, h3⟩ := sx_more he
 have hd : dU (reE (sx e)) = e := h3
 have hn : (sx e).n ≠ 0 := by
  rw [decide_eq_true h0] at h2
  have := of_decide_eq_true h2
  omega
 have ht : tvE [reE (sx e)] 0 = e := by show 0 + dU (reE (sx e)) = e; rw [hd, Nat.zero_add]
 refine ⟨⟨⟨sx_zero.symm, ?_, by rw [hd]; exact h0, by rw [hd]; omega, by rw [hd, Nat.zero_add]; exact h1⟩, trivial⟩, ?_, ht⟩
 ·refine one_5 ?_ ?_ (mid_2 rfl (by show (!decide (p0 = p0)) = false; decide)) rfl
  ·show firstE [zT, sx e] = 0
   rw [← sx_zero]
   exact sx_first (by omega) he
  ·show ((sx e).n == 0) = false
   simpa using hn
 ·rw [moV_cons]
  show 0 :: ([] ++ [0 + dU (reE (sx e))]) = _
  rw [hd, Nat.zero_add]; rfl
theorem tv_pos {C : List Ev} (h : TV C 0) (h0 : tvE C 0 = 0) : C = [] := by
 cases C with
 | nil => rfl
 | cons x r =>
  obtain ⟨⟨_, _, h3, h4, _⟩, hr⟩ := h
  have := (tvE_le hr h4).1
  have h0 : tvE r (0 + dU x) = 0 := h0
  omega
theorem st_k (n : Int) : ∃ k : Int, (-1 ≤ k ∧ k ≤ 1) ∧ stN n = 7 * k := by
 unfold stN
 cases modE n 2 == 0 with
 | true => exact ⟨1, by omega, rfl⟩
 | false => exact ⟨-1, by omega, rfl⟩
theorem ws_voices {V1 V2 : List Ev} (n : Int) (h1 : TV V1 0) (h2 : TV V2 0) (n1 : V1.length ≤ 8) (n2 : V2.length ≤ 8) (p1 : ∀ k : Int, (-1 ≤ k ∧ k ≤ 1) → VP k V1) (p2 : ∀ k : Int, (-1 ≤ k ∧ k ≤ 1) → VP k V2) : wsG V1 V2 n = true := by
 obtain ⟨k, hk, hst⟩ := st_k n
 obtain ⟨m, hm, ha, hs, hmem⟩ := mo_two h1 h2 (by omega) (by omega)
 have ev2 : ∀ v, v ∈ [V1, V2] → evE v = (0, 0) := fun v hv => by
  rcases List.mem_cons.1 hv with rfl | hv
  ·exact ev_tv h1 (by omega)
  ·rw [List.mem_singleton.1 hv]; exact ev_tv h2 (by omega)
 have hsl : slsE [V1, V2] = ((slE [V1, V2]).1, 0) := sls_tv (by show 2 ≤ 8; omega) ev2 hm ha hs
 obtain ⟨L, hL⟩ : ∃ L, L = (slE [V1, V2]).1 := ⟨_, rfl⟩
 rw [← hL] at hsl
 have hL2 : L = (slsE [V1, V2]).1 := by rw [hsl]
 -- moved by octaves
 have hsl3 : slsE [V1.map (oe k), V2.map (oe k)] = (L, 0) := by
  have e := sls_oe h1 h2 (by omega) (by omega) (p1 k hk) (p2 k hk)
  have e2 : (slE [V1, V2]).2 = 0 := by
   unfold slE
   rw [hm]
   exact slG_no _ ha hs
  rw [sls_3 (V := [V1.map (oe k), V2.map (oe k)]) ?_ (by rw [e, e2]), e, ← hL]
  rw [ac_2 (decide_eq_false (by show ¬ ((2 : Nat) : Int) > 8; omega)), ac_tv fun v hv => ?_]
  ·rfl
  ·rcases List.mem_cons.1 hv with rfl | hv
   ·exact ev_tv (tv_oe h1 (p1 k hk)).1 (by rw [List.length_map]; omega)
   ·rw [List.mem_singleton.1 hv]; exact ev_tv (tv_oe h2 (p2 k hk)).1 (by rw [List.length_map]; omega)
 obtain ⟨q3, q0⟩ := (rel_oct hL2 (p1 k hk) (p2 k hk)).of hsl hsl3
 -- with a rest
 have q2 : ofE [V1, V2, reV (eM (eoT V1) (eoT V2))] = ofE [V1, V2] := by
  rw [eo_tv h1, eo_tv h2, eM_sx (tvE_le h1 (by omega)).2 (tvE_le h2 (by omega)).2]
  have he : max (tvE V1 0) (tvE V2 0) ≤ 288 := Nat.max_le.2 ⟨(tvE_le h1 (by omega)).2, (tvE_le h2 (by omega)).2⟩
  obtain ⟨e, hee⟩ : ∃ e, e = max (tvE V1 0) (tvE V2 0) := ⟨_, rfl⟩
  rw [← hee] at he ⊢
  rcases Nat.eq_zero_or_pos e with h0 | h0
  ·have a1 : tvE V1 0 = 0 := by have := Nat.le_max_left (tvE V1 0) (tvE V2 0); omega
   have a2 : tvE V2 0 = 0 := by have := Nat.le_max_right (tvE V1 0) (tvE V2 0); omega
   obtain rfl := tv_pos h1 a1
   obtain rfl := tv_pos h2 a2
   subst h0
   decide +kernel
  ·rw [re_1 (by rw [(sx_more he).2.1]; exact decide_eq_true h0)]
   obtain ⟨rt, rm, re⟩ := rest_tv h0 he
   have hin : 0 ∈ m ∧ e ∈ m := by
    rcases Nat.le_total (tvE V1 0) (tvE V2 0) with hle | hle
    ·have e2 : e = tvE V2 0 := by rw [hee, Nat.max_eq_right hle]
     have hp : 0 < V2.length := by
      cases V2 with
      | nil => rw [e2] at h0; exact absurd h0 (Nat.lt_irrefl 0)
      | cons => simp
     have := moV_ends hp
     rw [← e2] at this
     exact ⟨(hmem 0).2 (.inr this.1), (hmem e).2 (.inr this.2)⟩
    ·have e2 : e = tvE V1 0 := by rw [hee, Nat.max_eq_left hle]
     have hp : 0 < V1.length := by
      cases V1 with
      | nil => rw [e2] at h0; exact absurd h0 (Nat.lt_irrefl 0)
      | cons => simp
     have := moV_ends hp
     rw [← e2] at this
     exact ⟨(hmem 0).2 (.inl this.1), (hmem e).2 (.inl this.2)⟩
   have hm3 : moE [V1, V2, [reE (sx e)]] = m.map sx := mo_three hm ha hs rt (by show 1 ≤ 2000; omega) fun x hx => by
    rw [rm] at hx
    rcases List.mem_cons.1 hx with rfl | hx
    ·exact hin.1
    ·rw [List.mem_singleton.1 hx]; exact hin.2
   have hle : ∀ x, x ∈ m → x ≤ e := fun x hx => by
    rcases (hmem x).1 hx with h | h
    ·have := moV_le h1 x h; have := Nat.le_max_left (tvE V1 0) (tvE V2 0); omega
    ·have := moV_le h2 x h; have := Nat.le_max_right (tvE V1 0) (tvE V2 0); omega
   have hE : endE [reE (sx e)] = (sx e, 0) := by rw [end_tv rt (by show 1 ≤ 2000; omega), re]
   have ev3 : ∀ v, v ∈ [V1, V2, [reE (sx e)]] → evE v = (0, 0) := fun v hv => by
    rcases List.mem_cons.1 hv with rfl | hv
    ·exact ev_tv h1 (by omega)
    ·rcases List.mem_cons.1 hv with rfl | hv
     ·exact ev_tv h2 (by omega)
     ·rw [List.mem_singleton.1 hv]; exact ev_tv rt (by show 1 ≤ 2000; omega)
   have hsl2 : slsE [V1, V2, [reE (sx e)]] = (L.map ad0, 0) := by
    rw [sls_tv (by show 3 ≤ 8; omega) ev3 hm3 ha hs, hL]
    unfold slE
    rw [hm3, hm]
    have := slG_rest (V1 := V1) (V2 := V2) he (show [reE (sx e)].length = 1 from rfl) hE m 0 0 ha hs hle
    exact congrArg (fun x => (x, (0 : Int))) this
   exact ((rel_rest rfl hL2 (p1 0 (by omega)) (p2 0 (by omega))).of hsl hsl2).1
 unfold wsG
 rw [q2, hst, mv_tv hk h1 (by omega) (p1 k hk), mv_tv hk h2 (by omega) (p2 k hk), q3, q0, decide_eq_true rfl]
 rfl
theorem ws_true (X Y : List Int) (n : Int) : wsG (voE X) (voE Y) n = true :=
 ws_voices n (vo_tv X).1 (vo_tv Y).1 (vo_tv X).2.2 (vo_tv Y).2.2 (vo_tv X).2.1 (vo_tv Y).2.1
end Go.Proofs.YtlnenodplgpceaaDoor
namespace Go.Proofs.YtlnenodplgpceaaDoor
open Go.Cm Go
set_option maxRecDepth 100000
variable {S : St}
theorem rep_int {S : St} {P : Program} {n : Nat} {t : TypeId} {k : IntKind} {c : List Value} (h : Rep P (n + 1) t S c) (hu : P.underlying t = some (.int k)) : ∃ m, c = [.int k m] := by
 unfold Rep at h
 rw [hu] at h
 obtain ⟨m, h, _⟩ := h
 exact ⟨m, h⟩
theorem nth_range {α : Type} (f : Nat → α) : ∀ (n k i : Nat), i < n → nth ((List.range' k n).map f) i = some (f (k + i))
 | n + 1, k, 0, _ => rfl
 | n + 1, k, i + 1, h => by
  show nth ((List.range' (k + 1) n).map f) i = _
  rw [nth_range f n (k + 1) i (by omega)]
  congr 2; omega
theorem rep_slice {S : St} {P : Program} {n z : Nat} {t e : TypeId} {c : List Value} (h : Rep P (n + 1) t S c) (hu : P.underlying t = some (.slice e)) (hz : P.cellsOf e = z) : ∃ v C, c = [v] ∧ SliceAt S e z v C ∧ ∀ x, x ∈ C → Rep P n e S x := by
 unfold Rep at h
 rw [hu] at h
 rcases h with h | ⟨b, o, k, h⟩ | ⟨b, len, cs, h1, h2, h3, h4, h5, h6⟩
 ·exact ⟨_, [], h, .inl ⟨rfl, .inl rfl⟩, fun x hx => (List.not_mem_nil hx).elim⟩
 ·exact ⟨_, [], h, .inl ⟨rfl, .inr ⟨b, o, k, rfl⟩⟩, fun x hx => (List.not_mem_nil hx).elim⟩
 ·refine ⟨_, (List.range' 0 len).map (fun i => (cs.drop (i * z)).take z), h1, .inr ⟨b, 0, len, cs, by simp, by simp, ⟨h2, _, _, h3⟩, fun k x hk => ?_⟩, fun x hx => ?_⟩
  ·have hlt : k < len := by have := nth_lt hk; simpa using this
   rw [nth_range _ _ _ _ hlt] at hk
   cases hk
   rw [dropN_eq, Nat.zero_add, Nat.zero_add, takeN_some]
   rw [List.length_drop, h4, hz]
   have : (k + 1) * z ≤ len * z := Nat.mul_le_mul_right z hlt
   rw [Nat.add_mul] at this
   omega
  ·obtain ⟨i, hi, rfl⟩ := List.mem_map.1 hx
   rw [List.mem_range'_1] at hi
   have := h6 i (by omega)
   rw [hz] at this
   exact this
theorem all_ints : ∀ {C : List (List Value)}, (∀ x, x ∈ C → ∃ m : Int, x = [.int .i64 m]) → ∃ L : List Int, C = L.map fun i => [Value.int .i64 i]
 | [], _ => ⟨[], rfl⟩
 | x :: C, h => by
  obtain ⟨s, e1⟩ := h x (List.mem_cons_self ..)
  obtain ⟨L, e2⟩ := all_ints (C := C) fun y hy => h y (List.mem_cons_of_mem _ hy)
  exact ⟨s :: L, by rw [e1, e2]; rfl⟩
theorem rep_ints {c : List Value} {n : Nat} (h : Rep Tryd.prog (n + 2) 22 S c) : ∃ (a : Option Addr) (cap : Nat) (L : List Int), c = [.slice a L.length cap] ∧ Ints S (.slice a L.length cap) L := by
 obtain ⟨v, C, e1, h1, hC⟩ := rep_slice h Tryd.underlying22 (z := 1) (by kernel_rfl)
 obtain ⟨L, rfl⟩ := all_ints fun x hx => rep_int (hC x hx) Tryd.underlying3
 have hs : Ints S v L := h1
 obtain ⟨a, cap, rfl⟩ := LsOf.is hs
 exact ⟨a, cap, L, e1, hs⟩
theorem known_M {W : World} (h : Met W) : KnownSound Tryd.prog KK W := by
 refine ⟨ext_sound _, fun f args S v hv => ?_⟩
 simp only [KK, kk, callM] at hv
 split at hv
 ·cases hb : Nat.beq f 6 with
  | true =>
   rw [hb] at hv
   cases hv
   obtain rfl := of_nbeq hb
   exact ⟨fun ρ => .bool _, Tryd.f6, _, Tryd.func6, bdA6, by kernel_rfl, zeroKnown fun w hk => true_A (met_later hk h)⟩
  | false =>
   rw [hb] at hv
   cases hv
 ·cases hv
theorem globals2 : Tryd.prog.globals.size = 2 := by kernel_rfl
theorem start_gl : Gl (startS listed Tryd.prog.globals.size) :=
 ⟨Nat.lt_of_lt_of_le (by decide : 1 < 2) (Nat.le_of_ble_eq_true (show Nat.ble 2 (startS listed Tryd.prog.globals.size).size = true by kernel_rfl)), by kernel_rfl, by kernel_rfl⟩
theorem start_fresh : Fresh (startS listed Tryd.prog.globals.size) := by
 intro b hb
 cases h : (startS listed Tryd.prog.globals.size).get b with
 | none => rfl
 | some B =>
  obtain ⟨l, hl, _⟩ := start_get Tryd.prog.globals.size listed b B h
  have hb' : 2 ≤ b := globals2 ▸ hb
  rcases listed_eq b l hl with ⟨rfl, _⟩ | ⟨rfl, _⟩ <;> omega
theorem joinII {W : World} (hm : Met W) {H : Type} {enc : TypeId × Value → H} {a1 a2 : Option Addr} {l1 k1 l2 k2 : Nat} {m : Int} {d1 d2 : DataW H} {p1 p2 : List MemPlace}
  (h1 : DataW.Trod enc Tryd.prog W 0 (fun _ => true) true 22 (.slice a1 l1 k1) d1 p1) (h2 : DataW.Trod enc Tryd.prog W 0 (fun _ => true) true 22 (.slice a2 l2 k2) d2 p2)
  {f : FuncId} {fn : Func} {c : Code} (hf : Tryd.prog.funcs[f]? = some fn) (hb : fn.body = some c) (hnm : (fn.name == "runtime.NumGoroutine") = false)
  (spec : ∀ (S : St) (ax ay : Option Addr) (cx cy : Nat) (X Y : List Int), Fresh S → Gl S → Ints S (.slice ax X.length cx) X → Ints S (.slice ay Y.length cy) Y →
   CC Tryd.prog KK f [.slice ax X.length cx, .slice ay Y.length cy, .int .i64 m] S fun v _ => v = .bool true) :
  Calls Tryd.prog f #[.slice a1 l1 k1, .slice a2 l2 k2, .int .i64 m] W fun e w => e = .returned (.bool true) ∧ Kept W w := by
 obtain ⟨fuel1, h1⟩ := h1
 obtain ⟨fuel2, h2⟩ := h2
 have hsim := start_sim (P := Tryd.prog) (size_le hm) hm listed_flat
 obtain ⟨ρ1, S1, c1, x1, s1, e1, r1, q1⟩ := lay (P := Tryd.prog) (w0 := ⟨W, fun _ => false⟩) 7 22 fuel1 _ _ _ (by kernel_rfl) (fun _ => rfl) h1 _ _ hsim
 obtain ⟨ρ2, S2, c2, x2, s2, e2, r2, q2⟩ := lay (P := Tryd.prog) (w0 := ⟨W, fun _ => false⟩) 7 22 fuel2 _ _ _ (by kernel_rfl) (fun _ => rfl) h2 _ _ s1
 obtain ⟨ax, cx, X, rfl, hs1⟩ := rep_ints (n := 5) (q1.keep e2)
 obtain ⟨ay, cy, Y, rfl, hs2⟩ := rep_ints (n := 5) q2
 have k12 := e1.trans e2
 refine (calls_of_cc follows (known_M hm) hf hb hnm s2 (args' := #[.slice a1 l1 k1, .slice a2 l2 k2, .int .i64 m]) (VRs.cons (VRs.head (r1.mono x2)) (VRs.cons (VRs.head r2) (VRs.cons (.int _ _) VRs.nil))) (spec S2 ax ay cx cy X Y (k12.3 start_fresh) (start_gl.keep k12) hs1 hs2)).mono ?_
 rintro e w ⟨v, ρ', v', hv, hr, he, hk⟩
 subst hv
 cases hr
 exact ⟨he, hk⟩
end Go.Proofs.YtlnenodplgpceaaDoor
namespace Go.Proofs.YtlnenodplgpceaaDoor
open Go.Cm Go
set_option maxRecDepth 100000
variable {S : St}
open Go.ChangeShapes Go.WideShapes Go.ChangeAt Go.RowKit
theorem own_none : ownKnob Tryd.prog.godebug = none := by kernel_rfl
theorem _root_.Go.Cm.Kept.but {W w : World} (h : Kept W w) (may : MemPlace → Prop) : W.keptBut w may := by
 refine ⟨h.os, h.out, fun i hi => ?_⟩
 rw [h.old i hi]
 cases W.heap[i]? with
 | none => rfl
 | some o => cases o <;> first | exact ⟨rfl, rfl, rfl, fun _ _ => rfl⟩ | exact .inr ⟨rfl, rfl⟩ | rfl
theorem post_true {H : Type} {enc : TypeId × Value → H} {P : Program} {f : Func} {s : ChangeSpec} {apart fresh handsOn : Bool} {W W' : World} {args : Array Value} {ds gs : List (DataW H)} {before pa pv : List MemPlace} {t : TypeId}
  (hr : f.resultTypes = #[t]) (ht : P.underlying t = some .bool) (hs : (s.fn H (ds ++ gs)).results = [.lit (.bool true)])
  (hW : DataW.Whole enc P f.params.toList s.vars apart W args.toList ds gs before) (hk : Kept W W')
  (hargs : DataW.TrodAll enc P W' 0 (fun b => decide (b < W.heap.size)) true f.params.toList args.toList (s.fn H (ds ++ gs)).args pa)
  (hvars : DataW.TrodVars enc P W' (fun b => decide (b < W.heap.size)) s.vars (s.fn H (ds ++ gs)).vars pv) : s.post enc P f apart fresh handsOn false W args (.bool true) W' := by
 refine ⟨ds, gs, before, [], pa, pv, hW, ?_, hargs, hvars, hk.but _, fun h => by cases h⟩
 rw [hr, hs]
 exact trodAll_mk1 (shut_bool ht _)
def holds (l : List Value) : Obj → Obj
 | .cells _ t frozen => .cells l.toArray t frozen
 | o => o
noncomputable def laidHeap (h : Array Obj) : Array Obj := ((h).modify 0 (holds of0)).modify 1 (holds of1)
noncomputable def laidWorld (os : Os) : World :=
 { World.holding Tryd.prog os ⟨#[], #[], []⟩ with heap := laidHeap (World.holding Tryd.prog os ⟨#[], #[], []⟩).heap }
def za : Array Value := #[.slice none 0 0, .slice none 0 0, .int .i64 0]
def zd {H : Type} : List (DataW H) := [.nil, .nil, .lit (.int .i64 0)]
theorem laid_met (os : Os) : laidMet Tryd.prog Rows.weighSameRow.laid ((laidWorld os).forCall (fun _ _ => 0) ⟨#[], za, []⟩).memory :=
 laidMet_of_run' 8 (by kernel_rfl) (by kernel_rfl)
theorem reads (os : Os) {H : Type} (enc : TypeId × Value → H) : ∃ places, DataW.whole enc Tryd.prog ((laidWorld os).forCall (fun _ _ => 0) ⟨#[], za, []⟩).memory Tryd.f3.params.toList Rows.weighSameSpec.vars false za.toList 8 = some (zd, [], places) :=
 ⟨[], by kernel_rfl⟩
theorem laids : Laids Rows.weighSameRow.laid := by
 refine ⟨?_, ?_⟩
 all_goals
  show _ ∈ [_, _]
  simp only [List.mem_cons, true_or, or_true]
theorem paramsM : Tryd.f3.params = #[22, 22, 3] := by kernel_rfl
theorem contract (H : Type) (enc : TypeId × Value → H) (W : World) (base : Nat) (args : Array Value) (ds gs : List (DataW H)) (before : List MemPlace)
  (hval : ∀ (j : Nat) t v, Tryd.f3.params[j]? = some t → args[j]? = some v → Value.okWide Tryd.prog W .any base t v)
  (hW : DataW.Whole enc Tryd.prog Tryd.f3.params.toList Rows.weighSameSpec.vars false W args.toList ds gs before) (hL : laidMetH Tryd.prog Rows.weighSameRow.laid W) :
  Calls Tryd.prog 3 args W fun e W' => ∃ v, e = .returned v ∧ Rows.weighSameSpec.post enc Tryd.prog Tryd.f3 false true false false W args v W' := by
 have hW' := hW
 obtain ⟨p, q, hA0, hV, rfl, hfz, hnd⟩ := hW
 have hA : DataW.TrodAll enc Tryd.prog W 0 (fun _ => true) true Tryd.f3.params.toList args.toList ds p := hA0
 rw [paramsM] at hA hval
 obtain ⟨v1, v2, v3, d1, d2, d3, p1, p2, p3, rfl, rfl, rfl, h1, h2, h3⟩ := trodAll_three hA
 obtain ⟨rfl, rfl⟩ := trodVars_none hV
 obtain ⟨x1, y1, z1, rfl⟩ := okWide_slice Tryd.underlying22 (hval 0 22 v1 rfl rfl)
 obtain ⟨x2, y2, z2, rfl⟩ := okWide_slice Tryd.underlying22 (hval 1 22 v2 rfl rfl)
 obtain ⟨m, rfl⟩ := okWide_int Tryd.underlying3 (hval 2 3 v3 rfl rfl)
 clear hA0
 refine (joinII (listed_met laids hL) h1 h2 Tryd.func3 (c := c3_) (by kernel_rfl) (by kernel_rfl) (fun S ax ay cx cy X Y hF hG hx hy => cc_mono (spec3 ax ay cx cy X Y m hF hG hx hy) fun v S' h => by rw [h.2, ws_true])).mono fun e W' ⟨he, hk⟩ => ?_
 subst he
 refine ⟨_, rfl, post_true (pa := p1 ++ p2 ++ p3) (pv := []) (t := 4) (by kernel_rfl) (by kernel_rfl) rfl hW' hk ?_ ?_⟩
 ·rw [paramsM]
  exact retrodAll hk 7 _ _ _ _ (by kernel_rfl) hA
 ·exact rfl
theorem lifted (os : Os) (started : os.Started) (H : Type) (enc : TypeId × Value → H) (F : Stop.Interp) :
  ReturnsInHanded {} Tryd.checked os 3 .any ((OpenSpec.ofChange Rows.weighSameSpec).preRow enc Tryd.prog Tryd.f3 Rows.weighSameRow.domain false Rows.weighSameRow.laid) (((OpenSpec.ofChange Rows.weighSameSpec).at F).post enc Tryd.prog Tryd.f3 false true false false) := by
 obtain ⟨places, hx⟩ := reads os enc
 refine returnsInHanded_of_row (C := Tryd.checked) (s := OpenSpec.ofChange Rows.weighSameSpec) own_none started (by kernel_rfl) Tryd.func3
  (witness_row_at (enc := enc) (C := Tryd.checked) false (laidWorld os) za rfl (by kernel_rfl) (by kernel_rfl) (by kernel_rfl)
   (OpenSpec.preRow_of_cond 8 hx (by kernel_rfl) (fun k hk => by cases hk) (by kernel_rfl) (laid_met os))) ?_
 intro W base args ds gs before hval hW _ _ _ hL _ _
 exact contract H enc W base args ds gs before hval hW hL
theorem said : Rows.WeighSameSaid :=
 OpenClaim.holds_of_cond 3 Tryd.f3 rfl rfl rfl rfl rfl rfl rfl ⟨rfl, rfl, rfl, rfl, rfl⟩ rfl rfl rfl rfl rfl (by kernel_rfl) Tryd.func3 joined'
  (of_decide_eq_true (by kernel_rfl)) (by unfold Func.isWrapper; first | (rw [if_pos (by decide +kernel)]; kernel_rfl) | (rw [if_neg (by decide +kernel)]; exact ⟨rfl, rfl⟩))
  (fun os started H enc _ F => by rw [OpenClaim.pre_eq_preRow]; exact lifted os started H enc F)
theorem plain (f : FuncId) (fn : Func) (hf : Tryd.pinned.checked.prog.funcNamed "tactus/tactuslaw38.WeighSame" = some f) (hfn : Tryd.pinned.checked.prog.funcs[f]? = some fn) :
  false = Tryd.pinned.checked.prog.looks [] ∧ ∀ (j : Nat) t, fn.params[j]? = some t → Tryd.pinned.checked.prog.wantsStandIn t = false := by
 obtain rfl : f = 3 := Option.some.inj ((show Tryd.prog.funcNamed "tactus/tactuslaw38.WeighSame" = some 3 by kernel_rfl).symm.trans hf) |>.symm
 obtain rfl : fn = Tryd.f3 := (Option.some.inj (Tryd.func3.symm.trans hfn)).symm
 refine ⟨by kernel_rfl, fun j t ht => ?_⟩
 rw [paramsM] at ht
 have hmem := Array.mem_of_getElem? ht
 obtain rfl | rfl : t = 22 ∨ t = 3 := by simpa using hmem
 ·exact (show Tryd.prog.wantsStandIn 22 = false by kernel_rfl)
 ·exact (show Tryd.prog.wantsStandIn 3 = false by kernel_rfl)
theorem card : Rows.WeighSameCardSaid :=
 Claim7.holds_tied_plain_at .later [] _ _ _ _ said (fun _ h => by cases h) (by kernel_rfl) (fun _ h => by cases h) weighSame_row_tie rfl ⟨rfl, rfl⟩ (by kernel_rfl) rfl plain (by kernel_rfl)
end Go.Proofs.YtlnenodplgpceaaDoor
