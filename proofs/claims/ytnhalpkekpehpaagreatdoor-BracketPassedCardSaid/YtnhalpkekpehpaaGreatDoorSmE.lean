/-
  color: pairs.
-/
import Derived.Test.YtnhalpkekpehpaaGreatDoorSmD
namespace Go.Proofs.YtnhalpkekpehpaaGreatDoor
open Go.Cm Go
set_option maxRecDepth 100000
variable {S : St}
theorem ACu (a : Option Addr) (n cap : Nat) (p q r t : Int) : CC Tryz.prog KK 146 [mV [p, q, r, t], .slice a n cap] S (fun v S' => ∃ e3 e2, v = .func (.func 167) #[] #[ptrTo e3 0, ptrTo e2 0] ∧ AB S [S] S' [(e3, .cells [.slice a n cap] 23 false true []), (e2, (.cells (AP (mV [p, q, r, t])) 28 false true []))] []) := by
 refine ce 6 Tryz.func146 fun hl => ?_; refine zg ?_; refine bL hl fun B2 S2 hl => ?_; refine bL hl fun B3 S3 hl => ?_; refine zg ?_; refine rr rfl (Fg rfl rfl rfl) ?_; refine zg ?_
 exact y1 rfl ⟨B3, B2, rfl, hl⟩
def IK (t : Int) (R : List Sg) (n : Nat) : List Int := ((List.range n).filter fun i => (t == 2) && I2 R i).map fun i : Nat => (i : Int)
def Az (t : Int) (R : List Sg) : List Int := IK t R R.length
theorem AA7 {t : Int} {R : List Sg} {n : Nat} (h : ((t == 2) && I2 R n) = true) : IK t R (n + 1) = IK t R n ++ [(n : Int)] := by
 unfold IK
 have e : ([n].filter fun i => (t == 2) && I2 R i) = [n] := by simp only [List.filter, h]
 rw [List.range_succ, List.filter_append, e, mAp]
 rfl
theorem mW {t : Int} {R : List Sg} {n : Nat} (h : ((t == 2) && I2 R n) = false) : IK t R (n + 1) = IK t R n := by
 unfold IK
 have e : ([n].filter fun i => (t == 2) && I2 R i) = [] := by simp only [List.filter, h]
 rw [List.range_succ, List.filter_append, e, List.append_nil]
theorem ah (t : Int) (R : List Sg) (n : Nat) : (IK t R n).length ≤ n := by
 unfold IK
 rw [cw]
 refine Nat.le_trans (List.length_filter_le ..) ?_
 rw [List.length_range]
 exact Nat.le_refl n
noncomputable def GL : Code := pA (pB (pA (pB (pB (pB (cb Tryz.f117))))))
structure Fq where
 lb : Nat
 db : Nat
 b7 : Nat
 b2 : Nat
 e3 : Nat
 e2 : Nat
 t : Tm
 m : List Int
 a : Option Addr
 cap : Nat
 R : List Sg
noncomputable def Fq.l (z : Fq) (av : Option Addr) (n : Nat) : List (Nat × AD) := [(z.b7, .cells [.slice av n n] 22 false true []), (z.lb, .loop .ready none 24 z.t (BO GL) (BL GL) (BN GL) z.db), (z.db, .defs false), (z.b2, .cells (AP (mV z.m)) 28 false true []), (z.e3, .cells [.slice z.a z.R.length z.cap] 23 false true []), (z.e2, .cells (AP (mV z.m)) 28 false true [])]
theorem AB0 {Sb S : St} {Ts : List St} (z : Fq) (hz : Has 24 ⟨24, z.t, []⟩ [(7, ptrTo z.b7 0), (2, ptrTo z.b2 0), (5, .int .i64 0)]) {fr : List (Nat × AD)} {av : Option Addr} {O : List Int} (x : Int) (hn : O.length ≤ 30000) (hO : Du av O fr) (hl : AB Sb Ts S (z.l av O.length ++ (fr ++ [])) []) :
  CT Tryz.prog KK (.fn (.yield z.lb) #[]) [.int .i64 x] S fun v S' => v = .returned (.bool true) ∧ ∃ DR AW, Du DR (O ++ [x]) AW ∧ AB Sb Ts S' (z.l DR (O ++ [x]).length ++ (AW ++ [])) [] := by
 refine Lq (hl.get 1 rfl) hz rfl rfl ?_; refine zg ?_
 refine ⟨rfl, _, _, _, _, _, _, _, hl.get 1 rfl, ?_⟩
 have hl := hl.put (k := 1) rfl rfl (.loop .busy none 24 z.t (BO GL) (BL GL) (BN GL) z.db)
 have hl : AB Sb Ts _ ([(z.b7, .cells [.slice av O.length O.length] 22 false true []), (z.lb, .loop .busy none 24 z.t (BO GL) (BL GL) (BN GL) z.db), (z.db, .defs false), (z.b2, .cells (AP (mV z.m)) 28 false true []), (z.e3, .cells [.slice z.a z.R.length z.cap] 23 false true []), (z.e2, .cells (AP (mV z.m)) 28 false true [])] ++ (fr ++ [])) [] := hl
 refine zg ?_; refine dL hl (ic x) Tryz.underlying22 fun Hn S3 Oj hl => ?_; refine HB hl hO rfl rfl rfl rfl rfl rfl rfl Tryz.underlying22 Tryz.underlying22 rfl rfl (by decide) aP (Bf (new := ic x) Oj rfl) rfl rfl aP (by show O.length + 1 ≤ AQ; unfold AQ; omega) ?_; intro v11 BA S4 Aw hl
 obtain ⟨AT, rfl⟩ := Aw.is
 refine sL hl 0 [.slice AT (O.length + 1) (O.length + 1)] fun S5 hl => ?_; refine zg ?_
 refine ⟨_, _, _, _, _, _, _, _, hl.get 1 rfl, rfl, AT, BA, Aw.push, ?_⟩
 rw [show (O ++ [x]).length = O.length + 1 by rw [ay]; rfl]
 exact hl.put (k := 1) rfl rfl (.loop .ready none 24 z.t (BO GL) (BL GL) (BN GL) z.db)
theorem ADF {Sb S : St} (z : Fq) (hz : Has 24 ⟨24, z.t, []⟩ [(7, ptrTo z.b7 0), (2, ptrTo z.b2 0), (5, .int .i64 0)]) (p q r t : Int) (jl : z.m = [p, q, r, t]) (R : List Sg) (iv : z.R = R) (hn : R.length ≤ 27) (hv : Bh Sb (.slice z.a R.length z.cap) R) (hl : AB Sb [Sb] S (z.l none 0 ++ ([] ++ [])) []) :
  CC Tryz.prog KK 167 [.func (.yield z.lb) #[] #[], ptrTo z.e3 0, ptrTo z.e2 0] S (fun v S' => v = AN [] ∧ ∃ av fr, Du av (Az t R) fr ∧ AB Sb [Sb] S' (z.l av (Az t R).length ++ (fr ++ [])) []) := by
 obtain ⟨lb, db, b7, b2, e3, e2, tm, zm, a, cap, zR⟩ := z
 simp only at jl iv
 subst jl iv
 let z : Fq := ⟨lb, db, b7, b2, e3, e2, tm, [p, q, r, t], a, cap, zR⟩
 have hl : AB Sb [Sb] S (z.l none 0 ++ ([] ++ [])) [] := hl
 have hz : Has 24 ⟨24, z.t, []⟩ [(7, ptrTo z.b7 0), (2, ptrTo z.b2 0), (5, .int .i64 0)] := hz
 show CC Tryz.prog KK 167 [.func (.yield z.lb) #[] #[], ptrTo z.e3 0, ptrTo z.e2 0] S (fun v S' => v = AN [] ∧ ∃ av fr, Du av (Az t zR) fr ∧ AB Sb [Sb] S' (z.l av (Az t zR).length ++ (fr ++ [])) [])
 refine ce 25 Tryz.func167 fun _ => ?_; refine zS ?_; refine BF rfl ?_; refine AK (L' := [(7, .int .i64 (0 : Int)), (6, .int .i64 zR.length), (0, .func (.yield z.lb) #[] #[]), (1, ptrTo z.e3 0), (2, ptrTo z.e2 0)]) sE ?_
 refine Au rfl (fun m Le S' => ∃ (i : Nat) (av : Option Addr) (fr : List (Nat × AD)), i ≤ zR.length ∧ m = zR.length - i ∧ Du av (IK t zR i) fr ∧ Af [(7, .int .i64 (i : Int)), (6, .int .i64 zR.length), (0, .func (.yield z.lb) #[] #[]), (1, ptrTo z.e3 0), (2, ptrTo z.e2 0)] Le ∧ AB Sb [Sb] S' (z.l av (IK t zR i).length ++ (fr ++ [])) []) ?_ (m := zR.length) ⟨0, none, [], Q1, Q1, .inl ⟨rfl, rfl, rfl, rfl⟩, sE, hl⟩
 clear hl; rintro m Le S1 ⟨i, av, fr, hi, rfl, hO, AL, hl⟩; refine AK AL ?_
 refine zg ?_
 constructor <;> intro h8
 ·
  have AJ : i < zR.length := dT h8
  have Cr := ah t zR i
  refine Fl rfl ?_; refine AV rfl ?_; refine BF rfl ?_; refine zS ?_; refine AV rfl (W5 23 (fun v S' => v = .bool false ∧ ∃ av fr, Du av (IK t zR (i + 1)) fr ∧ AB Sb [Sb] S' (z.l av (IK t zR (i + 1)).length ++ (fr ++ [])) []) ?_ ?_)
  ·
   refine zg ?_; refine BH (d := 13) rfl (fun Ga => ?_) (fun Ga => ?_)
   ·
    have Ga : (t == 2) = true := Ga
    refine zg ?_
    refine zc hl rfl (ADG a cap zR i AJ hn (hv.move (hl.since 0 rfl))) ?_; rintro v S2 Ar rfl hl
    refine zg ?_; refine BH (d := 18) rfl (fun Lw => ?_) (fun Lw => ?_)
    ·
     have e := AA7 (t := t) (R := zR) (n := i) (by rw [Ga, Lw]; rfl)
     refine zg ?_; refine I8 rfl rfl rfl rfl rfl rfl rfl (Es (AB0 z hz (i : Int) Q1 hO hl) ?_)
     rintro w S3 ⟨rfl, AT, BA, Aw, hl⟩
     show RE Tryz.prog KK 25 _ _ _ S3 _
     refine rr rfl (BC rfl rfl rfl) ?_; refine zg ?_
     exact ⟨rfl, _, rfl, sB, rfl, AT, BA, by rw [e]; exact Aw, by rw [e]; exact hl⟩
    have e := mW (t := t) (R := zR) (n := i) (by rw [Ga, Lw]; rfl)
    refine zg ?_
    exact ⟨rfl, _, rfl, sB, rfl, av, fr, by rw [e]; exact hO, by rw [e]; exact hl⟩
   have Ga : (t == 2) = false := Ga
   have e := mW (t := t) (R := zR) (n := i) (by rw [Ga]; rfl)
   refine zg ?_
   exact ⟨rfl, _, rfl, sB, rfl, av, fr, by rw [e]; exact hO, by rw [e]; exact hl⟩
  clear hl hO; rintro v S4 ⟨rfl, AT, BA, hO, hl⟩
  refine zg ?_
  exact ⟨zR.length - (i + 1), Q1, i + 1, AT, BA, Q1, rfl, hO, sE, hl⟩
 obtain rfl : i = zR.length := dF h8
 refine zg ?_
 show Fm Tryz.prog Tryz.f167.results.toList (fun v S' => v = AN [] ∧ ∃ av fr, Du av (Az t zR) fr ∧ AB Sb [Sb] S' (z.l av (Az t zR).length ++ (fr ++ [])) []) .normal _ S1
 exact Gy rfl ⟨rfl, av, fr, hO, hl⟩
theorem nw (a : Option Addr) (cap : Nat) (R : List Sg) (p q r t : Int) (hm : Ap p q r t = 0) (hF : Ad S) (hn : R.length ≤ 27) (hR : Br [p, q, r, t] R) (hv : Bh S (.slice a R.length cap) R) : CC Tryz.prog KK 117 [mV [p, q, r, t], .slice a R.length cap] S (fun v S' => AG S S' ∧ ∃ av, v = AN [.slice av (Az t R).length (Az t R).length, .int .i64 0] ∧ A5 S' (.slice av (Az t R).length (Az t R).length) (Az t R)) := by
 refine cm 24 Tryz.func117 fun hl => ?_; refine BX rfl (BE ?_); refine zg ?_; refine bL hl fun B2 S2 hl => ?_; refine zg ?_; refine BX rfl (BE ?_); refine zg ?_
 refine zc hl rfl (ck a cap R p q r t hm (hl.AA.3 hF) hn hR (hv.move (hl.since 0 rfl))) ?_; rintro v S3 Al rfl hl
 refine zg ?_; refine BX rfl (BE ?_); refine zg ?_; refine aL hl [.slice none 0 0] fun B7 S7 hl => ?_; refine zg ?_; refine BX rfl ?_; refine BX rfl (BE ?_); refine zg ?_
 refine Ct rfl rfl rfl rfl rfl rfl rfl (Bp (ACu a R.length cap p q r t) ?_); rintro v S8 ⟨e3, e2, rfl, hb⟩
 have hl := hl.join hb
 refine zg ?_; refine Kl rfl (Mh rfl rfl rfl aP ?_)
 intro t1 ht
 have ht := ht.sub (L' := [(7, ptrTo B7 0), (2, ptrTo B2 0), (5, .int .i64 0)]) sE
 have hl := (hl.new (.defs false)).new (.loop .ready none 24 t1 (BO GL) (BL GL) (BN GL) S8.size)
 let z : Fq := ⟨S8.size + 1, S8.size, B7, B2, e3, e2, t1, [p, q, r, t], a, cap, R⟩
 have hl := hl.perm (l' := z.l none 0 ++ ([] ++ [])) (by
  show List.Perm [_, _, _, _, _, _] [_, _, _, _, _, _]
  exact (List.perm_append_comm (l₁ := [_, _]) (l₂ := [_])).append_right [_, _, _])
 refine Es (Lp (Mu (ADF z ht p q r t rfl R rfl hn hv hl))) ?_
 clear hl
 rintro w S9 ⟨v, rfl, rfl, av, fr, hO, hl⟩
 refine ⟨_, _, _, _, _, _, _, _, hl.get 1 rfl, rfl, ?_⟩
 have hl := hl.put (k := 1) rfl rfl (.loop .exhausted none 24 t1 (BO GL) (BL GL) (BN GL) S8.size)
 refine BX rfl (BE ?_); refine zg ?_; refine BE (Mi rfl ?_)
 have Fy := hl.get 2 rfl
 have hl : AB S [S] _ ([(B7, .cells [.slice av (Az t R).length (Az t R).length] 22 false true []), (S8.size + 1, _), (S8.size, .defs true), (B2, .cells (AP (mV [p, q, r, t])) 28 false true []), (e3, .cells [.slice a R.length cap] 23 false true []), (e2, .cells (AP (mV [p, q, r, t])) 28 false true [])] ++ (fr ++ [])) [] := hl.put (k := 2) rfl rfl (.defs true)
 exact ⟨_, _, PN Fy, A7 rfl (A7 rfl rfl), hl.AA, av, rfl, OW.at_ (f := ic) (fun _ => rfl) hO hl (Ef (q := [_, _, _, _, _, _]))⟩
section
variable {x y : Operand}
theorem ACP {n : Nat} (h : n ≤ 6) : Fu Tryz.prog .shl 3 x y (.int .i64 1) (.int .i64 (n : Int)) = some (.int .i64 ((2 ^ n : Nat) : Int)) := by
 obtain rfl | rfl | rfl | rfl | rfl | rfl | rfl : n = 0 ∨ n = 1 ∨ n = 2 ∨ n = 3 ∨ n = 4 ∨ n = 5 ∨ n = 6 := by omega
 all_goals rfl
theorem tp : ((List.range 65).all fun n : Nat => decide (((n : Int).fdiv 2) = ((n / 2 : Nat) : Int))) = true := by kernel_rfl
theorem cG {n : Nat} (h : n ≤ 64) : Fu Tryz.prog .shr 3 x y (.int .i64 (n : Int)) (.int .u64 1) = some (.int .i64 ((n / 2 : Nat) : Int)) := by
 have h1 := oTr (List.all_eq_true.1 tp n (List.mem_range.2 Q1))
 show some (Value.int .i64 ((n : Int).fdiv 2)) = _
 rw [h1]
theorem qH : ((List.range 6).all fun j : Nat => (List.range 64).all fun m : Nat => decide (IntKind.i64.wrap ((BitVec.ofInt IntKind.i64.bits (m : Int) &&& BitVec.ofInt IntKind.i64.bits ((2 ^ j : Nat) : Int)).toNat : Int) = ((if m / 2 ^ j % 2 = 0 then 0 else 2 ^ j : Nat) : Int))) = true := by kernel_rfl
theorem and_1 {m j : Nat} (hm : m < 64) (hj : j < 6) : Fu Tryz.prog .and 3 x y (.int .i64 (m : Int)) (.int .i64 ((2 ^ j : Nat) : Int)) = some (.int .i64 ((if m / 2 ^ j % 2 = 0 then 0 else 2 ^ j : Nat) : Int)) := by
 have h1 := oTr (List.all_eq_true.1 (List.all_eq_true.1 qH j (List.mem_range.2 hj)) m (List.mem_range.2 hm))
 show some (Value.int .i64 (IntKind.i64.wrap ((BitVec.ofInt IntKind.i64.bits (m : Int) &&& BitVec.ofInt IntKind.i64.bits ((2 ^ j : Nat) : Int)).toNat : Int))) = _
 rw [h1]
end
def Ie (n k : Nat) : Nat := if k < n then 2 ^ (n - 1 - k) else 0
theorem fF {n k : Nat} (h : k < n) : Ie n (k + 1) = Ie n k / 2 := by
 unfold Ie
 rw [if_pos h]
 by_cases h2 : k + 1 < n
 ·rw [if_pos h2, show n - 1 - k = (n - 1 - (k + 1)) + 1 by omega, Nat.pow_succ, Nat.mul_div_cancel _ Q1]
 rw [if_neg h2, show n - 1 - k = 0 by omega]
def RY (n n0 k : Nat) : Int := if n0 / 2 ^ (n - 1 - k) % 2 = 0 then 1 else 2
def Hx (n n0 : Nat) : List Int := (List.range n).map (RY n n0)
theorem Xl (n n0 : Nat) : (Hx n n0).length = n := by unfold Hx; rw [cw, List.length_range]
theorem fk {n n0 k : Nat} (h : k < n) : (Hx n n0).take (k + 1) = (Hx n n0).take k ++ [RY n n0 k] := by
 refine CJ ?_
 unfold Hx
 exact Dc _ (by rw [CD]; exact List.getElem?_range h)
theorem nu (a : Option Addr) (cap : Nat) (R : List Sg) (p q r t : Int) (hm : Ap p q r t = 0) (hF : Ad S) (hn : R.length ≤ 27) (hR : Br [p, q, r, t] R) (hv : Bh S (.slice a R.length cap) R) : CC Tryz.prog KK 111 [mV [p, q, r, t], .slice a R.length cap] S (fun v S' => AG S S' ∧ v = if (Az t R).length ≤ 6 then AN [.int .i64 ((2 ^ (Az t R).length : Nat) : Int), .int .i64 0] else AN [.int .i64 0, .int .i64 15]) := by
 refine ce 23 Tryz.func111 fun hl => ?_; refine zg ?_; refine bL hl fun B2 S2 hl => ?_; refine zg ?_
 refine zc hl rfl (nw a cap R p q r t hm (hl.AA.3 hF) hn hR (hv.move (hl.since 0 rfl))) ?_; rintro v S3 Al ⟨av, rfl, _⟩ hl
 refine zg ?_
 constructor <;> intro Dw
 ·
  have Dw : ((Az t R).length : Int) > 6 := oTr Dw
  rw [if_neg Q1]
  refine zg ?_
  exact (z2 rfl rfl ⟨hl.AA, rfl⟩)
 have Dw : ¬ ((Az t R).length : Int) > 6 := oFa Dw
 rw [if_pos Q1]
 refine zg ?_; refine rr rfl (Ff rfl rfl rfl (ACP Q1)) ?_; refine zg ?_
 exact y2 rfl rfl ⟨hl.AA, rfl⟩
theorem AEE (a : Option Addr) (cap : Nat) (R : List Sg) (p q r t : Int) (n n0 : Nat) (H6 : n = (Az t R).length) (jm : n ≤ 6) (D6 : n0 < 2 ^ n) (hm : Ap p q r t = 0) (hF : Ad S) (hn : R.length ≤ 27) (hR : Br [p, q, r, t] R) (hv : Bh S (.slice a R.length cap) R) : CC Tryz.prog KK 96 [mV [p, q, r, t], .slice a R.length cap, .int .i64 (n0 : Int)] S (fun v S' => AG S S' ∧ ∃ av, v = AN [.slice av (Hx n n0).length (Hx n n0).length, .int .i64 0] ∧ AU S S' (gN av (Hx n n0))) := by
 have iO : 2 ^ n ≤ 64 := Nat.pow_le_pow_right Q1 jm
 refine ce 45 Tryz.func96 fun hl => ?_; refine zg ?_; refine bL hl fun B3 S2 hl => ?_; refine zg ?_
 refine zc hl rfl (nu a cap R p q r t hm (hl.AA.3 hF) hn hR (hv.move (hl.since 0 rfl))) ?_; rintro v S3 Al rfl hl
 rw [← H6, if_pos jm]
 refine zg ?_
 constructor <;> intro Gd
 ·have := oTr Gd; omega
 refine zg ?_; refine rr rfl (Ff rfl rfl rfl (cG iO)) ?_
 have e0 : 2 ^ n / 2 = Ie n 0 := by
  unfold Ie
  by_cases h : 0 < n
  ·rw [if_pos h, show n = (n - 1 - 0) + 1 by omega, Nat.pow_succ, Nat.mul_div_cancel _ Q1]
   rfl
  obtain rfl : n = 0 := by omega
  rfl
 rw [e0]
 refine zA ?_; refine BF rfl ?_
 have hl := hl.EP (g := gN none []) (.inl ⟨rfl, rfl, rfl⟩)
 refine AK (L' := [(11, .int .i64 (Ie n 0 : Nat)), (10, .slice none ([] : List Int).length ([] : List Int).length), (7, .int .i64 0), (6, .slice none 0 0), (2, .int .i64 (n0 : Int))]) sE ?_
 refine Au rfl (fun m Le S' => ∃ (k : Nat) (av : Option Addr) (O : List Int), k ≤ n ∧ m = n - k ∧ O = (Hx n n0).take k ∧ Af [(11, .int .i64 (Ie n k : Nat)), (10, .slice av O.length O.length), (7, .int .i64 0), (6, .slice none 0 0), (2, .int .i64 (n0 : Int))] Le ∧ AB S [S] S' [(B3, .cells (AP (mV [p, q, r, t])) 28 false true [])] [gN av O]) ?_ (m := n) ⟨0, none, [], Q1, Q1, rfl, sE, hl⟩
 clear hl; rintro m Le S4 ⟨k, av, O, hk, rfl, hO, AL, hl⟩; refine AK AL ?_
 have DN : O.length ≤ 6 := by rw [hO, List.length_take, Xl]; omega
 refine zg ?_
 constructor <;> intro Fx
 ·
  have Fx : ((Ie n k : Nat) : Int) > 0 := oTr Fx
  have Ha : k < n := by
   by_cases h : k < n
   ·exact h
   unfold Ie at Fx; rw [if_neg h] at Fx; omega
  have eb : Ie n k = 2 ^ (n - 1 - k) := if_pos Ha
  have jE : Ie n k ≤ 64 := by rw [eb]; exact Nat.le_trans (Nat.pow_le_pow_right Q1 Q1) iO
  refine zg ?_
  rw [eb]
  refine rr rfl (Ff rfl rfl rfl (and_1 Q1 Q1)) ?_; refine zg ?_
  constructor <;> intro Pw
  ·
   have Pw : n0 / 2 ^ (n - 1 - k) % 2 = 0 := by
    have h := oTr Pw
    by_cases h2 : n0 / 2 ^ (n - 1 - k) % 2 = 0
    ·exact h2
    rw [if_neg h2] at h
    have := Nat.two_pow_pos (n - 1 - k)
    omega
   have ec : RY n n0 k = 1 := if_pos Pw
   refine zg ?_; refine dL hl (ic 1) Tryz.underlying22 fun Jt S9 ZI hl => ?_; refine DX hl 0 rfl rfl (by simp) rfl rfl rfl rfl rfl rfl rfl Tryz.underlying22 Tryz.underlying22 rfl rfl aP (Bf (new := ic 1) ZI rfl) rfl rfl aP (by show O.length + 1 ≤ AQ; unfold AQ; omega) ?_; intro dS Co hl
   obtain ⟨AT, rfl⟩ : ∃ x, dS = .slice x (O.length + 1) (O.length + 1) := AU.is (hl.gr _ aQ)
   refine zg ?_
   rw [← eb]
   refine rr rfl (Ff rfl rfl rfl (cG jE)) ?_; refine zg ?_
   refine ⟨n - (k + 1), Q1, k + 1, AT, O ++ [1], Q1, rfl, by rw [fk Ha, hO, ec], ⟨by rw [fF Ha]; rfl, congrArg some (congrArg (fun n => Value.slice AT n n) (by rw [ay]; rfl)), rfl, rfl, rfl, trivial⟩, ?_⟩
   rw [gN, EH]
   exact hl
  have Pw : ¬ n0 / 2 ^ (n - 1 - k) % 2 = 0 := by
   intro h2
   have h := oFa Pw
   rw [if_pos h2] at h
   exact h rfl
  have ec : RY n n0 k = 2 := if_neg Pw
  refine zg ?_; refine dL hl (ic 2) Tryz.underlying22 fun Jt S9 ZI hl => ?_; refine DX hl 0 rfl rfl (by simp) rfl rfl rfl rfl rfl rfl rfl Tryz.underlying22 Tryz.underlying22 rfl rfl aP (Bf (new := ic 2) ZI rfl) rfl rfl aP (by show O.length + 1 ≤ AQ; unfold AQ; omega) ?_; intro dS Co hl
  obtain ⟨AT, rfl⟩ : ∃ x, dS = .slice x (O.length + 1) (O.length + 1) := AU.is (hl.gr _ aQ)
  refine zg ?_
  rw [← eb]
  refine rr rfl (Ff rfl rfl rfl (cG jE)) ?_; refine zg ?_
  refine ⟨n - (k + 1), Q1, k + 1, AT, O ++ [2], Q1, rfl, by rw [fk Ha, hO, ec], ⟨by rw [fF Ha]; rfl, congrArg some (congrArg (fun n => Value.slice AT n n) (by rw [ay]; rfl)), rfl, rfl, rfl, trivial⟩, ?_⟩
  rw [gN, EH]
  exact hl
 have Fx : ¬ ((Ie n k : Nat) : Int) > 0 := oFa Fx
 have Ha : k = n := by
  by_cases h : k < n
  ·unfold Ie at Fx
   rw [if_pos h] at Fx
   have := Nat.two_pow_pos (n - 1 - k)
   omega
  omega
 rw [Ha, show (Hx n n0).take n = Hx n n0 from List.take_of_length_le (by rw [Xl]; exact Nat.le_refl n)] at hO
 subst hO
 refine zg ?_
 exact y2 rfl rfl ⟨hl.AA, av, rfl, hl.gr _ aQ⟩
def IF (D : List (Int × Nat)) : List (Int × Value) := D.map fun e => (e.1, (tw e.2).v)
def I7 : List (Int × Nat) → Int → Nat → List (Int × Nat)
 | [], k, v => [(k, v)]
 | (a, w) :: r, k, v => if k = a then (a, v) :: r else (a, w) :: I7 r k v
def FP : List (Int × Nat) → Int → Option Nat
 | [], _ => none
 | (a, w) :: r, k => if k = a then some w else FP r k
theorem Z0 : ∀ (D : List (Int × Nat)) (k : Int) (v : Nat), IF (I7 D k v) = Eh (IF D) k (tw v).v
 | [], _, _ => rfl
 | (a, w) :: r, k, v => by
  show IF (if k = a then (a, v) :: r else (a, w) :: I7 r k v) = (if k = a then (a, (tw v).v) :: IF r else (a, (tw w).v) :: Eh (IF r) k (tw v).v)
  by_cases h : k = a
  ·rw [if_pos h, if_pos h]; rfl
  rw [if_neg h, if_neg h, ← Z0 r k v]; rfl
theorem lI : ∀ (D : List (Int × Nat)) (k : Int), HI (IF D) k = (FP D k).map fun n => (tw n).v
 | [], _ => rfl
 | (a, w) :: r, k => by
  have ih := lI r k
  unfold HI at ih ⊢
  show (match (if k = a then some (0, (tw w).v) else match DP (IF r) k with
   | some (j, v) => some (j + 1, v)
   | none => none) with
   | some (_, v) => some v
   | none => none) = _
  unfold FP
  by_cases h : k = a
  ·rw [if_pos h, if_pos h]; rfl
  rw [if_neg h, if_neg h, ← ih]
  cases DP (IF r) k <;> rfl
def O4 (D : List (Int × Nat)) (e : Int × Int) : List (Int × Nat) := if e.2 = 2 then I7 (I7 D e.1 18) (e.1 + 1) 6 else D
def II (A X : List Int) : List (Int × Nat) := (A.zip X).foldl O4 []
def HN (M : List Int) (D : List (Int × Nat)) (i : Nat) (s : Sg) : Nat := match FP D (i : Int) with
 | some n => n
 | none => bif CH s then GA M s.value.toNat else Bc M s.value.toNat
def HL (M : List Int) (D : List (Int × Nat)) : Nat → List Sg → List Nat
 | _, [] => []
 | i, s :: r => (bif s.kind == 3 then [] else [HN M D i s]) ++ HL M D (i + 1) r
def FT (M : List Int) (t : Int) (R : List Sg) (X : List Int) : List Nat := HL M (II (Az t R) X) 0 R
def TN (D : List (Int × Nat)) (k : Int) : Ti := match FP D k with
 | some n => tw n
 | none => tz
theorem look_ok {S : St} {r : Nat} {D : List (Int × Nat)} {k : Int} (hg : S.get r = some (D7 kI (IF D))) : Ji Tryz.prog 210 (.map (some r)) (.int .i64 k) true S = some (AN [(TN D k).v, .bool (FP D k).isSome]) := by
 have e := lI D k
 unfold HI at e
 unfold Ji mapOf TN
 have hz : zeroV Tryz.prog 88 = some tz.v := by kernel_rfl
 have hk : G9 Tryz.prog 20 3 (.int .i64 k) = true := by kernel_rfl
 simp only [Tryz.underlying210, hg, D7, hk, if_true]
 rw [U0 QV]
 cases hp : DP (IF D) k with
 | none =>
  rw [hp] at e
  cases ha : FP D k with
  | none => simp only [hz]; rfl
  | some n => rw [ha] at e; cases e
 | some x =>
  obtain ⟨j, v⟩ := x
  rw [hp] at e
  cases ha : FP D k with
  | none => rw [ha] at e; cases e
  | some n =>
   rw [ha] at e
   cases e
   rfl
theorem Xq (M : List Int) (D : List (Int × Nat)) : ∀ (R : List Sg) (n : Nat) (s : Sg), HL M D n (R ++ [s]) = HL M D n R ++ (bif s.kind == 3 then [] else [HN M D (n + R.length) s])
 | [], n, s => by show _ ++ [] = _; rw [List.append_nil]; rfl
 | x :: r, n, s => by
  show _ ++ HL M D (n + 1) (r ++ [s]) = (_ ++ HL M D (n + 1) r) ++ _
  rw [Xq M D r (n + 1) s, List.append_assoc, show n + 1 + r.length = n + (x :: r).length by show _ = n + (r.length + 1); omega]
theorem tL {M : List Int} {D : List (Int × Nat)} {R : List Sg} {i : Nat} {s : Sg} (h : nth R i = some s) : HL M D 0 (R.take (i + 1)) = HL M D 0 (R.take i) ++ (bif s.kind == 3 then [] else [HN M D i s]) := by
 have hi := CS h
 rw [CJ h, Xq, List.length_take, Nat.min_eq_left Q1, Nat.zero_add]
theorem Uw (M : List Int) (D : List (Int × Nat)) : ∀ (R : List Sg) (n : Nat), (HL M D n R).length = ct R
 | [], _ => rfl
 | s :: r, n => by
  unfold HL
  rw [ay, Uw M D r (n + 1)]
  unfold ct
  cases h : s.kind == 3
  ·rw [List.filter_cons_of_pos (by rw [h]; rfl)]; show 1 + _ = _ + 1; omega
  rw [List.filter_cons_of_neg (by rw [h]; decide)]; show 0 + _ = _; omega
theorem AAU {A X : List Int} {k : Nat} {a x : Int} (ha : nth A k = some a) (hx : nth X k = some x) : II (A.take (k + 1)) (X.take (k + 1)) = O4 (II (A.take k) (X.take k)) (a, x) := by
 have h1 := CS ha
 have h2 := CS hx
 unfold II
 rw [CJ ha, CJ hx, List.zip_append (by rw [List.length_take, List.length_take]; omega), List.foldl_append]
 rfl
theorem mU {t : Int} {R : List Sg} {k : Nat} {i : Int} (h : nth (Az t R) k = some i) : ∃ j : Nat, i = (j : Int) ∧ j < R.length ∧ t = 2 ∧ I2 R j = true := by
 have hm := Am h
 unfold Az IK at hm
 obtain ⟨j, hj, rfl⟩ := List.mem_map.1 hm
 obtain ⟨h1, h2⟩ := List.mem_filter.1 hj
 have h2 := Bool.and_eq_true_iff.1 h2
 exact ⟨j, rfl, List.mem_range.1 h1, eq_of_beq h2.1, h2.2⟩
theorem AEG (a : Option Addr) (cap : Nat) (R : List Sg) (p q r t : Int) (ax : Option Addr) (cx : Nat) (X : List Int) (hm : Ap p q r t = 0) (hF : Ad S) (hn : R.length ≤ 27) (hR : Br [p, q, r, t] R) (hv : Bh S (.slice a R.length cap) R) (hX : X.length = (Az t R).length) (SA : ∀ k x, nth X k = some x → x = 1 ∨ x = 2) (hc : A5 S (.slice ax X.length cx) X) : CC Tryz.prog KK 99 [mV [p, q, r, t], .slice a R.length cap, .slice ax X.length cx] S (fun v S' => AG S S' ∧ ∃ av, v = AN [.slice av (FT [p, q, r, t] t R X).length (FT [p, q, r, t] t R X).length, .int .i64 0] ∧ AU S S' (gT av ((FT [p, q, r, t] t R X).map tw))) := by
 refine ce 95 Tryz.func99 fun hl => ?_; refine zg ?_; refine bL hl fun B3 S3 hl => ?_; refine zg ?_
 refine zc hl rfl (nw a cap R p q r t hm (hl.AA.3 hF) hn hR (hv.move (hl.since 0 rfl))) ?_; rintro v S4 Al ⟨ap, rfl, hp⟩ hl
 have hl := hl.mark
 refine zg ?_
 have Cr := ah t R R.length
 have Cr : (Az t R).length ≤ R.length := Cr
 constructor <;> intro Fx
 ·rw [hX] at Fx; exact absurd Fx (by rw [bne_self_eq_false]; decide)
 refine zg ?_; refine ABX hl kI rfl rfl rfl rfl rfl ?_; intro Km p0 hl
 have hl : AB S [S4, S] p0 [(Km, D7 kI (IF [])), (B3, .cells (AP (mV [p, q, r, t])) 28 false true [])] [] := hl
 refine zA ?_; refine AV rfl ?_; refine zS ?_; refine BF rfl ?_; refine AK (L' := [(35, .int .i64 (0 : Int)), (34, .int .i64 (Az t R).length), (33, .slice ap (Az t R).length (Az t R).length), (10, .map (some Km)), (3, ptrTo B3 0), (6, .slice none 0 0), (7, .int .i64 0), (1, .slice a R.length cap), (2, .slice ax X.length cx)]) sE ?_
 refine Au rfl (fun m Le S' => ∃ k : Nat, k ≤ (Az t R).length ∧ m = (Az t R).length - k ∧ Af [(35, .int .i64 (k : Int)), (34, .int .i64 (Az t R).length), (33, .slice ap (Az t R).length (Az t R).length), (10, .map (some Km)), (3, ptrTo B3 0), (6, .slice none 0 0), (7, .int .i64 0), (1, .slice a R.length cap), (2, .slice ax X.length cx)] Le ∧ AB S [S4, S] S' [(Km, D7 kI (IF (II ((Az t R).take k) (X.take k)))), (B3, .cells (AP (mV [p, q, r, t])) 28 false true [])] []) ?_ (m := (Az t R).length) ⟨0, Q1, Q1, sE, hl⟩
 clear hl; rintro m Le S' ⟨k, Bl, rfl, AL, hl⟩; refine AK AL ?_
 refine zg ?_
 constructor <;> intro Ew
 ·
  have AJ : k < (Az t R).length := dT Ew
  obtain ⟨i, hi⟩ := Ac AJ
  obtain ⟨x, hx⟩ := Ac (show k < X.length by omega)
  have he := AAU hi hx
  have hib : 0 ≤ i ∧ i < 27 := by
   obtain ⟨j, rfl, hj, _⟩ := mU hi
   omega
  obtain ⟨b1, o1, Ai, ha, _, AY, Ab⟩ := hp.elem hi
  refine zg ?_
  obtain ⟨b2, o2, Hy, ha, _, LH, LJ⟩ := (hc.move (hl.since 1 rfl)).elem hx
  refine zg ?_
  rcases SA k x hx with rfl | rfl
  ·
   constructor <;> intro EZ
   case right => exact absurd EZ (by decide)
   refine zg ?_
   exact ⟨(Az t R).length - (k + 1), Q1, k + 1, Q1, rfl, sE, by rw [he]; exact hl⟩
  constructor <;> intro EZ
  ·exact absurd EZ (by decide)
  refine zg ?_; refine rr rfl (Ak rfl rfl (v := (tw 18).v) aP) ?_; refine rr rfl (Ak rfl rfl (v := (tw 6).v) aP) ?_; refine m5 hl 0 (kc := kI) (k := i) rfl rfl rfl rfl rfl rfl rfl rfl Tryz.underlying210 QV (by rfl) rfl (by simp [CO]) ?_; intro S5 hl; refine m5 hl 0 (kc := kI) (k := i + 1) rfl rfl rfl rfl rfl rfl rfl rfl Tryz.underlying210 QV (by rfl) rfl (by simp [CO]) ?_; intro S6 hl; refine zg ?_
  refine ⟨(Az t R).length - (k + 1), Q1, k + 1, Q1, rfl, sE, ?_⟩
  rw [he, show O4 (II ((Az t R).take k) (X.take k)) (i, 2) = I7 (I7 (II ((Az t R).take k) (X.take k)) i 18) (i + 1) 6 from rfl, Z0, Z0]
  exact hl
 obtain rfl : k = (Az t R).length := dF Ew
 rw [List.take_length, ← hX, List.take_length] at hl
 clear hp hc
 have eD : FT [p, q, r, t] t R X = HL [p, q, r, t] (II (Az t R) X) 0 R := rfl
 generalize II (Az t R) X = D at hl eD
 refine zg ?_
 have hl := hl.EP (g := gT none []) (.inl ⟨rfl, rfl, rfl⟩)
 refine AK (L' := [(58, .int .i64 (0 : Int)), (57, .int .i64 R.length), (56, .slice a R.length cap), (13, .slice none ([] : List Ti).length ([] : List Ti).length), (10, .map (some Km)), (3, ptrTo B3 0), (6, .slice none 0 0), (7, .int .i64 0)]) sE ?_
 refine Au rfl (fun m Le S' => ∃ (i : Nat) (av : Option Addr) (O : List Ti), i ≤ R.length ∧ m = R.length - i ∧ O = (HL [p, q, r, t] D 0 (R.take i)).map tw ∧ Af [(58, .int .i64 (i : Int)), (57, .int .i64 R.length), (56, .slice a R.length cap), (13, .slice av O.length O.length), (10, .map (some Km)), (3, ptrTo B3 0), (6, .slice none 0 0), (7, .int .i64 0)] Le ∧ AB S [S4, S] S' [(Km, D7 kI (IF D)), (B3, .cells (AP (mV [p, q, r, t])) 28 false true [])] [gT av O]) ?_ (m := R.length) ⟨0, none, [], Q1, Q1, rfl, sE, hl⟩
 clear hl; rintro m Le S' ⟨i, av, O, hi, rfl, hO, AL, hl⟩; refine AK AL ?_
 have DN : O.length ≤ 27 := by
  have h1 := Mw R
  have h2 := Pp R i
  rw [hO, cw, Uw]
  omega
 refine zg ?_
 constructor <;> intro OR
 ·
  have AJ : i < R.length := dT OR
  obtain ⟨s, hs⟩ := Ac AJ
  obtain ⟨b1, o1, Ai, ha, _, AY, Ab⟩ := hv.elem hs
  have MG := tL (M := [p, q, r, t]) (D := D) hs
  refine zg ?_; refine aL hl ((FB.cells.set 0 (.int .i64 0))) fun Mj S5 hl => ?_; refine zg ?_; refine sL hl 0 s.cells fun S6 hl => ?_; refine zg ?_; refine rr rfl (mu rfl rfl rfl (look_ok (hl.get 1 rfl))) ?_; refine zg ?_; refine aL hl tz.cells fun dj S7 hl => ?_; refine sL hl 0 ((TN D i).cells) fun S8 hl => ?_
  cases Bt : (s.kind == 3) with
  | true =>
   rw [Bt] at MG
   refine zg ?_
   constructor <;> intro R1
   case right => rw [Bt] at R1; cases R1
   refine zg ?_
   exact ⟨R.length - (i + 1), Q1, i + 1, av, O, Q1, rfl, by rw [MG, hO]; exact congrArg _ (List.append_nil _).symm, sE, hl.tail.tail⟩
  | false =>
   rw [Bt] at MG
   have ME : NR s := by
    rcases hR i s hs with h | ⟨rfl, _⟩
    ·exact h.nr
    cases Bt
   obtain ⟨v, Vh⟩ : ∃ v : Nat, s.value = (v : Int) := ⟨s.value.toNat, by have := ME.v; omega⟩
   have BY : 2 ≤ v ∧ v ≤ 6 := by have := ME.v; omega
   have Sv : s.value.toNat = v := by omega
   refine zA ?_; refine AV rfl (PV (fun Le S' => Af [(16, ptrTo dj 0), (15, ptrTo Mj 0), (58, .int .i64 (i : Int)), (57, .int .i64 R.length), (56, .slice a R.length cap), (13, .slice av O.length O.length), (10, .map (some Km)), (3, ptrTo B3 0), (6, .slice none 0 0), (7, .int .i64 0)] Le ∧ AB S [S4, S] S' [(dj, .cells (tw (HN [p, q, r, t] D i s)).cells 88 false true []), (Mj, .cells s.cells 34 false true []), (Km, D7 kI (IF D)), (B3, .cells (AP (mV [p, q, r, t])) 28 false true [])] [gT av O]) ?_ ?_)
   ·
    refine zg ?_
    constructor <;> intro R1
    ·rw [Bt] at R1; cases R1
    refine zg ?_
    cases ha : FP D (i : Int) with
    | some n =>
     have e : HN [p, q, r, t] D i s = n := by unfold HN; rw [ha]
     have e2 : TN D i = tw n := by unfold TN; rw [ha]
     rw [e2] at hl
     refine zg ?_
     constructor <;> intro R4
     case right => cases R4
     refine zg ?_
     exact ⟨rfl, sE, by rw [e]; exact hl⟩
    | none =>
     have e : HN [p, q, r, t] D i s = bif CH s then GA [p, q, r, t] s.value.toNat else Bc [p, q, r, t] s.value.toNat := by unfold HN; rw [ha]
     refine zg ?_
     constructor <;> intro R4
     ·cases R4
     refine zg ?_
     refine zc hl rfl (T1 s) ?_; rintro v S9 Al rfl hl
     refine zg ?_
     constructor <;> intro iQ
     ·
      rw [iQ, Sv] at e
      refine zg ?_
      rw [Vh]
      refine zc hl rfl (zB hm BY) ?_; rintro v Co Ar rfl hl
      refine sL hl 0 ((tw (GA [p, q, r, t] v)).cells) fun D3 hl => ?_; refine zg ?_
      exact ⟨rfl, sE, by rw [e]; exact hl⟩
     rw [iQ, Sv] at e
     refine zg ?_
     rw [Vh]
     refine zc hl rfl (ACg p q r t v hm BY) ?_; rintro v Co Ar rfl hl
     refine zg ?_; refine sL hl 0 ((tw (Bc [p, q, r, t] v)).cells) fun D3 hl => ?_; refine zg ?_
     exact ⟨rfl, sE, by rw [e]; exact hl⟩
   clear hl; rintro UR Ep ⟨MI, hl⟩; refine AK MI ?_
   refine zg ?_; refine dL hl ((tw (HN [p, q, r, t] D i s)).cells) Tryz.underlying118 fun B91 EC xm hl => ?_; refine DX hl 0 rfl rfl (by simp) rfl rfl rfl rfl rfl rfl rfl Tryz.underlying118 Tryz.underlying118 rfl rfl aP (Bf (new := (tw (HN [p, q, r, t] D i s)).cells) xm rfl) rfl rfl aP (by show O.length + 1 ≤ AQ; unfold AQ; omega) ?_; intro v92 E6 hl
   obtain ⟨AT, rfl⟩ : ∃ x, v92 = .slice x (O.length + 1) (O.length + 1) := AU.is (hl.gr _ aQ)
   refine zg ?_
   refine ⟨R.length - (i + 1), Q1, i + 1, AT, O ++ [tw (HN [p, q, r, t] D i s)], Q1, rfl, by rw [MG, mAp, hO]; rfl, ⟨rfl, rfl, rfl, congrArg some (congrArg (fun n => Value.slice AT n n) (by rw [ay]; rfl)), rfl, rfl, rfl, rfl, trivial⟩, ?_⟩
   rw [gT, EH]
   exact hl.tail.tail
 obtain rfl : i = R.length := dF OR
 rw [List.take_length] at hO
 refine zg ?_
 have e : (FT [p, q, r, t] t R X).map tw = O := by rw [eD, hO]
 exact y2 rfl rfl ⟨hl.AA, av, by rw [← List.length_map (f := tw), e], by rw [e]; exact hl.gr _ aQ⟩
def Gh (S : St) : Prop := 2 < S.size ∧ S.get 2 = some (.cells [.int .i64 3, .int .i64 2] 0 false false [])
theorem Gh.AA {S T : St} (h : Gh S) (k : AG S T) : Gh T := ⟨Nat.lt_of_lt_of_le h.1 k.1, (k.2 2 h.1).trans h.2⟩
def IC (s : Sg) (i : Nat) (cu : Int) (ad : Bool) (t : Nat) : It := ⟨(i : Int), s.value, s.kind == 2, CH s, ad || (s.kind == 2) || CH s || (cu == s.value), cu, bif ad then t * 3 / 2 else t, 0, 0⟩
def Jf (C : List Int) (D : List Bool) (T : List Nat) (R : List Sg) (i : Nat) : List It := match nth R i with
 | some s => bif s.kind == 3 then [] else [IC s i ((nth C (ct (R.take i))).getD 0) ((nth D (ct (R.take i))).getD false) ((nth T (ct (R.take i))).getD 0)]
 | none => []
def Je (C : List Int) (D : List Bool) (T : List Nat) (R : List Sg) (n : Nat) : List It := (List.range n).flatMap (Jf C D T R)
def EM (M : List Int) (t : Int) (R : List Sg) (X Y : List Int) : List It := Je (Bm X R).1 (Bm X R).2.1 (FT M t R Y) R R.length
theorem Zp (C : List Int) (D : List Bool) (T : List Nat) (R : List Sg) (n : Nat) : Je C D T R (n + 1) = Je C D T R n ++ Jf C D T R n := by
 unfold Je
 rw [List.range_succ, List.flatMap_append]
 simp
theorem TI (C : List Int) (D : List Bool) (T : List Nat) (R : List Sg) : ∀ n, n ≤ R.length → (Je C D T R n).length = ct (R.take n)
 | 0, _ => rfl
 | n + 1, h => by
  obtain ⟨s, hs⟩ := Ac (show n < R.length by omega)
  rw [Zp, ay, TI C D T R n Q1]
  cases hk : s.kind == 3 with
  | true => rw [(TL hs hk).2, show Jf C D T R n = [] by unfold Jf; rw [hs]; simp only [hk]; rfl]; rfl
  | false => rw [(QW hs hk).2, show Jf C D T R n = [IC s n ((nth C (ct (R.take n))).getD 0) ((nth D (ct (R.take n))).getD false) ((nth T (ct (R.take n))).getD 0)] by unfold Jf; rw [hs]; simp only [hk]; rfl]; rfl
theorem s8 : (KY.all fun M => Nz.all fun (v : Nat) => (GA M v % 2 == 0) && (Bc M v % 2 == 0) && decide (GA M v ≤ 324) && decide (Bc M v ≤ 324)) = true := by kernel_rfl
theorem tA {p q r t : Int} (h : Ap p q r t = 0) {v : Nat} (hv : 2 ≤ v ∧ v ≤ 6) : GA [p, q, r, t] v % 2 = 0 ∧ Bc [p, q, r, t] v % 2 = 0 ∧ GA [p, q, r, t] v ≤ 324 ∧ Bc [p, q, r, t] v ≤ 324 := by
 have := List.all_eq_true.1 (List.all_eq_true.1 s8 _ (MM h)) _ (TO hv)
 simp only [Bool.and_eq_true, beq_iff_eq, decide_eq_true_eq] at this
 exact ⟨this.1.1.1, this.1.1.2, this.1.2, this.2⟩
def Kq (n : Nat) : Prop := n % 2 = 0 ∧ n ≤ 324
theorem bC {k : Int} {v : Nat} : ∀ {D : List (Int × Nat)}, (∀ e, e ∈ D → Kq e.2) → Kq v → ∀ e, e ∈ I7 D k v → Kq e.2
 | [], _, hv, e, he => by rw [List.mem_singleton.1 he]; exact hv
 | (a, w) :: r, h, hv, e, he => by
  unfold I7 at he
  split at he
  ·rcases List.mem_cons.1 he with rfl | he
   ·exact hv
   exact h e (cy he)
  rcases List.mem_cons.1 he with rfl | he
  ·exact h _ aQ
  exact bC (fun e he => h e (cy he)) hv e he
theorem eu {k : Int} {n : Nat} : ∀ {D : List (Int × Nat)}, (∀ e, e ∈ D → Kq e.2) → FP D k = some n → Kq n
 | [], _, h => by cases h
 | (a, w) :: r, h, hn => by
  unfold FP at hn
  split at hn
  ·cases hn; exact h _ aQ
  exact eu (fun e he => h e (cy he)) hn
theorem lW {D : List (Int × Nat)} : ∀ (L : List (Int × Int)), (∀ e, e ∈ D → Kq e.2) → ∀ e, e ∈ L.foldl O4 D → Kq e.2
 | [], h => h
 | x :: L, h => by
  refine lW L ?_
  unfold O4
  split
  ·exact bC (bC h ⟨rfl, by decide⟩) ⟨rfl, by decide⟩
  exact h
theorem gG {p q r t : Int} {R : List Sg} {Y : List Int} (hm : Ap p q r t = 0) (hR : Br [p, q, r, t] R) : ∀ n, n ∈ FT [p, q, r, t] t R Y → Kq n := by
 unfold FT
 have hD : ∀ e, e ∈ II (Az t R) Y → Kq e.2 := lW _ fun e he => (List.not_mem_nil he).elim
 generalize II (Az t R) Y = D at hD ⊢
 have hk : ∀ s, s ∈ R → (s.kind == 3) = false → NR s := fun s hs h => by
  obtain ⟨i, hi⟩ := KX hs
  rcases hR i s hi with h1 | ⟨rfl, _⟩
  ·exact h1.nr
  cases h
 clear hR
 suffices h : ∀ (R : List Sg) (i : Nat), (∀ s, s ∈ R → (s.kind == 3) = false → NR s) → ∀ n, n ∈ HL [p, q, r, t] D i R → Kq n from h R 0 hk
 intro R
 induction R with
 | nil => intro i _ n hn; exact (List.not_mem_nil hn).elim
 | cons s r ih =>
  intro i hs n hn
  unfold HL at hn
  rcases List.mem_append.1 hn with hn | hn
  ·cases h3 : s.kind == 3 with
   | true => rw [h3] at hn; exact (List.not_mem_nil hn).elim
   | false =>
    rw [h3] at hn
    have ME := hs s aQ h3
    rw [List.mem_singleton.1 hn]
    have hv := ME.v
    have h4 := tA hm (v := s.value.toNat) Q1
    unfold HN
    split
    ·rename_i ha; exact eu hD ha
    cases CH s
    ·exact ⟨h4.2.1, h4.2.2.2⟩
    exact ⟨h4.1, h4.2.2.1⟩
  exact ih _ (fun s h => hs s (cy h)) n hn
theorem AD' (a : Option Addr) (cap : Nat) (R : List Sg) (p q r t : Int) (ad : Option Addr) (cd : Nat) (X : List Int) (ax : Option Addr) (cx : Nat) (Y : List Int) (hm : Ap p q r t = 0) (hF : Ad S) (Dk : Gh S) (hn : R.length ≤ 27) (hR : Br [p, q, r, t] R) (hv : Bh S (.slice a R.length cap) R) (hX : X.length = (BQ [p, q, r, t] R).length) (SA : ∀ k x C, nth X k = some x → nth (BQ [p, q, r, t] R) k = some C → x ∈ C) (hc : A5 S (.slice ad X.length cd) X) (hY : Y.length = (Az t R).length) (vD : ∀ k x, nth Y k = some x → x = 1 ∨ x = 2) (vU : A5 S (.slice ax Y.length cx) Y) : CC Tryz.prog KK 84 [mV [p, q, r, t], .slice a R.length cap, .slice ad X.length cd, .slice ax Y.length cx] S (fun v S' => AG S S' ∧ ∃ av, v = AN [.slice av (EM [p, q, r, t] t R X Y).length (EM [p, q, r, t] t R X Y).length, .int .i64 0] ∧ AU S S' (M5 av (EM [p, q, r, t] t R X Y))) := by
 refine ce 118 Tryz.func84 fun hl => ?_; refine zg ?_; refine bL hl fun B4 S4 hl => ?_; refine zg ?_
 refine zc hl rfl (ck a cap R p q r t hm (hl.AA.3 hF) hn hR (hv.move (hl.since 0 rfl))) ?_; rintro w S5 Al rfl hl
 refine zg ?_
 refine zc hl rfl (AEF a cap R p q r t ad cd X hm (hl.AA.3 hF) hn hR (hv.move (hl.since 0 rfl)) hX SA (hc.move (hl.since 0 rfl))) ?_; rintro w S6 Ar ⟨aC, aD, rfl, hC, hD, ug, uh⟩ hl
 have hl := hl.mark
 refine zg ?_
 refine zc hl rfl (AEG a cap R p q r t ax cx Y hm (hl.AA.3 hF) hn hR (hv.move (hl.since 1 rfl)) hY vD (vU.move (hl.since 1 rfl))) ?_; rintro w S7 Bt ⟨aT, rfl, Yv⟩ hl
 have ue := gG (Y := Y) hm hR
 have hTl : (FT [p, q, r, t] t R Y).length = ct R := Uw _ _ _ _
 have eI : EM [p, q, r, t] t R X Y = Je (Bm X R).1 (Bm X R).2.1 (FT [p, q, r, t] t R Y) R R.length := rfl
 generalize EM [p, q, r, t] t R X Y = O9 at eI ⊢
 generalize (Bm X R).1 = C at *
 generalize (Bm X R).2.1 = D at *
 generalize FT [p, q, r, t] t R Y = OT at *
 have uj : AZ 88 2 Ti.cells S7 (.slice aT OT.length OT.length) (OT.map tw) := by
  have h := AU.ls (f := Ti.cells) (fun _ => rfl) Yv
  rw [cw] at h
  exact h
 have hl := hl.mark
 refine zg ?_
 have hl := hl.EP (g := M5 none []) (.inl ⟨rfl, rfl, rfl⟩)
 refine AK (L' := [(49, .int .i64 (0 : Int)), (48, .int .i64 R.length), (47, .slice a R.length cap), (15, .slice none ([] : List It).length ([] : List It).length), (14, .slice aT OT.length OT.length), (12, .slice aD D.length D.length), (11, .slice aC C.length C.length), (8, .slice none 0 0), (9, .int .i64 0)]) sE ?_
 refine Au rfl (fun m Le S' => ∃ (i : Nat) (av : Option Addr) (O : List It), i ≤ R.length ∧ m = R.length - i ∧ O = Je C D OT R i ∧ Af [(49, .int .i64 (i : Int)), (48, .int .i64 R.length), (47, .slice a R.length cap), (15, .slice av O.length O.length), (14, .slice aT OT.length OT.length), (12, .slice aD D.length D.length), (11, .slice aC C.length C.length), (8, .slice none 0 0), (9, .int .i64 0)] Le ∧ AB S [S7, S6, S] S' [(B4, .cells (AP (mV [p, q, r, t])) 28 false true [])] [M5 av O]) ?_ (m := R.length) ⟨0, none, [], Q1, Q1, rfl, sE, hl⟩
 clear hl; rintro m Le S' ⟨i, av, O, hi, rfl, hO, AL, hl⟩; refine AK AL ?_
 have DN : O.length = ct (R.take i) := by rw [hO]; exact TI _ _ _ _ _ hi
 refine zg ?_
 constructor <;> intro Pz
 ·
  have AJ : i < R.length := dT Pz
  have jI := Mw R
  have iU := Pp R i
  obtain ⟨s, hs⟩ := Ac AJ
  obtain ⟨b1, o1, Ai, ha, _, AY, Ab⟩ := hv.elem hs
  have MG := Zp C D OT R i
  refine zg ?_; refine aL hl ((FB.cells.set 0 (.int .i64 0))) fun IU Ia hl => ?_; refine zg ?_; refine sL hl 0 s.cells fun Hs hl => ?_; refine zg ?_
  constructor <;> intro G1
  ·
   refine zg ?_
   exact ⟨R.length - (i + 1), Q1, i + 1, av, O, Q1, rfl, by rw [MG, show Jf C D OT R i = [] by unfold Jf; rw [hs]; simp only [G1]; rfl, hO]; exact (List.append_nil _).symm, sE, hl.tail⟩
  have G1 : (s.kind == 3) = false := G1
  have jB : O.length < ct R := by rw [DN]; exact tH hs G1
  obtain ⟨cu, LA⟩ := Ac (l := C) (i := O.length) Q1
  obtain ⟨du, jM⟩ := Ac (l := D) (i := O.length) Q1
  obtain ⟨dw, Ou⟩ := Ac (l := OT) (i := O.length) Q1
  have Aa := ue dw (Am Ou)
  have MG : Je C D OT R (i + 1) = Je C D OT R i ++ [IC s i cu du dw] := by
   rw [MG]
   unfold Jf
   rw [hs]
   simp only [G1]
   rw [← DN, LA, jM, Ou]
   rfl
  obtain ⟨b2, o2, Hy, Eb, _, LH, LJ⟩ := ug.elem LA
  obtain ⟨b3, o3, Po, SB, _, ZN, Sq⟩ := uh.elem jM
  obtain ⟨b5, o5, cs5, ha5, _, AF3, AF'⟩ := uj.elem (Dc tw Ou)
  refine Fl rfl ?_; refine zS ?_
  refine AV rfl (PV (fun Le S' => ∃ JF : Nat, Af [(19, ptrTo JF 0), (18, .int .i64 (O.length : Int)), (49, .int .i64 (i : Int)), (48, .int .i64 R.length), (47, .slice a R.length cap), (15, .slice av O.length O.length), (14, .slice aT OT.length OT.length), (12, .slice aD D.length D.length), (11, .slice aC C.length C.length), (8, .slice none 0 0), (9, .int .i64 0)] Le ∧ AB S [S7, S6, S] S' [(JF, .cells [.int .i64 (i : Int), .int .i64 s.value, .bool (s.kind == 2), .bool (CH s), .bool false, .int .i64 cu, .int .i64 (tw dw).n, .int .i64 (tw dw).d, .int .i64 0, .int .i64 0, .int .i64 0, .int .i64 0] 183 false true []), (IU, .cells s.cells 34 false true []), (B4, .cells (AP (mV [p, q, r, t])) 28 false true [])] [M5 av O]) ?_ ?_)
  ·
   refine A4 (idx := [0, 1, 2, 3, 4, 5, 6, 7, 8, 9, 10, 11, 12, 13, 14, 15, 16, 17, 18, 19, 20, 21, 22, 23]) rfl aP aP ?_; refine zg ?_; refine Ej (d := 68) rfl (fun P4 => ?_) (fun P4 => ?_)
   ·
    have ec : CH s = s.color := by unfold CH; rw [show (s.kind == 1) = _ from P4]; rfl
    refine zg ?_; refine pr rfl (Ak rfl rfl (v := AM [.int .i64 (i : Int), .int .i64 s.value, .bool (s.kind == 2), .bool s.color, .bool false, .int .i64 cu, .int .i64 (tw dw).n, .int .i64 (tw dw).d, .int .i64 0, .int .i64 0, .int .i64 0, .int .i64 0]) (by rfl)) ?_; refine IM hF hl rfl rfl rfl rfl rfl (z := [.int .i64 0, .int .i64 0, .bool false, .bool false, .bool false, .int .i64 0, .int .i64 0, .int .i64 0, .int .i64 0, .int .i64 0, .int .i64 0, .int .i64 0]) aP ?_; intro JF Lc hl
    refine pL hl 0 [.int .i64 (i : Int), .int .i64 s.value, .bool (s.kind == 2), .bool s.color, .bool false, .int .i64 cu, .int .i64 (tw dw).n, .int .i64 (tw dw).d, .int .i64 0, .int .i64 0, .int .i64 0, .int .i64 0] (h := fun Ld hl => ⟨zt, ?_⟩)
    refine zg ?_
    exact ⟨rfl, JF, sE, by rw [ec]; exact hl⟩
   have ec : CH s = false := by unfold CH; rw [show (s.kind == 1) = _ from P4]; rfl
   refine zg ?_; refine pr rfl (Ak rfl rfl (v := AM [.int .i64 (i : Int), .int .i64 s.value, .bool (s.kind == 2), .bool false, .bool false, .int .i64 cu, .int .i64 (tw dw).n, .int .i64 (tw dw).d, .int .i64 0, .int .i64 0, .int .i64 0, .int .i64 0]) (by rfl)) ?_; refine IM hF hl rfl rfl rfl rfl rfl (z := [.int .i64 0, .int .i64 0, .bool false, .bool false, .bool false, .int .i64 0, .int .i64 0, .int .i64 0, .int .i64 0, .int .i64 0, .int .i64 0, .int .i64 0]) aP ?_; intro JF Lc hl
   refine pL hl 0 [.int .i64 (i : Int), .int .i64 s.value, .bool (s.kind == 2), .bool false, .bool false, .int .i64 cu, .int .i64 (tw dw).n, .int .i64 (tw dw).d, .int .i64 0, .int .i64 0, .int .i64 0, .int .i64 0] (h := fun Ld hl => ⟨zt, ?_⟩)
   refine zg ?_
   exact ⟨rfl, JF, sE, by rw [ec]; exact hl⟩
  clear hl; rintro UR Kt ⟨JF, MI, hl⟩; refine AK MI ?_
  refine zg ?_; iterate 2 refine rr rfl (Ak rfl rfl (v := (tw 0).v) (by rfl)) ?_
  refine zg ?_; refine sL hl 0 [.int .i64 (i : Int), .int .i64 s.value, .bool (s.kind == 2), .bool (CH s), .bool false, .int .i64 cu, .int .i64 (tw dw).n, .int .i64 (tw dw).d, .int .i64 (tw 0).n, .int .i64 (tw 0).d, .int .i64 0, .int .i64 0] fun eG hl => ?_; refine zg ?_; refine sL hl 0 ((It.mk (i : Int) s.value (s.kind == 2) (CH s) false cu dw 0 0).cells) fun XH hl => ?_
  have hl : AB S [S7, S6, S] XH [(JF, .cells (It.mk (i : Int) s.value (s.kind == 2) (CH s) false cu dw 0 0).cells 183 false true []), (IU, .cells s.cells 34 false true []), (B4, .cells (AP (mV [p, q, r, t])) 28 false true [])] [M5 av O] := hl
  refine zA ?_; refine AV rfl (PV (fun Le S' => Af [(19, ptrTo JF 0), (18, .int .i64 (O.length : Int)), (49, .int .i64 (i : Int)), (48, .int .i64 R.length), (47, .slice a R.length cap), (15, .slice av O.length O.length), (14, .slice aT OT.length OT.length), (12, .slice aD D.length D.length), (11, .slice aC C.length C.length), (8, .slice none 0 0), (9, .int .i64 0)] Le ∧ AB S [S7, S6, S] S' [(JF, .cells (IC s i cu du dw).cells 183 false true []), (IU, .cells s.cells 34 false true []), (B4, .cells (AP (mV [p, q, r, t])) 28 false true [])] [M5 av O]) ?_ ?_)
  ·
   refine zg ?_
   constructor <;> intro iR
   ·
    obtain rfl : du = true := iR
    refine zg ?_; refine rr rfl (Ba rfl rfl (lN (z := 2) (Dk.AA hl.AA).2 rfl)) ?_
    refine zc hl rfl (ACW dw 3 2 (dw * 3 / 2) (hl.AA.3 hF) (by have := Aa.2; omega) (by decide) (by decide) (by decide) (by decide) (by have := Aa.1; omega) (by have := Aa.2; omega)) ?_; rintro v XI GD rfl hl
    refine zg ?_; refine sL hl 0 (({ (It.mk (i : Int) s.value (s.kind == 2) (CH s) false cu dw 0 0) with AS := dw * 3 / 2 } : It).cells) fun py hl => ?_; refine zg ?_; refine sL hl 0 (({ (It.mk (i : Int) s.value (s.kind == 2) (CH s) false cu dw 0 0) with AS := dw * 3 / 2, fix := true } : It).cells) fun S26 hl => ?_; refine zg ?_
    exact ⟨rfl, sE, hl⟩
   obtain rfl : du = false := iR
   refine Fl rfl ?_; refine AV rfl (Bz hl 90 (.bool ((s.kind == 2) || CH s || (cu == s.value))) ?_ rfl ?_)
   ·
    refine zg ?_
    constructor <;> intro R5
    ·
     refine zg ?_
     exact ⟨rfl, bl (by simp [show (s.kind == 2) = true from R5]), sB, hl⟩
    refine zg ?_
    constructor <;> intro iN
    ·
     refine zg ?_
     exact ⟨rfl, bl (by simp [show (CH s) = true from iN]), sB, hl⟩
    refine zg ?_
    exact ⟨rfl, bl (by simp [show (s.kind == 2) = false from R5, show (CH s) = false from iN]), sB, hl⟩
   intro XI hl
   refine zg ?_
   constructor <;> intro R5
   ·
    have e : IC s i cu false dw = { (It.mk (i : Int) s.value (s.kind == 2) (CH s) false cu dw 0 0) with fix := true } := by unfold IC; rw [Bool.false_or, R5]; rfl
    refine zg ?_; refine sL hl 0 (({ (It.mk (i : Int) s.value (s.kind == 2) (CH s) false cu dw 0 0) with fix := true } : It).cells) fun py hl => ?_; refine zg ?_
    exact ⟨rfl, sE, by rw [e]; exact hl⟩
   have e : IC s i cu false dw = (It.mk (i : Int) s.value (s.kind == 2) (CH s) false cu dw 0 0) := by unfold IC; rw [Bool.false_or, R5]; rfl
   refine zg ?_
   exact ⟨rfl, sE, by rw [e]; exact hl⟩
  clear hl; rintro Le4 S27 ⟨xy, hl⟩; refine AK xy ?_
  refine zg ?_; refine dL hl ((IC s i cu du dw).cells) Tryz.underlying157 fun AFc S28 xL hl => ?_; refine DX hl 0 rfl rfl (by simp) rfl rfl rfl rfl rfl rfl rfl Tryz.underlying157 Tryz.underlying157 rfl rfl aP (Bf (new := (IC s i cu du dw).cells) xL rfl) rfl rfl aP (by show O.length + 1 ≤ AQ; unfold AQ; omega) ?_; intro AFA S29 hl
  obtain ⟨AT, rfl⟩ : ∃ x, AFA = .slice x (O.length + 1) (O.length + 1) := AU.is (hl.gr _ aQ)
  refine zg ?_
  refine ⟨R.length - (i + 1), Q1, i + 1, AT, O ++ [IC s i cu du dw], Q1, rfl, by rw [MG, hO], ⟨rfl, rfl, rfl, congrArg some (congrArg (fun n => Value.slice AT n n) (by rw [ay]; rfl)), rfl, rfl, rfl, rfl, rfl, trivial⟩, ?_⟩
  rw [M5, EH]
  exact hl.tail.tail
 obtain rfl : i = R.length := dF Pz
 refine zg ?_
 rw [← hO] at eI
 rw [eI]
 exact y2 rfl rfl ⟨hl.AA, av, rfl, hl.gr _ aQ⟩
def Gx (M : List Int) (t : Int) (R : List Sg) : Bool := decide (ET (BQ M R) ≤ 64) && (decide ((Az t R).length ≤ 6) && decide (ET (BQ M R) * 2 ^ (Az t R).length ≤ 64))
def J6 (M : List Int) (t : Int) (R : List Sg) : Nat := ET (BQ M R) * 2 ^ (Az t R).length
theorem Xg {M : List Int} {t : Int} {R : List Sg} (h : Gx M t R = true) : ET (BQ M R) ≤ 64 ∧ (Az t R).length ≤ 6 ∧ ET (BQ M R) * 2 ^ (Az t R).length ≤ 64 := by
 unfold Gx at h
 simp only [Bool.and_eq_true, decide_eq_true_eq] at h
 exact h
theorem oP (a : Option Addr) (cap : Nat) (R : List Sg) (p q r t : Int) (hm : Ap p q r t = 0) (hF : Ad S) (hn : R.length ≤ 27) (hR : Br [p, q, r, t] R) (hv : Bh S (.slice a R.length cap) R) : CC Tryz.prog KK 93 [mV [p, q, r, t], .slice a R.length cap] S (fun v S' => AG S S' ∧ v = bif Gx [p, q, r, t] t R then AN [.int .i64 (ET (BQ [p, q, r, t] R) : Nat), .int .i64 (2 ^ (Az t R).length : Nat), .int .i64 0] else AN [.int .i64 0, .int .i64 0, .int .i64 15]) := by
 refine ce 34 Tryz.func93 fun hl => ?_; refine zg ?_; refine bL hl fun B2 S2 hl => ?_; refine zg ?_
 refine zc hl rfl (nt a cap R p q r t hm (hl.AA.3 hF) hn hR (hv.move (hl.since 0 rfl))) ?_; rintro v S3 Al rfl hl
 have KE : Gx [p, q, r, t] t R = (decide (ET (BQ [p, q, r, t] R) ≤ 64) && (decide ((Az t R).length ≤ 6) && decide (ET (BQ [p, q, r, t] R) * 2 ^ (Az t R).length ≤ 64))) := rfl
 by_cases h1 : ET (BQ [p, q, r, t] R) ≤ 64
 case neg =>
  rw [KE, decide_eq_false h1, if_neg h1]
  refine zg ?_
  refine Cw (CK (A7 rfl (A7 rfl (A7 rfl rfl))) ⟨hl.AA, rfl⟩)
 rw [if_pos h1]
 refine zg ?_
 refine zc hl rfl (nu a cap R p q r t hm (hl.AA.3 hF) hn hR (hv.move (hl.since 0 rfl))) ?_; rintro v S4 Ar rfl hl
 by_cases h2 : (Az t R).length ≤ 6
 case neg =>
  rw [KE, decide_eq_true h1, decide_eq_false h2, if_neg h2]
  refine zg ?_
  refine Cw (CK (A7 rfl (A7 rfl (A7 rfl rfl))) ⟨hl.AA, rfl⟩)
 rw [if_pos h2]
 have h3 : 2 ^ (Az t R).length ≤ 64 := Nat.le_trans (Nat.pow_le_pow_right Q1 h2) (by decide)
 rw [KE, decide_eq_true h1, decide_eq_true h2]
 clear KE
 generalize ET (BQ [p, q, r, t] R) = x at *
 generalize 2 ^ (Az t R).length = y at *
 have h4 := Nat.mul_le_mul h1 h3
 have e : (x : Int) * (y : Int) = ((x * y : Nat) : Int) := (Int.natCast_mul x y).symm
 refine zg ?_
 constructor <;> intro Fx
 ·
  have h5 : ¬ x * y ≤ 64 := dT Fx
  rw [decide_eq_false h5]
  refine zg ?_
  refine Cw (CK (A7 rfl (A7 rfl (A7 rfl rfl))) ⟨hl.AA, rfl⟩)
 have h5 : x * y ≤ 64 := dF Fx
 rw [decide_eq_true h5]
 refine zg ?_
 exact CK (A7 rfl (A7 rfl (A7 rfl rfl))) ⟨hl.AA, rfl⟩
theorem AD8 (a : Option Addr) (cap : Nat) (R : List Sg) (p q r t : Int) (hm : Ap p q r t = 0) (hF : Ad S) (hn : R.length ≤ 27) (hR : Br [p, q, r, t] R) (hv : Bh S (.slice a R.length cap) R) : CC Tryz.prog KK 82 [mV [p, q, r, t], .slice a R.length cap] S (fun v S' => AG S S' ∧ v = bif Gx [p, q, r, t] t R then AN [.int .i64 (J6 [p, q, r, t] t R : Nat), .int .i64 0] else AN [.int .i64 0, .int .i64 15]) := by
 refine ce 20 Tryz.func82 fun hl => ?_; refine zg ?_; refine bL hl fun B2 S2 hl => ?_; refine zg ?_
 refine zc hl rfl (oP a cap R p q r t hm (hl.AA.3 hF) hn hR (hv.move (hl.since 0 rfl))) ?_; rintro v S3 Al rfl hl
 cases hb : Gx [p, q, r, t] t R with
 | true =>
  have h := Xg hb
  have h3 : 2 ^ (Az t R).length ≤ 64 := Nat.le_trans (Nat.pow_le_pow_right Q1 h.2.1) (by decide)
  have h1 := h.1
  unfold J6
  generalize ET (BQ [p, q, r, t] R) = x at *
  generalize 2 ^ (Az t R).length = y at *
  have h4 := Nat.mul_le_mul h1 h3
  have e : (x : Int) * (y : Int) = ((x * y : Nat) : Int) := (Int.natCast_mul x y).symm
  refine zg ?_
  exact y2 rfl rfl ⟨hl.AA, by rw [e]; rfl⟩
 | false =>
  refine zg ?_
  exact y2 rfl rfl ⟨hl.AA, rfl⟩
theorem AD4 (a : Option Addr) (cap : Nat) (R : List Sg) (p q r t : Int) (hm : Ap p q r t = 0) (hF : Ad S) (hn : R.length ≤ 27) (hR : Br [p, q, r, t] R) (hv : Bh S (.slice a R.length cap) R) : CC Tryz.prog KK 73 [mV [p, q, r, t], .slice a R.length cap] S (fun v S' => AG S S' ∧ v = bif Gx [p, q, r, t] t R then AN [.int .i64 (J6 [p, q, r, t] t R : Nat), .int .i64 0] else AN [.int .i64 0, .int .i64 15]) := by
 refine ce 11 Tryz.func73 fun hl => ?_; refine zg ?_; refine bL hl fun B2 S2 hl => ?_; refine zg ?_
 refine zc hl rfl (AD8 a cap R p q r t hm (hl.AA.3 hF) hn hR (hv.move (hl.since 0 rfl))) ?_; rintro v S3 Al rfl hl
 cases hb : Gx [p, q, r, t] t R with
 | true =>
  refine zg ?_
  exact y2 rfl rfl ⟨hl.AA, rfl⟩
 | false =>
  refine zg ?_
  exact y2 rfl rfl ⟨hl.AA, rfl⟩
def nI : Nat → Int := fun n => (n : Int)
def JN (n : Nat) : List Nat → List Nat × Nat
 | [] => ([], n)
 | b :: r => ((JN n r).2 % b :: (JN n r).1, (JN n r).2 / b)
theorem gA (n : Nat) : ∀ L, (JN n L).2 ≤ n
 | [] => Nat.le_refl n
 | _ :: r => Nat.le_trans (Nat.div_le_self _ _) (gA n r)
theorem gB (n : Nat) : ∀ L, (JN n L).1.length = L.length
 | [] => rfl
 | _ :: r => congrArg (· + 1) (gB n r)
theorem oQ : ∀ (L : List Nat) (n : Nat) (a : Option Addr) (cap : Nat) {S : St}, Ad S → L.length ≤ 100 → n ≤ 5000 → (∀ b, b ∈ L → 1 ≤ b ∧ b ≤ 64) → A5 S (.slice a L.length cap) (L.map nI) → CC Tryz.prog KK 94 [.int .i64 (n : Int), .slice a L.length cap] S (fun v S' => AG S S' ∧ ∃ av, v = AN [.slice av L.length L.length, .int .i64 ((JN n L).2 : Nat)] ∧ AU S S' (Eu 3 1 ic (.slice av L.length L.length) ((JN n L).1.map nI)))
 | [], n, a, cap, S, hF, hk, hn, hb, hv => by
  refine ce 32 Tryz.func94 fun hl => ?_; refine zg ?_
  exact z2 rfl rfl ⟨hl.AA, none, rfl, .inl ⟨rfl, rfl, rfl⟩⟩
 | b :: L, n, a, cap, S, hF, hk, hn, hb, hv => by
  have hk : L.length + 1 ≤ 100 := hk
  refine ce 32 Tryz.func94 fun hl => ?_
  have G3 := hb b aQ
  have e0 : ((b :: L).length : Int) = (L.length : Int) + 1 := by show ((L.length + 1 : Nat) : Int) = _; omega
  refine zg ?_
  obtain ⟨a2, c2, hs, BY⟩ := hv.rest (t := 22) (k := 1) (hl.since 0 rfl) Tryz.underlying22 aP (by show 1 ≤ (L.map nI).length + 1; omega)
  have e1 : ((b :: L).map nI).drop 1 = L.map nI := rfl
  have e2 : (L.map nI).length = L.length := List.length_map _
  rw [e1, e2] at hs BY
  obtain ⟨b1, o1, Ai, ha, _, AY, Ab⟩ := hv.elem (k := 0) (x := (b : Int)) rfl
  refine rr rfl (LX rfl rfl rfl rfl rfl hs) ?_
  refine zc hl rfl (oQ L n a2 c2 hF Q1 hn (fun b h => hb b (cy h)) BY) ?_; rintro v S1 Al ⟨av, rfl, hg⟩ hl
  have vm := gA n L
  have hE : JN n (b :: L) = ((JN n L).2 % b :: (JN n L).1, (JN n L).2 / b) := rfl
  have Yo := gB n L
  generalize JN n L = d at *
  obtain ⟨O, m⟩ := d
  simp only at hE vm hg Yo
  rw [hE]
  have JZ := Nat.mod_lt m (show b > 0 by omega)
  have hdv := Nat.div_le_self m b
  have Yn : (O.map nI).length = L.length := by rw [cw, Yo]
  have hI : A5 S1 (.slice av L.length L.length) (O.map nI) := by
   have h := AU.ls (f := ic) (fun _ => rfl) hg
   exact h
  have hl := hl.mark
  refine zg ?_; refine A4 (idx := [0, 1, 2, 3, 4, 5, 6, 8, 9, 10, 11, 12, 7, 13, 14]) rfl aP aP ?_; refine zg ?_
  rw [ov]
  refine AB6 hF hl 1 rfl rfl rfl rfl rfl Tryz.underlying22 rfl (c := [.int .i64 ((m % b : Nat) : Int)]) aP rfl ?_; intro B24 v24 S2 hl
  obtain ⟨a24, rfl⟩ : ∃ x, v24 = .slice x 1 1 := AU.is (hl.gr _ aQ)
  refine zg ?_
  rw [oq]
  have P5 : El S2 1 L.length (.slice av L.length L.length) = some (((O.map nI).map ic).flatten) := by
   have h := hI.move (hl.since 0 rfl)
   rw [← Yn] at h
   have h := h.cells
   rw [Yn] at h
   exact h
  refine AB4 hl 0 rfl rfl (by simp) rfl rfl rfl rfl rfl rfl rfl Tryz.underlying22 Tryz.underlying22 rfl rfl aP P5 ((Da (f := ic) (z := 1) (fun _ => rfl) _).trans (by rw [cw, Yo])) (K6 (fun _ => rfl) _) aP (by show 1 + L.length ≤ AQ; unfold AQ; omega) ?_; intro v26 S3 hl; refine ⟨zt, ?_⟩
  obtain ⟨eN, rfl⟩ : ∃ x, v26 = .slice x (1 + L.length) (1 + L.length) := AU.is (hl.gr _ aQ)
  rw [Nat.add_comm 1 L.length] at hl ⊢
  refine zg ?_
  refine y2 rfl rfl ⟨hl.AA, eN, rfl, ?_⟩
  show AU _ _ ⟨.slice eN (L.length + 1) (L.length + 1), 3, 1, _, (O.map nI).length + 1⟩
  rw [Yn]
  exact hl.gr _ aQ
def GY (M : List Int) (t : Int) (R : List Sg) (n : Nat) : List Int := (Dd (BQ M R) (n / 2 ^ (Az t R).length % ET (BQ M R))).1
def Gs (t : Int) (R : List Sg) (n : Nat) : List Int := Hx (Az t R).length (n % 2 ^ (Az t R).length)
theorem sz {M : List Int} {R : List Sg} (hR : Br M R) : 0 < ET (BQ M R) := by
 have h := TQ hR
 unfold ET
 generalize BQ M R = G at *
 induction G with
 | nil => exact Nat.one_pos
 | cons C G ih =>
  rw [List.map_cons, List.prod_cons]
  exact Nat.mul_pos (h C aQ).1 (ih fun D hD => h D (cy hD))
theorem gP (M : List Int) (t : Int) (R : List Sg) (n : Nat) : (GY M t R n).length = (BQ M R).length := V0 _ _
theorem mI : ∀ (G : List (List Int)) (n : Nat), (∀ C, C ∈ G → 1 ≤ C.length) → ∀ (k : Nat) (x : Int) (C : List Int), nth (Dd G n).1 k = some x → nth G k = some C → x ∈ C
 | [], _, _, _, _, _, _, h => by cases h
 | D :: G, n, hG, 0, x, C, h1, h2 => by
  cases h2
  have h0 := hG D aQ
  obtain ⟨y, hy⟩ := Ac (l := D) (i := (Dd G n).2 % D.length) (Nat.mod_lt _ Q1)
  have h1 : some ((nth D ((Dd G n).2 % D.length)).getD 0) = some x := h1
  rw [hy] at h1
  cases h1
  exact Am hy
 | D :: G, n, hG, k + 1, x, C, h1, h2 => mI G n (fun C h => hG C (cy h)) k x C h1 h2
theorem gO {M : List Int} {t : Int} {R : List Sg} {n : Nat} (hR : Br M R) : ∀ k x C, nth (GY M t R n) k = some x → nth (BQ M R) k = some C → x ∈ C := mI _ _ fun C hC => (TQ hR C hC).1
theorem AA5 (t : Int) (R : List Sg) (n : Nat) : (Gs t R n).length = (Az t R).length := Xl _ _
theorem AA4 {t : Int} {R : List Sg} {n : Nat} : ∀ k x, nth (Gs t R n) k = some x → x = 1 ∨ x = 2 := fun k x h => by
 have h := Am h
 unfold Gs Hx at h
 obtain ⟨j, _, rfl⟩ := List.mem_map.1 h
 unfold RY
 split
 ·exact .inl rfl
 exact .inr rfl
theorem AD9 (a : Option Addr) (cap : Nat) (R : List Sg) (p q r t : Int) (hm : Ap p q r t = 0) (hF : Ad S) (hn : R.length ≤ 27) (hR : Br [p, q, r, t] R) (hv : Bh S (.slice a R.length cap) R) (n0 : Nat) (hb : Gx [p, q, r, t] t R = true) (D6 : n0 < J6 [p, q, r, t] t R) : CC Tryz.prog KK 83 [mV [p, q, r, t], .slice a R.length cap, .int .i64 (n0 : Int)] S (fun v S' => AG S S' ∧ ∃ ad ax, v = AN [.slice ad (GY [p, q, r, t] t R n0).length (GY [p, q, r, t] t R n0).length, .slice ax (Gs t R n0).length (Gs t R n0).length, .int .i64 0] ∧ A5 S' (.slice ad (GY [p, q, r, t] t R n0).length (GY [p, q, r, t] t R n0).length) (GY [p, q, r, t] t R n0) ∧ A5 S' (.slice ax (Gs t R n0).length (Gs t R n0).length) (Gs t R n0)) := by
 refine ce 67 Tryz.func83 fun hl => ?_; refine zg ?_; refine bL hl fun B3 S2 hl => ?_; refine zg ?_
 refine zc hl rfl (oP a cap R p q r t hm (hl.AA.3 hF) hn hR (hv.move (hl.since 0 rfl))) ?_; rintro v S3 Al rfl hl
 have h := Xg hb
 have HW := sz hR
 have h3 : 2 ^ (Az t R).length ≤ 64 := Nat.le_trans (Nat.pow_le_pow_right Q1 h.2.1) (by decide)
 have FU : 0 < 2 ^ (Az t R).length := Nat.two_pow_pos _
 have h1 := h.1
 have h2 := h.2.1
 have h6 := h.2.2
 unfold J6 at D6
 have eD : GY [p, q, r, t] t R n0 = (Dd (BQ [p, q, r, t] R) (n0 / 2 ^ (Az t R).length % ET (BQ [p, q, r, t] R))).1 := rfl
 have eP : Gs t R n0 = Hx (Az t R).length (n0 % 2 ^ (Az t R).length) := rfl
 rw [hb, eD, eP]
 clear eD eP h
 obtain ⟨x, hx⟩ : ∃ x, x = ET (BQ [p, q, r, t] R) := ⟨_, rfl⟩
 obtain ⟨y, hy⟩ : ∃ y, y = 2 ^ (Az t R).length := ⟨_, rfl⟩
 rw [← hx, ← hy] at h6 D6
 rw [← hx] at h1 HW
 rw [← hy] at h3 FU
 rw [← hx, ← hy]
 have h4 := Nat.mul_le_mul h1 h3
 have e : (x : Int) * (y : Int) = ((x * y : Nat) : Int) := (Int.natCast_mul x y).symm
 refine zg ?_
 constructor <;> intro Ge
 ·exact absurd (oTr Ge) (by rw [e]; omega)
 refine zg ?_; refine dL hl [.int .i64 (x : Int), .int .i64 (y : Int)] Tryz.underlying22 fun RC S4 Om hl => ?_
 have vl : CC Tryz.prog KK 94 [.int .i64 (n0 : Int), .slice (some ⟨RC, 0, none⟩) 2 2] S4 (fun v S' => AG S4 S' ∧ ∃ av, v = AN [.slice av 2 2, .int .i64 ((n0 / y / x : Nat) : Int)] ∧ AU S4 S' (Eu 3 1 ic (.slice av 2 2) [((n0 / y % x : Nat) : Int), ((n0 % y : Nat) : Int)])) := oQ [x, y] n0 (some ⟨RC, 0, none⟩) 2 (hl.AA.3 hF) (by show 2 ≤ 100; omega) Q1 (fun b hb => by rcases List.mem_cons.1 hb with rfl | hb; omega; rw [List.mem_singleton.1 hb]; omega) (AZ.row (f := ic) (C := [(x : Int), (y : Int)]) (fun _ => rfl) Om rfl)
 refine zc hl rfl vl ?_; rintro v S5 Ar ⟨ak, rfl, hg⟩ hl
 have hI : A5 S5 (.slice ak 2 2) [((n0 / y % x : Nat) : Int), ((n0 % y : Nat) : Int)] := AU.ls (f := ic) (fun _ => rfl) hg
 obtain ⟨b1, o1, Ai, ha, _, AY, Ab⟩ := hI.elem (k := 0) rfl
 have hl := hl.mark
 have Y7 := Nat.mod_lt (n0 / y) HW
 have SY := Nat.mod_lt n0 FU
 refine zg ?_; refine A4 (idx := [0, 1, 2, 3, 4, 5, 6, 7, 8, 9, 10]) rfl aP aP ?_; refine zg ?_
 refine zp hl rfl (AED a cap R p q r t (n0 / y % x) hm (hl.AA.3 hF) hn hR (by rw [← hx]; exact h1) (by rw [← hx]; exact Y7) (hv.move (hl.since 1 rfl))) ?_; rintro v S6 Bt ⟨ad, rfl, hz⟩ hl; refine ⟨zt, ?_⟩
 have hl := hl.mark
 refine zg ?_
 obtain ⟨b2, o2, Hy, Eb, _, LH, LJ⟩ := hI.elem (k := 1) rfl
 refine A4 (idx := [0, 1, 2, 3, 4, 5, 6, 7, 8, 9, 10]) rfl aP aP ?_; refine zg ?_
 refine zp hl rfl (AEE a cap R p q r t (Az t R).length (n0 % y) rfl h2 (by rw [← hy]; exact SY) hm (hl.AA.3 hF) hn hR (hv.move (hl.since 2 rfl))) ?_; rintro v S7 GD ⟨ax, rfl, Zm⟩ hl; refine ⟨zt, ?_⟩
 refine zg ?_
 exact CK (A7 rfl (A7 rfl (A7 rfl rfl))) ⟨hl.AA, ad, ax, rfl, hz.move (hl.since 0 rfl), AU.ls (f := ic) (fun _ => rfl) Zm⟩
def MK (k : Int) (u : Nat) (l : List PD) : Nat := l.foldl (fun m d => match Dr k u d.1 with
    | some N => N.length
    | none => m) 0
theorem Z3 (k : Int) (u : Nat) (P : List Pt) : KW k u P = MK k u (P.map Pt.Av) := by
 unfold KW MK
 rw [List.foldl_map]
 rfl
def LZ (k : Int) (u : Nat) (d : PD) : Bool := (Dr k u d.1).isSome
theorem gj (k : Int) (u : Nat) (P : List Pt) : (P.filter (Jp k u)).map Pt.Av = (P.map Pt.Av).filter (LZ k u) := by
 rw [List.filter_map]
 rfl
def IG (k : Int) (u : Nat) (l : List PD) : Option (List PD) := (HD k u (MK k u l) (l.filter (LZ k u))).map fun l => l.map (XU k u)
def GI (M : List Int) : List Int → List PD → Option (List PD)
 | [], l => some l
 | k :: ks, l => match IG k (Bc M (k.toNat + 1)) l with
  | none => none
  | some l => GI M ks l
theorem r8 {k : Int} {i : Nat} {x y : It} (h : Cv x = Cv y) : GU k i x = GU k i y := by
 unfold Cv at h
 simp only [Prod.mk.injEq] at h
 obtain ⟨_, e2, e3, e4, e5, e6⟩ := h
 unfold GU
 rw [e2, e4, e6]
theorem fL {k : Int} : ∀ {L0 L : List It} (i : Nat), L.map Cv = L0.map Cv → Gw k i L = Gw k i L0
 | [], [], _, _ => rfl
 | [], _ :: _, _, h => by cases h
 | _ :: _, [], _, h => by cases h
 | y :: L0, x :: L, i, h => by
  simp only [List.map_cons, List.cons.injEq] at h
  show GU k i x ++ Gw k (i + 1) L = GU k i y ++ Gw k (i + 1) L0
  rw [r8 h.1, fL (i + 1) h.2]
theorem Wd (L : List It) : ∀ bs : List Bd, (CX L bs).length = bs.length - 1
 | [] => rfl
 | [_] => rfl
 | c :: b :: r => by
  show (CX L (b :: r)).length + 1 = _
  rw [Wd L (b :: r)]
  simp
theorem cB {k : Int} {u : Nat} {L0 L : List It} {N N0 : List Se} (h : L.map Cv = L0.map Cv) (h1 : Dr k u L = some N) (h2 : Dr k u L0 = some N0) : N.length = N0.length := by
 have e1 := (Tt h1).1
 have e2 := (Tt h2).1
 have hl : L.length = L0.length := by
  have := congrArg List.length h
  simpa using this
 rw [e1, e2, Wd, Wd]
 unfold Hw
 rw [fL 0 h, hl]
theorem ACO {k : Int} {u : Nat} {L : List It} {N : List Se} (h : Dr k u L = some N) : 0 < N.length := by
 rw [(Tt h).1, Wd]
 unfold Hw
 simp
theorem Bg.self {k : Int} {u : Nat} {L0 L : List It} (h : Bg k u L0 L) : Bg k u L L := by
 refine ⟨rfl, h.j, fun x hx => ?_⟩
 obtain ⟨i, hi⟩ := KX hx
 obtain ⟨y, hy⟩ := Ac (l := L0) (i := i) (by rw [← h.len]; exact CS hi)
 have e := We h.sh hi hy
 have hg := h.g y (Am hy)
 unfold Cv at e
 simp only [Prod.mk.injEq] at e
 obtain ⟨_, e2, e3, e4, e5, e6⟩ := e
 rw [e2, e3, e4, e5, e6]
 exact hg
theorem Bg.next {k k2 : Int} {u u2 : Nat} {L : List It} (h : Bg k u L L) (hk : k2 < k) (hu : u ≤ 324) : Bg k2 u2 L L := by
 refine ⟨rfl, fun x hx => .inl ?_, h.g⟩
 rcases h.j x hx with h1 | ⟨h1, h2, h3⟩
 ·split at h1
  ·rw [if_pos Q1]; exact h1
  omega
 rw [if_pos Q1]; omega
theorem gq {k : Int} {u : Nat} {L0 : List It} (hu : 0 < u ∧ u ≤ 324) : ∀ (C : List Int) (N : List Se) (L : List It) (M : List Int) {L' : List It} {M' : List Int}, Bg k u L0 L → (∀ s, s ∈ N → Ib L0 k s) → EG k u L M N C = some (L', M') → Bg k u L0 L'
 | [], N, L, M, L', M', h, _, e => by
  rw [ON] at e
  cases e
  exact h
 | c :: C, [], L, M, L', M', h, _, e => by cases e
 | c :: C, s :: N, L, M, L', M', h, hN, e => by
  unfold EG at e
  split at e
  ·rename_i hc
   exact gq hu C N _ _ (Xk h (hN s aQ) hu hc) (fun s h => hN s (cy h)) e
  cases e
theorem gu {k : Int} {u : Nat} {c : Int} : ∀ (C : List Int) (N : List Se) (L : List It) (M : List Int) {L' : List It} {M' : List Int} {s : Se}, EG k u L M N C = some (L', M') → nth N C.length = some s → c ∈ E8 L' k u M' s → EG k u L M N (C ++ [c]) = some (Ky u s L' c, Uo s M' c)
 | [], [], L, M, L', M', s, _, h, _ => by cases h
 | [], z :: N, L, M, L', M', s, e, h, hc => by
  rw [ON] at e
  cases e
  cases h
  show EG k u L M (z :: N) (c :: []) = _
  unfold EG
  rw [if_pos hc, ON]
 | x :: C, [], L, M, L', M', s, e, _, _ => by cases e
 | x :: C, z :: N, L, M, L', M', s, e, h, hc => by
  unfold EG at e
  split at e
  ·rename_i hx
   show EG k u L M (z :: N) (x :: (C ++ [c])) = _
   unfold EG
   rw [if_pos hx]
   exact gu C N _ _ e h hc
  cases e
structure UW (k : Int) (u : Nat) (sh : List (Int × Int × Bool × Bool × Bool × Int)) (c m j : Nat) (d : PD) : Prop where
 s : d.1.map Cv = sh
 lv : Bg k u d.1 d.1
 n : d.2.1.length = j
 m : d.2.2.length ≤ m
 f : ∃ N L' M', Dr k u d.1 = some N ∧ N.length = c ∧ EG k u d.1 [] N d.2.1 = some (L', M')
theorem sF {k : Int} {u : Nat} {sh : List (Int × Int × Bool × Bool × Bool × Int)} {c m j : Nat} {d e : PD} (h : UW k u sh c m j d) (he : e ∈ GX k u d) : UW k u sh c m (j + 1) e := by
 obtain ⟨L, C, D⟩ := d
 obtain ⟨h1, h2, h3, h4, N, L', M', h5, h6, h7⟩ := h
 simp only at h1 h2 h3 h4 h5 h7
 unfold GX at he
 obtain ⟨x, hx, rfl⟩ := List.mem_map.1 he
 unfold Mp at hx
 simp only [h5, h7] at hx
 split at hx
 ·exact (List.not_mem_nil hx).elim
 cases hs : nth N C.length with
 | none => rw [hs] at hx; exact (List.not_mem_nil hx).elim
 | some s =>
  rw [hs] at hx
  exact ⟨h1, h2, by show (C ++ [x]).length = _; rw [ay, h3]; rfl, h4, N, _, _, h5, h6, gu C N L [] h7 hs hx⟩
theorem c4 {k : Int} {u : Nat} {sh : List (Int × Int × Bool × Bool × Bool × Int)} {c m : Nat} : ∀ (n j : Nat) (l : List PD) {l' : List PD}, (∀ d, d ∈ l → UW k u sh c m j d) → l.length ≤ 4096 → HD k u n l = some l' → (∀ d, d ∈ l' → UW k u sh c m (j + n) d) ∧ l'.length ≤ 4096
 | 0, j, l, l', h, hl, e => by
  cases e
  exact ⟨h, hl⟩
 | n + 1, j, l, l', h, hl, e => by
  unfold HD at e
  split at e
  ·cases e
  rename_i h9
  have := c4 n (j + 1) _ (fun d hd => by
   obtain ⟨d0, h0, h1⟩ := List.mem_flatMap.1 hd
   exact sF (h d0 h0) h1) Q1 e
  rw [show j + 1 + n = j + (n + 1) by omega] at this
  exact this
theorem Z4 {k : Int} {u c : Nat} (l : List PD) (h : ∀ d, d ∈ l → ∀ N, Dr k u d.1 = some N → N.length = c) (h2 : ∃ d, d ∈ l.filter (LZ k u)) : MK k u l = c := by
 unfold MK
 have key : ∀ (l : List PD) (m : Nat), (∀ d, d ∈ l → ∀ N, Dr k u d.1 = some N → N.length = c) → (m = c ∨ ∃ d, d ∈ l.filter (LZ k u)) → l.foldl (fun m d => match Dr k u d.1 with
   | some N => N.length
   | none => m) m = c := by
  intro l
  induction l with
  | nil =>
   rintro m _ (h | ⟨d, hd⟩)
   ·exact h
   exact (List.not_mem_nil hd).elim
  | cons d l ih =>
   intro m h h2
   rw [List.foldl_cons]
   cases hs : Dr k u d.1 with
   | some N => exact ih _ (fun e he => h e (cy he)) (.inl (h d aQ N hs))
   | none =>
    refine ih _ (fun e he => h e (cy he)) ?_
    rcases h2 with h2 | ⟨e, he⟩
    ·exact .inl h2
    rw [List.filter_cons_of_neg (by unfold LZ; rw [hs]; decide)] at he
    exact .inr ⟨e, he⟩
 exact key l 0 h (.inr h2)
structure IW (k : Int) (u : Nat) (sh : List (Int × Int × Bool × Bool × Bool × Int)) (m : Nat) (d : PD) : Prop where
 s : d.1.map Cv = sh
 lv : Bg k u d.1 d.1
 n : d.2.1 = []
 m : d.2.2.length ≤ m
theorem Z2 {k : Int} {u : Nat} {sh : List (Int × Int × Bool × Bool × Bool × Int)} {m : Nat} {l l' : List PD} (hu : 0 < u ∧ u ≤ 324) (hs : sh.length ≤ 27) (h : ∀ d, d ∈ l → IW k u sh m d) (hl : l.length ≤ 4096) (e : IG k u l = some l') : (∀ d, d ∈ l' → IW k u sh (m + 60) d) ∧ l'.length ≤ 4096 := by
 unfold IG at e
 by_cases h0 : ∃ d, d ∈ l.filter (LZ k u)
 case neg =>
  have e0 : l.filter (LZ k u) = [] := List.eq_nil_iff_forall_not_mem.2 fun d hd => h0 ⟨d, hd⟩
  rw [e0] at e
  have Ag : ∀ n, HD k u n [] = some [] := fun n => by
   induction n with
   | zero => rfl
   | succ n ih => unfold HD; rw [if_neg (by simp)]; exact ih
  rw [Ag] at e
  cases e
  exact ⟨fun d hd => (List.not_mem_nil hd).elim, Nat.zero_le _⟩
 obtain ⟨d0, NK⟩ := h0
 obtain ⟨h1, h2⟩ := List.mem_filter.1 NK
 obtain ⟨N0, OZ⟩ := Option.isSome_iff_exists.1 h2
 have hc : ∀ d, d ∈ l → ∀ N, Dr k u d.1 = some N → N.length = N0.length := fun d hd N hN => cB ((h d hd).s.trans (h d0 h1).s.symm) hN OZ
 rw [Z4 l hc ⟨d0, NK⟩] at e
 have AFu : N0.length ≤ 60 := (Qw OZ (by have := congrArg List.length (h d0 h1).s; rw [cw] at this; omega)).2
 cases Ag : HD k u N0.length (l.filter (LZ k u)) with
 | none => rw [Ag] at e; cases e
 | some l2 =>
  rw [Ag] at e
  cases e
  obtain ⟨h3, h4⟩ := c4 (sh := sh) (c := N0.length) (m := m) N0.length 0 _ (fun d hd => by
   obtain ⟨h5, h6⟩ := List.mem_filter.1 hd
   obtain ⟨N, hN⟩ := Option.isSome_iff_exists.1 h6
   have h7 := h d h5
   exact ⟨h7.s, h7.lv, by rw [h7.n]; rfl, h7.m, N, d.1, [], hN, hc d h5 N hN, by rw [h7.n, ON]⟩) (Nat.le_trans (List.length_filter_le ..) hl) Ag
  refine ⟨fun d hd => ?_, by rw [cw]; exact h4⟩
  obtain ⟨e0, NL, rfl⟩ := List.mem_map.1 hd
  obtain ⟨g1, g2, g3, g4, N, L', M', g5, g6, g7⟩ := h3 e0 NL
  rw [Nat.zero_add] at g3
  have SE : Ic k u e0.1 e0.2.1 = some L' := by
   unfold Ic
   simp only [g5, g7]
   rw [if_neg Q1]
  have VZ : Bg k u e0.1 L' := gq hu _ _ _ _ g2 (fun s DI => ((Qw g5 (by have := congrArg List.length g1; rw [cw] at this; omega)).1 s DI).1) g7
  refine ⟨?_, ?_, rfl, ?_⟩
  ·show ((Ic k u e0.1 e0.2.1).getD []).map Cv = sh
   rw [SE]
   exact VZ.sh.trans g1
  ·show Bg k u ((Ic k u e0.1 e0.2.1).getD []) ((Ic k u e0.1 e0.2.1).getD [])
   rw [SE]
   exact VZ.self
  show (e0.2.2 ++ e0.2.1).length ≤ _
  rw [ay]
  omega
theorem zo : (KY.all fun M => decide ((BK M 4).length ≤ 4) && (BK M 4).all fun k => decide (0 ≤ k) && decide (k ≤ 10) && decide (0 < Bc M (k.toNat + 1)) && decide (Bc M (k.toNat + 1) ≤ 324)) = true := by kernel_rfl
theorem zq : (KY.all fun M => decide ((BK M 4).Pairwise (fun a b => b < a))) = true := by kernel_rfl
theorem Vt {p q r t : Int} (h : Ap p q r t = 0) : (BK [p, q, r, t] 4).length ≤ 4 ∧ ∀ k, k ∈ (BK [p, q, r, t] 4) → (0 ≤ k ∧ k ≤ 10) ∧ 0 < Bc [p, q, r, t] (k.toNat + 1) ∧ Bc [p, q, r, t] (k.toNat + 1) ≤ 324 := by
 have := List.all_eq_true.1 zo _ (MM h)
 rw [Bool.and_eq_true, decide_eq_true_eq] at this
 refine ⟨this.1, fun k hk => ?_⟩
 have := List.all_eq_true.1 this.2 k hk
 simp only [Bool.and_eq_true, decide_eq_true_eq] at this
 exact ⟨⟨this.1.1.1, this.1.1.2⟩, this.1.2, this.2⟩
theorem Z1 {p q r t : Int} (h : Ap p q r t = 0) : (BK [p, q, r, t] 4).Pairwise fun a b => b < a := oTr (List.all_eq_true.1 zq _ (MM h))
structure Rd where
 a1 : Option Addr
 n1 : Nat
 a2 : Option Addr
 n2 : Nat
 a3 : Option Addr
 n3 : Nat
 aT : Option Addr
 T : List Ti
def Rd.cells (r : Rd) : List Value := [.slice r.a1 r.n1 r.n1, .slice r.a2 r.n2 r.n2, .slice r.a3 r.n3 r.n3, .slice r.aT r.T.length r.T.length]
def Rd.v (r : Rd) : Value := AM r.cells
def Rd.Ok (S : St) (r : Rd) : Prop := Ku S (.slice r.aT r.T.length r.T.length) r.T
theorem Rd.Ok.move {S T : St} {r : Rd} (h : r.Ok S) (hk : RK S T) : r.Ok T := AZ.move hk h
abbrev XG := AZ 120 4 Rd.cells
abbrev US (av : Option Addr) (O : List Rd) (fr : List (Nat × AD)) : Prop := OW (.slice av O.length O.length) 120 4 ((O.map Rd.cells).flatten) O.length fr
def Ih (d : PD) : List Ti := (Ah d.1).map tw
def F' (M : List Int) (t : Int) (R : List Sg) (n : Nat) : Option (List (List Ti)) := (GI M (BK M 4) [(EM M t R (GY M t R n) (Gs t R n), [], [])]).map fun l => l.map Ih
theorem Xm {x : Int} : ∀ {C : List Int}, x ∈ Cg C → x ∈ C
 | [], h => (List.not_mem_nil h).elim
 | [v], h => by
  change x ∈ (if 0 < v then [v] else []) at h
  split at h
  ·exact h
  exact (List.not_mem_nil h).elim
 | [v, w], h => by
  change x ∈ (if 0 < w then [w, v] else [v]) at h
  split at h
  ·rcases List.mem_cons.1 h with rfl | h
   ·exact cy aQ
   rw [List.mem_singleton.1 h]; exact aQ
  rw [List.mem_singleton.1 h]; exact aQ
 | _ :: _ :: _ :: _, h => (List.not_mem_nil h).elim
theorem AAQ {p q r t : Int} (hm : Ap p q r t = 0) {s : Sg} (hs : NR s) : ∀ x, x ∈ C9 [p, q, r, t] s → 0 ≤ x ∧ x ≤ 8 := fun x hx => by
 obtain ⟨v, hv⟩ : ∃ v : Nat, s.value = (v : Int) := ⟨s.value.toNat, by have := hs.v; omega⟩
 have BY : 2 ≤ v ∧ v ≤ 6 := by have := hs.v; omega
 have ND := eU hm BY
 unfold C9 at hx
 rw [hv] at hx
 have h1 : x = 0 ∨ x = (v : Int) ∨ x = Bb [p, q, r, t] v := by
  cases h : s.kind == 2 with
  | true => rw [h] at hx; exact .inr (.inr (List.mem_singleton.1 (Xm (C := [Bb [p, q, r, t] v]) hx)))
  | false =>
   rw [h] at hx
   cases h2 : s.color with
   | true => rw [h2] at hx; exact .inl (List.mem_singleton.1 hx)
   | false =>
    rw [h2] at hx
    cases h3 : IL [p, q, r, t] ((v : Int)).toNat == 3 with
    | true =>
     rw [h3] at hx
     rcases List.mem_cons.1 (Xm (C := [(v : Int), Bb [p, q, r, t] v]) hx) with h | h
     ·exact .inr (.inl h)
     exact .inr (.inr (List.mem_singleton.1 h))
    | false =>
     rw [h3] at hx
     rcases List.mem_cons.1 hx with h | h
     ·exact .inl h
     exact .inr (.inr (List.mem_singleton.1 (Xm (C := [Bb [p, q, r, t] v]) h)))
 omega
theorem AAT {p q r t : Int} {R : List Sg} (hm : Ap p q r t = 0) (hR : Br [p, q, r, t] R) : ∀ C, C ∈ BQ [p, q, r, t] R → ∀ x, x ∈ C → 0 ≤ x ∧ x ≤ 8 := fun C hC x hx => by
 unfold BQ at hC
 obtain ⟨d, hd, rfl⟩ := List.mem_map.1 hC
 obtain ⟨j, hj⟩ := KX hd
 obtain ⟨k, s, rfl, _, hN, _, hk⟩ := Xr hR hj
 have e : ((k + 1 : Nat) : Int).toNat - 1 = k := by omega
 rw [e, hk] at hx
 exact AAQ hm hN.nr x hx
theorem Xt {p q r t : Int} {R : List Sg} {n : Nat} (hm : Ap p q r t = 0) (hR : Br [p, q, r, t] R) : ∀ x, x ∈ GY [p, q, r, t] t R n → 0 ≤ x ∧ x ≤ 8 := fun x hx => by
 obtain ⟨k, hk⟩ := KX hx
 obtain ⟨C, hC⟩ := Ac (l := BQ [p, q, r, t] R) (i := k) (by rw [← gP [p, q, r, t] t R n]; exact CS hk)
 exact AAT hm hR C (Am hC) x (gO hR k x C hk hC)
theorem AAO {X : List Int} (hX : ∀ x, x ∈ X → 0 ≤ x ∧ x ≤ 8) : ∀ R : List Sg, ∀ y, y ∈ (Bm X R).1 → 0 ≤ y ∧ y ≤ 8 := by
 have hg : ∀ k, 0 ≤ (nth X k).getD 0 ∧ (nth X k).getD 0 ≤ 8 := fun k => by
  cases h : nth X k with
  | none => exact ⟨Int.le_refl 0, by decide⟩
  | some x => exact hX x (Am h)
 have key : ∀ (R : List Sg) (st : List Int × List Bool × Nat), (∀ y, y ∈ st.1 → 0 ≤ y ∧ y ≤ 8) → ∀ y, y ∈ (R.foldl (MO X) st).1 → 0 ≤ y ∧ y ≤ 8 := by
  intro R
  induction R with
  | nil => intro st h; exact h
  | cons s R ih =>
   intro st h
   refine ih _ fun y hy => ?_
   unfold MO at hy
   cases hk : s.kind == 3 with
   | true =>
    rw [hk] at hy
    rcases List.mem_or_eq_of_mem_set hy with hy | rfl
    ·exact h y hy
    exact hg _
   | false =>
    rw [hk] at hy
    rcases List.mem_append.1 hy with hy | hy
    ·exact h y hy
    rw [List.mem_singleton.1 hy]; exact ⟨Int.le_refl 0, by decide⟩
 exact fun R => key R _ fun y hy => (List.not_mem_nil hy).elim
theorem ka {p q r t : Int} {R : List Sg} {X Y : List Int} (hm : Ap p q r t = 0) (hR : Br [p, q, r, t] R) (hX : ∀ x, x ∈ X → 0 ≤ x ∧ x ≤ 8) : ∀ x, x ∈ EM [p, q, r, t] t R X Y → x.AS + x.AE + x.BI ≤ 1000 ∧ (1 ≤ x.val ∧ x.val ≤ 8) ∧ (0 ≤ x.cut ∧ x.cut ≤ 8) ∧ (x.rest && x.Cz) = false ∧ ((x.rest || x.Cz) && !x.fix) = false := fun x hx => by
 unfold EM Je at hx
 obtain ⟨i, _, hi⟩ := List.mem_flatMap.1 hx
 have hd := gG (Y := Y) hm hR
 have hc := AAO hX R
 generalize (Bm X R).1 = C at *
 generalize (Bm X R).2.1 = D at *
 generalize FT [p, q, r, t] t R Y = T at *
 unfold Jf at hi
 cases hs : nth R i with
 | none => rw [hs] at hi; exact (List.not_mem_nil hi).elim
 | some s =>
  rw [hs] at hi
  simp only at hi
  cases hk : s.kind == 3 with
  | true => rw [hk] at hi; exact (List.not_mem_nil hi).elim
  | false =>
   rw [hk] at hi
   have ME : NR s := by
    rcases hR i s hs with h | ⟨rfl, _⟩
    ·exact h.nr
    cases hk
   have hv := ME.v
   have LA : 0 ≤ (nth C (ct (R.take i))).getD 0 ∧ (nth C (ct (R.take i))).getD 0 ≤ 8 := by
    cases h : nth C (ct (R.take i)) with
    | none => exact ⟨Int.le_refl 0, by decide⟩
    | some x => exact hc x (Am h)
   have hdw : (nth T (ct (R.take i))).getD 0 ≤ 324 := by
    cases h : nth T (ct (R.take i)) with
    | none => exact Nat.zero_le _
    | some x => exact (hd x (Am h)).2
   rw [List.mem_singleton.1 hi]
   generalize (nth C (ct (R.take i))).getD 0 = cu at *
   generalize (nth T (ct (R.take i))).getD 0 = dw at *
   generalize (nth D (ct (R.take i))).getD false = ad
   refine ⟨?_, ⟨by show 1 ≤ s.value; omega, by show s.value ≤ 8; omega⟩, LA, ?_, ?_⟩
   ·show (bif ad then dw * 3 / 2 else dw) + 0 + 0 ≤ 1000
    cases ad
    ·show dw + 0 + 0 ≤ 1000; omega
    show dw * 3 / 2 + 0 + 0 ≤ 1000; omega
   ·show ((s.kind == 2) && CH s) = false
    unfold CH
    rcases ME.k with h | ⟨h, _⟩ <;> rw [h] <;> rfl
   show (((s.kind == 2) || CH s) && !(ad || (s.kind == 2) || CH s || (cu == s.value))) = false
   cases s.kind == 2 <;> cases CH s <;> cases ad <;> rfl
theorem Zw {p q r t : Int} {R : List Sg} {X Y : List Int} (hm : Ap p q r t = 0) (hR : Br [p, q, r, t] R) (hX : ∀ x, x ∈ X → 0 ≤ x ∧ x ≤ 8) (k : Int) (u : Nat) : IW k u ((EM [p, q, r, t] t R X Y).map Cv) 0 (EM [p, q, r, t] t R X Y, [], []) :=
 ⟨rfl, ⟨rfl, fun x hx => .inl (Nat.le_trans (ka hm hR hX x hx).1 (Nat.le_add_right _ _)), fun x hx => (ka hm hR hX x hx).2⟩, rfl, Nat.le_refl 0⟩
theorem IW.next {k k2 : Int} {u u2 m : Nat} {sh : List (Int × Int × Bool × Bool × Bool × Int)} {d : PD} (h : IW k u sh m d) (hk : k2 < k) (hu : u ≤ 324) : IW k2 u2 sh m d := ⟨h.s, h.lv.next hk hu, h.n, h.m⟩
theorem z8 {k : Int} {u : Nat} {l : List PD} (h : ∀ d, d ∈ l → d.1.length ≤ 27) : MK k u l ≤ 60 := by
 unfold MK
 have key : ∀ (l : List PD) (m : Nat), m ≤ 60 → (∀ d, d ∈ l → d.1.length ≤ 27) → l.foldl (fun m d => match Dr k u d.1 with
   | some N => N.length
   | none => m) m ≤ 60 := by
  intro l
  induction l with
  | nil => intro m hm _; exact hm
  | cons d l ih =>
   intro m hm h
   rw [List.foldl_cons]
   cases hs : Dr k u d.1 with
   | some N => exact ih _ (Qw hs (h d aQ)).2 (fun e he => h e (cy he))
   | none => exact ih _ hm (fun e he => h e (cy he))
 exact key l 0 Q1 h
theorem z9 {k : Int} {u : Nat} {sh : List (Int × Int × Bool × Bool × Bool × Int)} {m : Nat} {l : List PD} (h : ∀ d, d ∈ l → IW k u sh m d) (h2 : ∃ d, d ∈ l.filter (LZ k u)) : 0 < MK k u l := by
 obtain ⟨d0, NK⟩ := h2
 obtain ⟨h1, h2⟩ := List.mem_filter.1 NK
 obtain ⟨N0, OZ⟩ := Option.isSome_iff_exists.1 h2
 rw [Z4 l (c := N0.length) (fun d hd N hN => cB ((h d hd).s.trans (h d0 h1).s.symm) hN OZ) ⟨d0, NK⟩]
 exact ACO OZ
theorem Vr {M : List Int} {k : Int} {ks : List Int} {l l2 : List PD} (h : IG k (Bc M (k.toNat + 1)) l = some l2) : GI M (k :: ks) l = GI M ks l2 := by
 show (match IG k (Bc M (k.toNat + 1)) l with
  | none => none
  | some l => GI M ks l) = _
 rw [h]
theorem qZ {S : St} (a : Option Addr) (cap : Nat) (P : List Pt) (p q r t : Int) (k : Int) (sh : List (Int × Int × Bool × Bool × Bool × Int)) (m : Nat) (hm : Ap p q r t = 0) (hk : k ∈ (BK [p, q, r, t] 4)) (hs : sh.length ≤ 27) (SY : m ≤ 240) (hP : P.length ≤ 4096) (hl : ∀ d, d ∈ P.map Pt.Av → IW k (Bc [p, q, r, t] (k.toNat + 1)) sh m d) (hF : Ad S) (hv : IY S (.slice a P.length cap) P) (A3 : ∀ x, x ∈ P → x.Ok S) : CC Tryz.prog KK 86 [mV [p, q, r, t], .int .i64 k, .slice a P.length cap] S (fun v S' => AG S S' ∧ match IG k (Bc [p, q, r, t] (k.toNat + 1)) (P.map Pt.Av) with
  | none => v = AN [.slice none 0 0, .int .i64 15]
  | some l => ∃ av O, v = AN [.slice av O.length O.length, .int .i64 0] ∧ IY S' (.slice av O.length O.length) O ∧ (∀ y, y ∈ O → y.Ok S') ∧ O.map Pt.Av = l) := by
 have h4 := (Vt hm).2 k hk
 have hlen : ∀ x : Pt, x ∈ P → x.L.length ≤ 27 := fun x hx => by
  have h := (hl x.Av (List.mem_map.2 ⟨x, hx, rfl⟩)).s
  have h := congrArg List.length h
  rw [cw] at h
  have h : x.L.length = sh.length := h
  omega
 have wb : ∀ d, d ∈ P.map Pt.Av → d.1.length ≤ 27 := fun d hd => by
  obtain ⟨x, hx, rfl⟩ := List.mem_map.1 hd
  exact hlen x hx
 have hc := AEB a cap P p q r t k (Bc [p, q, r, t] (k.toNat + 1)) rfl hm hk h4.1 h4.2 Q1 (fun x hx => by
  have h := hl x.Av (List.mem_map.2 ⟨x, hx, rfl⟩)
  exact ⟨⟨h.lv, hlen x hx⟩, h.n, Nat.le_trans h.m Q1⟩) (by rw [Z3]; exact z8 (fun d hd => wb d hd)) (fun ⟨x, hx⟩ => by
  rw [Z3]
  exact z9 hl ⟨x.Av, by rw [← gj]; exact List.mem_map.2 ⟨x, hx, rfl⟩⟩) hF hv A3
 refine Bp hc ?_
 rintro v S' ⟨h1, h2⟩
 refine ⟨h1, ?_⟩
 rw [Z3, gj] at h2
 unfold IG
 cases Ag : HD k (Bc [p, q, r, t] (k.toNat + 1)) (MK k (Bc [p, q, r, t] (k.toNat + 1)) (P.map Pt.Av)) ((P.map Pt.Av).filter (LZ k (Bc [p, q, r, t] (k.toNat + 1)))) with
 | none => rw [Ag] at h2; exact h2
 | some l =>
  rw [Ag] at h2
  obtain ⟨av, O, g1, g2, g3, g4⟩ := h2
  exact ⟨av, O, g1, g2, g3, g4⟩
theorem AD5 (a : Option Addr) (cap : Nat) (R : List Sg) (p q r t : Int) (hm : Ap p q r t = 0) (hF : Ad S) (hn : R.length ≤ 27) (hR : Br [p, q, r, t] R) (hv : Bh S (.slice a R.length cap) R) (Dk : Gh S) (n0 : Nat) (hb : Gx [p, q, r, t] t R = true) (D6 : n0 < J6 [p, q, r, t] t R) : CC Tryz.prog KK 74 [mV [p, q, r, t], .slice a R.length cap, .int .i64 (n0 : Int)] S (fun v S' => AG S S' ∧ match F' [p, q, r, t] t R n0 with
  | none => v = AN [.slice none 0 0, .int .i64 15]
  | some l => ∃ av O, v = AN [.slice av O.length O.length, .int .i64 0] ∧ O.map Rd.T = l ∧ XG S' (.slice av O.length O.length) O ∧ ∀ r, r ∈ O → r.Ok S') := by
 refine ce 89 Tryz.func74 fun hl => ?_; refine zg ?_; refine bL hl fun B3 S2 hl => ?_; refine zg ?_
 refine zc hl rfl (AD9 a cap R p q r t hm (hl.AA.3 hF) hn hR (hv.move (hl.since 0 rfl)) n0 hb D6) ?_; rintro v S3 Al ⟨ad, ax, rfl, hX, hY⟩ hl
 have hl := hl.mark
 have L4 := gP [p, q, r, t] t R n0
 have iz := AA5 t R n0
 have vC := Xt (n := n0) hm hR
 have u9 := gO (t := t) (n := n0) hR
 have vE := AA4 (t := t) (R := R) (n := n0)
 have eC : F' [p, q, r, t] t R n0 = (GI [p, q, r, t] (BK [p, q, r, t] 4) [(EM [p, q, r, t] t R (GY [p, q, r, t] t R n0) (Gs t R n0), [], [])]).map fun l => l.map Ih := rfl
 have AFr : (GY [p, q, r, t] t R n0).length ≤ 27 := by
  rw [L4]
  have h1 : (BQ [p, q, r, t] R).length = (Ch R).length := List.length_map _
  have h2 := gJ R
  omega
 have AFs : (Gs t R n0).length ≤ 27 := by
  rw [iz]
  have h2 := ah t R R.length
  have h2 : (Az t R).length ≤ R.length := h2
  omega
 generalize F' [p, q, r, t] t R n0 = pY at eC ⊢
 generalize GY [p, q, r, t] t R n0 = X at *
 generalize Gs t R n0 = Y at *
 refine zg ?_
 refine zc hl rfl (AD' a cap R p q r t ad X.length X ax Y.length Y hm (hl.AA.3 hF) (Dk.AA hl.AA) hn hR (hv.move (hl.since 1 rfl)) L4 u9 (hX.move (hl.since 0 rfl)) iz vE (hY.move (hl.since 0 rfl))) ?_; rintro v S4 Ar ⟨ai, rfl, wC⟩ hl
 have uk : E4 S4 (.slice ai (EM [p, q, r, t] t R X Y).length (EM [p, q, r, t] t R X Y).length) (EM [p, q, r, t] t R X Y) := AU.ls (f := It.cells) (fun _ => rfl) wC
 have DN : (EM [p, q, r, t] t R X Y).length ≤ 27 := by
  have h1 := TI (Bm X R).1 (Bm X R).2.1 (FT [p, q, r, t] t R Y) R R.length (Nat.le_refl _)
  have h2 := Pp R R.length
  have h3 := Mw R
  have h4 : (EM [p, q, r, t] t R X Y).length = ct (R.take R.length) := h1
  omega
 have KI := fun k u => Zw (X := X) (Y := Y) hm hR vC k u
 generalize EM [p, q, r, t] t R X Y = OI at *
 have hl := hl.mark
 refine zg ?_
 refine zc hl rfl (AEA p q r t hm) ?_; rintro v S5 Bt ⟨aV, rfl, wE⟩ hl
 have hV : A5 S5 (.slice aV (BK [p, q, r, t] 4).length (BK [p, q, r, t] 4).length) (BK [p, q, r, t] 4) := AU.ls (f := ic) (fun _ => rfl) wE
 obtain ⟨Of, QH⟩ := Vt hm
 have xI := Z1 hm
 generalize u5 : (BK [p, q, r, t] 4) = V at *
 obtain ⟨MU, G8⟩ : ∃ MU : Pt, MU = ⟨ai, OI.length, none, 0, none, 0, OI, [], []⟩ := ⟨_, rfl⟩
 have jv : [Value.slice ai OI.length OI.length, .slice none 0 0, .slice none 0 0] = MU.cells := by rw [G8]; rfl
 have jw : [MU].map Pt.Av = [(OI, [], [])] := by rw [G8]; rfl
 have Vb : MU.Ok S5 := by rw [G8]; exact ⟨uk.move (hl.since 0 rfl), AZ.nil, AZ.nil⟩
 clear G8
 have hl := hl.mark
 refine zg ?_; refine rr rfl (Ak rfl rfl (v := AM MU.cells) (by rw [← jv]; rfl)) ?_; refine WD hl rfl rfl rfl rfl rfl Tryz.underlying163 rfl (c := MU.cells) (by rw [← jv]; kernel_rfl) ?_; intro UL S6 ZJ hl
 have iq : IY S6 (.slice (some ⟨UL, 0, none⟩) 1 1) [MU] := AZ.row (fun _ => rfl) ZJ rfl
 have Vb := Vb.move (hl.since 0 rfl)
 have hV := hV.move (hl.since 0 rfl)
 have hX := (hX.move (hl.since 2 rfl))
 have hY := (hY.move (hl.since 2 rfl))
 have hl := hl.marks (Us := [S]) (fun T hT => by rw [List.mem_singleton.1 hT]; exact cy (cy (cy aQ)))
 refine zg ?_; refine AK (L' := [(52, .int .i64 (0 : Int)), (51, .int .i64 V.length), (50, .slice aV V.length V.length), (14, .slice (some ⟨UL, 0, none⟩) 1 1), (10, .int .i64 0), (9, .slice ax Y.length Y.length), (8, .slice ad X.length X.length), (7, .int .i64 0), (6, .slice none 0 0), (3, ptrTo B3 0)]) sE ?_
 obtain ⟨l0, DT⟩ : ∃ l0 : List PD, l0 = [(OI, [], [])] := ⟨_, rfl⟩
 rw [← DT] at eC jw
 have KJ : ∀ k, k ∈ V → ∀ d, d ∈ l0 → IW k (Bc [p, q, r, t] (k.toNat + 1)) (OI.map Cv) 0 d := fun k _ d hd => by
  rw [DT] at hd
  rw [List.mem_singleton.1 hd]
  exact KI _ _
 have Ve : (OI.map Cv).length ≤ 27 := by rw [cw]; exact DN
 generalize OI.map Cv = sh at *
 refine Au rfl (fun m Le S' => ∃ (i : Nat) (av : Option Addr) (P : List Pt) (l : List PD), i ≤ V.length ∧ m = V.length - i ∧ P.map Pt.Av = l ∧ GI [p, q, r, t] V l0 = GI [p, q, r, t] (V.drop i) l ∧ (∀ k, k ∈ V.drop i → ∀ d, d ∈ l → IW k (Bc [p, q, r, t] (k.toNat + 1)) sh (60 * i) d) ∧ (∀ d, d ∈ l → d.1.length ≤ 27 ∧ d.2.2.length ≤ 240) ∧ l.length ≤ 4096 ∧ IY S' (.slice av P.length P.length) P ∧ (∀ x, x ∈ P → x.Ok S') ∧ A5 S' (.slice aV V.length V.length) V ∧ A5 S' (.slice ad X.length X.length) X ∧ A5 S' (.slice ax Y.length Y.length) Y ∧ Af [(52, .int .i64 (i : Int)), (51, .int .i64 V.length), (50, .slice aV V.length V.length), (14, .slice av P.length P.length), (10, .int .i64 0), (9, .slice ax Y.length Y.length), (8, .slice ad X.length X.length), (7, .int .i64 0), (6, .slice none 0 0), (3, ptrTo B3 0)] Le ∧ AB S [S] S' [(B3, .cells (AP (mV [p, q, r, t])) 28 false true [])] []) ?_ (m := V.length) ⟨0, some ⟨UL, 0, none⟩, [MU], l0, Q1, Q1, jw, rfl, KJ, (fun d hd => by rw [DT] at hd; rw [List.mem_singleton.1 hd]; exact ⟨DN, Nat.zero_le _⟩), (by rw [DT]; show 1 ≤ 4096; omega), iq, (fun x hx => by rw [List.mem_singleton.1 hx]; exact Vb), hV, hX, hY, sE, hl⟩
 clear hl iq Vb hV hX hY; rintro m Le S' ⟨i, av, P, l, hi, rfl, VI, hE, hI, hD, QI, P8, P7, hV, hX, hY, AL, hl⟩; refine AK AL ?_
 have hPn : P.length = l.length := by rw [← VI, cw]
 refine zg ?_
 constructor <;> intro iP
 ·
  have AJ : i < V.length := dT iP
  obtain ⟨k, hk⟩ := Ac AJ
  have QB : V.drop i = k :: V.drop (i + 1) := D4 hk
  rw [QB] at hE hI
  obtain ⟨b1, o1, Ai, ha, _, AY, Ab⟩ := hV.elem hk
  have hl := hl.mark
  refine zg ?_
  refine zc hl rfl (qZ av P.length P p q r t k sh (60 * i) hm (by rw [u5]; exact Am hk) Ve Q1 Q1 (by rw [VI]; exact hI k aQ) (hl.AA.3 hF) (P8.move (hl.since 0 rfl)) (fun x hx => (P7 x hx).move (hl.since 0 rfl))) ?_; rintro v S7 GD IA hl
  rw [VI] at IA
  cases Ag : IG k (Bc [p, q, r, t] (k.toNat + 1)) l with
  | none =>
   rw [Ag] at IA
   have IA : v = AN [.slice none 0 0, .int .i64 15] := IA
   subst IA
   have e : GI [p, q, r, t] V l0 = none := by rw [hE]; unfold GI; rw [Ag]
   rw [eC, e]
   refine zg ?_
   exact CG (Cw (GK (CG ((z2 rfl rfl ⟨hl.AA, rfl⟩)))))
  | some l2 =>
   rw [Ag] at IA
   obtain ⟨AT, O, rfl, g1, g2, g3⟩ := IA
   have e : GI [p, q, r, t] V l0 = GI [p, q, r, t] (V.drop (i + 1)) l2 := by rw [hE]; exact Vr Ag
   have h4 := QH k (Am hk)
   obtain ⟨g4, g5⟩ := Z2 h4.2 Ve (hI k aQ) QI Ag
   refine zg ?_
   refine ⟨V.length - (i + 1), Q1, i + 1, AT, O, l2, Q1, rfl, g3, e, fun k2 Ar d hd => ?_, fun d hd => ?_, g5, g1, g2, hV.move (hl.since 0 rfl), hX.move (hl.since 0 rfl), hY.move (hl.since 0 rfl), sE, hl.marks (Us := [S]) fun T hT => cy hT⟩
   ·have SX : k2 < k := by
     have h5 : (V.drop i).Pairwise fun a b => b < a := xI.sublist (List.drop_sublist ..)
     rw [QB] at h5
     exact (List.pairwise_cons.1 h5).1 k2 Ar
    exact (g4 d hd).next SX h4.2.2
   have h5 := g4 d hd
   have h6 := congrArg List.length h5.s
   rw [cw] at h6
   exact ⟨Q1, by have := h5.m; omega⟩
 have C8 : i = V.length := dF iP
 rw [C8, List.drop_length] at hE
 have eC : pY = some (l.map Ih) := by rw [eC, hE]; rfl
 rw [eC]
 clear hE KJ hI hV
 have hl : AB S [S] S' ([(B3, .cells (AP (mV [p, q, r, t])) 28 false true [])] ++ ([] ++ [])) [] := hl
 refine zg ?_; refine AK (L' := [(69, .int .i64 (0 : Int)), (68, .int .i64 P.length), (67, .slice av P.length P.length), (17, .slice none ([] : List Rd).length ([] : List Rd).length), (9, .slice ax Y.length Y.length), (8, .slice ad X.length X.length), (7, .int .i64 0), (6, .slice none 0 0)]) sE ?_
 refine Au rfl (fun m Le S' => ∃ (j : Nat) (aw : Option Addr) (O : List Rd) (fr : List (Nat × AD)), j ≤ P.length ∧ m = P.length - j ∧ O.map Rd.T = (l.map Ih).take j ∧ (∀ w, w ∈ O → w.Ok S') ∧ IY S' (.slice av P.length P.length) P ∧ (∀ x, x ∈ P → x.Ok S') ∧ A5 S' (.slice ad X.length X.length) X ∧ A5 S' (.slice ax Y.length Y.length) Y ∧ US aw O fr ∧ Af [(69, .int .i64 (j : Int)), (68, .int .i64 P.length), (67, .slice av P.length P.length), (17, .slice aw O.length O.length), (9, .slice ax Y.length Y.length), (8, .slice ad X.length X.length), (7, .int .i64 0), (6, .slice none 0 0)] Le ∧ AB S [S] S' ([(B3, .cells (AP (mV [p, q, r, t])) 28 false true [])] ++ (fr ++ [])) []) ?_ (m := P.length) ⟨0, none, [], [], Q1, Q1, rfl, (fun w hw => (List.not_mem_nil hw).elim), P8, P7, hX, hY, .inl ⟨rfl, rfl, rfl, rfl⟩, sE, hl⟩
 clear hl P8 P7 hX hY; rintro m Le S8 ⟨j, aw, O, fr, hj, rfl, hG, A3, P8, P7, hX, hY, hO, AL, hl⟩; refine AK AL ?_
 refine zg ?_
 constructor <;> intro R0
 ·
  have AJ : j < P.length := dT R0
  obtain ⟨x, hx⟩ := Ac AJ
  have OX : O.length = j := by
   have := congrArg List.length hG
   rw [cw, List.length_take, cw] at this
   omega
  obtain ⟨b1, o1, Ai, ha, _, AY, Ab⟩ := P8.elem hx
  have Vj := P7 x (Am hx)
  have Jd : nth l j = some x.Av := by rw [← VI]; exact Dc Pt.Av hx
  have Jc := hD x.Av (Am Jd)
  have hl := hl.mark
  refine zg ?_; refine aL hl [.slice none 0 0, .slice none 0 0, .slice none 0 0] fun JF S9 hl => ?_; refine sL hl 0 x.cells fun Co hl => ?_; refine zg ?_; refine A4 (idx := [0, 1, 3, 5, 6, 8, 9, 2, 4, 7, 10, 11, 12, 13, 14]) rfl aP aP ?_; refine zg ?_
  refine zp hl rfl (T4 ad X.length X Q1 (hX.move (hl.since 0 rfl))) ?_; rintro v D3 GD ⟨a1, rfl, _⟩ hl; refine ⟨zt, ?_⟩
  refine zp hl rfl (T4 ax Y.length Y Q1 (hY.move (hl.since 0 rfl))) ?_; rintro v Ep FZ ⟨a2, rfl, _⟩ hl; refine ⟨zt, ?_⟩
  refine zp hl rfl (T4 x.aD x.cD x.D (Nat.le_trans Jc.2 Q1) (Vj.d.move (hl.since 0 rfl))) ?_; rintro v EC G6 ⟨a3, rfl, _⟩ hl; refine ⟨zt, ?_⟩
  refine zp hl rfl (AEC x.aL x.cL x.L Jc.1 (Vj.l.move (hl.since 0 rfl))) ?_; rintro v E6 NQ ⟨aT, rfl, Yv⟩ hl; refine ⟨zt, ?_⟩
  have hl := hl.mark
  have hT : Ku E6 (.slice aT (Ih x.Av).length (Ih x.Av).length) (Ih x.Av) := AU.ls (f := Ti.cells) (fun _ => rfl) Yv
  obtain ⟨w, hw⟩ : ∃ w : Rd, w = (Rd.mk a1 X.length a2 Y.length a3 x.D.length aT (Ih x.Av)) := ⟨_, rfl⟩
  have Zd : (Rd.mk a1 X.length a2 Y.length a3 x.D.length aT (Ih x.Av)).cells = w.cells := by rw [hw]
  have Ze : (Rd.mk a1 X.length a2 Y.length a3 x.D.length aT (Ih x.Av)).v = AM w.cells := by rw [hw]; rfl
  have KQ : w.Ok E6 := by rw [hw]; exact hT
  have yJ : w.T = Ih x.Av := by rw [hw]
  refine pr rfl (Ak rfl rfl (v := AM w.cells) (by rw [← Ze]; rfl)) ?_; refine PC hF hl rfl rfl rfl rfl rfl Tryz.underlying114 rfl (c := w.cells) (by rw [← Zd]; kernel_rfl) ?_; intro B85 IZ AFz xl hl
  have hl : AB S [E6, S8, S] IZ ([(JF, .cells x.cells 162 false true []), (B3, .cells (AP (mV [p, q, r, t])) 28 false true [])] ++ (fr ++ [])) [] := hl
  refine Md hl hO rfl rfl rfl rfl rfl rfl rfl Tryz.underlying114 Tryz.underlying114 rfl rfl (by decide) aP (Bf (n := 1) (cap := 1) (new := w.cells) xl rfl) rfl rfl aP (by show O.length + 1 ≤ AQ; unfold AQ; omega) ?_; intro v86 BA OA Aw hl; refine ⟨zt, ?_⟩
  obtain ⟨Uf, rfl⟩ := Aw.is
  refine zg ?_
  refine ⟨P.length - (j + 1), Q1, j + 1, Uf, O ++ [w], BA, Q1, rfl, ?_, ?_, P8.move (hl.since 1 rfl), fun y hy => (P7 y hy).move (hl.since 1 rfl), hX.move (hl.since 1 rfl), hY.move (hl.since 1 rfl), Aw.push, ⟨rfl, rfl, rfl, congrArg some (congrArg (fun n => Value.slice Uf n n) (by rw [ay]; rfl)), rfl, rfl, rfl, rfl, trivial⟩, hl.tail.marks (Us := [S]) fun T hT => cy (cy hT)⟩
  ·rw [CJ (Dc Ih Jd), mAp, hG, ← yJ]
   rfl
  intro w' Sy
  rcases List.mem_append.1 Sy with h | h
  ·exact (A3 w' h).move (hl.since 1 rfl)
  rw [List.mem_singleton.1 h]
  exact KQ.move (hl.since 0 rfl)
 have FF : j = P.length := dF R0
 rw [List.take_of_length_le (by rw [cw]; omega)] at hG
 refine zg ?_
 exact y2 rfl rfl ⟨hl.AA, aw, O, rfl, hG, OW.at_ (f := Rd.cells) (fun _ => rfl) hO hl (Ef (q := [_])), A3⟩
section
variable {n : Nat} {ro : Option Nat} {L : Env} {S S0 : St} {Q : Bi} {ops : List Oper} {i d : Nat} {o : Oper} {P : Program} {K : A1} {a : Option Addr}
theorem eg (ha : a = none ∨ ∃ b, a = some ⟨b, 0, none⟩) {e : TypeId} {z len : Nat} {ts : Array TypeId} {sT xT : TypeId} {xd : TypeDesc} {x : Value} (Bv : ts.toList = [sT, xT]) (hu : P.underlying sT = some (.slice e)) (Ee : P.underlying xT = some xd) (hi : F3 xd = false) (hlen : Gp x = some 0) (hz : A0 P e = some z) (hs : El S z 0 x = some []) : Dj P .append ts.toList [.slice a len len, x] S = some (.slice a len len, S) := by
 unfold Dj
 simp only
 have : E9 P ts.toList (.slice a len len) x S = some (.slice a len len, S) := by
  unfold E9
  rw [Bv]
  simp only [hu, Ee, hlen, hi, hz, hs, cond_false]
  unfold F9
  have hb : Nat.ble (len + 0) len = true := Nat.ble_eq_true_of_le (Nat.le_refl _)
  rw [hb]
  simp only [cond_true]
  unfold OD
  rcases ha with rfl | ⟨b, rfl⟩ <;> rfl
 rw [this]
theorem OW.sh {v : Value} {e : TypeId} {z len : Nat} {c : List Value} {fr : List (Nat × AD)} (h : OW v e z c len fr) : (∃ a, v = .slice a len len ∧ (a = none ∨ ∃ b, a = some ⟨b, 0, none⟩)) ∧ c.length = len * z := by
 rcases h with ⟨rfl, rfl, rfl, _⟩ | ⟨b, dd, rfl, h2, _⟩
 ·exact ⟨⟨none, rfl, .inl rfl⟩, by rw [Nat.zero_mul]; rfl⟩
 exact ⟨⟨_, rfl, .inr ⟨b, rfl⟩⟩, h2⟩
theorem ABT {q l : List (Nat × AD)} {Ts : List St} {v : Value} {e : TypeId} {z len : Nat} {c : List Value} {fr : List (Nat × AD)} (hl : AB S0 Ts S (q ++ (fr ++ l)) []) (hg : OW v e z c len fr) {ar : Array Operand} {ts : Array TypeId} {sT xT : TypeId} {xd : TypeDesc} {x : Value} {m : Nat} {new : List Value}
  (ho : nth ops i = some o) (AH : o.op = .call ⟨.builtin .append, ar, ts⟩) (hw : As ops L o = some true) (LB : o.dst = some d) (AJ : Nat.blt d n = true) (hx : Cm.DE L ar.toList = some [v, x]) (Bv : ts.toList = [sT, xT])
  (hu : P.underlying sT = some (.slice e)) (Ee : P.underlying xT = some xd) (hi : F3 xd = false) (hlen : Gp x = some m) (hz : A0 P e = some z) (hs : El S z m x = some new)
  (CI : new.length = m * z) (hc : new.all E' = true) (GC : KA P e z = true) (Gg : len + m ≤ AQ)
  (h : ∀ v' AW S', OW v' e z (c ++ new) (len + m) AW → AB S0 Ts S' (q ++ (AW ++ l)) [] → RE P K n ops (i + 1) ((d, v') :: L) S' Q) : RE P K n ops i L S Q := by
 rcases Nat.eq_zero_or_pos m with hm | hm
 ·subst hm
  have Bq : new = [] := List.length_eq_zero_iff.1 (by rw [CI, Nat.zero_mul])
  subst Bq
  obtain ⟨⟨a, rfl, ha⟩, _⟩ := hg.sh
  exact Kf ho AH hw LB AJ rfl hx (eg ha Bv hu Ee hi hlen hz hs) (h _ fr S (by rw [List.append_nil]; exact hg) hl)
 exact HB hl hg ho AH hw LB AJ hx Bv hu Ee hi hlen hm hz hs CI hc GC Gg h
end
def JJ (M : List Int) (t : Int) (R : List Sg) : Nat → Nat → List (List Ti) → Option (List (List Ti))
 | 0, _, acc => some acc
 | n + 1, i, acc => match F' M t R i with
  | none => none
  | some l => if 4096 < (acc ++ l).length then none else JJ M t R n (i + 1) (acc ++ l)
def F8 (M : List Int) (t : Int) (R : List Sg) : Option (List (List Ti)) := bif Gx M t R then JJ M t R (J6 M t R) 0 [] else none
theorem XQ {M : List Int} {t : Int} {R : List Sg} {n i : Nat} {acc l : List (List Ti)} (h : F' M t R i = some l) : JJ M t R (n + 1) i acc = if 4096 < (acc ++ l).length then none else JJ M t R n (i + 1) (acc ++ l) := by
 show (match F' M t R i with
  | none => none
  | some l => if 4096 < (acc ++ l).length then none else JJ M t R n (i + 1) (acc ++ l)) = _
 rw [h]
theorem XP {M : List Int} {t : Int} {R : List Sg} {n i : Nat} {acc : List (List Ti)} (h : F' M t R i = none) : JJ M t R (n + 1) i acc = none := by
 show (match F' M t R i with
  | none => none
  | some l => if 4096 < (acc ++ l).length then none else JJ M t R n (i + 1) (acc ++ l)) = _
 rw [h]
theorem oW {k : Int} {u : Nat} : ∀ (n : Nat) (l : List PD) {l' : List PD}, l.length ≤ 4096 → HD k u n l = some l' → l'.length ≤ 4096
 | 0, l, l', hl, e => by
  cases e
  exact hl
 | n + 1, l, l', hl, e => by
  unfold HD at e
  split at e
  ·cases e
  exact oW n _ Q1 e
theorem kv {M : List Int} : ∀ (V : List Int) (l : List PD) {l' : List PD}, l.length ≤ 4096 → GI M V l = some l' → l'.length ≤ 4096
 | [], l, l', hl, e => by
  cases e
  exact hl
 | k :: V, l, l', hl, e => by
  cases h : IG k (Bc M (k.toNat + 1)) l with
  | none =>
   unfold GI at e
   rw [h] at e
   cases e
  | some l2 =>
   rw [Vr h] at e
   refine kv V l2 ?_ e
   unfold IG at h
   obtain ⟨l3, h3, rfl⟩ := Option.map_eq_some_iff.1 h
   rw [cw]
   exact oW _ _ (Nat.le_trans (List.length_filter_le ..) hl) h3
theorem sw {M : List Int} {t : Int} {R : List Sg} {n : Nat} {l : List (List Ti)} (h : F' M t R n = some l) : l.length ≤ 4096 := by
 unfold F' at h
 obtain ⟨l3, h3, rfl⟩ := Option.map_eq_some_iff.1 h
 rw [cw]
 exact kv _ _ (by show 1 ≤ 4096; omega) h3
theorem ADz (a : Option Addr) (cap : Nat) (R : List Sg) (p q r t : Int) (hm : Ap p q r t = 0) (hF : Ad S) (hn : R.length ≤ 27) (hR : Br [p, q, r, t] R) (hv : Bh S (.slice a R.length cap) R) (Dk : Gh S) : CC Tryz.prog KK 61 [mV [p, q, r, t], .slice a R.length cap] S (fun v S' => AG S S' ∧ match F8 [p, q, r, t] t R with
  | none => v = AN [.slice none 0 0, .int .i64 15]
  | some L => (L = [] ∧ v = AN [.slice none 0 0, .int .i64 14]) ∨ (L ≠ [] ∧ ∃ av O, v = AN [.slice av O.length O.length, .int .i64 0] ∧ O.map Rd.T = L ∧ XG S' (.slice av O.length O.length) O ∧ ∀ r, r ∈ O → r.Ok S')) := by
 refine ce 46 Tryz.func61 fun hl => ?_; refine zg ?_; refine bL hl fun B2 S2 hl => ?_; refine zg ?_
 refine zc hl rfl (AD4 a cap R p q r t hm (hl.AA.3 hF) hn hR (hv.move (hl.since 0 rfl))) ?_; rintro v S3 Al rfl hl
 have hA : F8 [p, q, r, t] t R = bif Gx [p, q, r, t] t R then JJ [p, q, r, t] t R (J6 [p, q, r, t] t R) 0 [] else none := rfl
 generalize F8 [p, q, r, t] t R = L9 at *
 cases hb : Gx [p, q, r, t] t R with
 | false =>
  rw [hb] at hA
  subst hA
  refine zg ?_
  exact z2 rfl rfl ⟨hl.AA, rfl⟩
 | true =>
  rw [hb] at hA
  have hA : L9 = JJ [p, q, r, t] t R (J6 [p, q, r, t] t R) 0 [] := hA
  have D6 : J6 [p, q, r, t] t R ≤ 64 := (Xg hb).2.2
  obtain ⟨n, AR⟩ : ∃ n, n = J6 [p, q, r, t] t R := ⟨_, rfl⟩
  rw [← AR] at hA D6 ⊢
  have hl : AB S [S] S3 ([(B2, .cells (AP (mV [p, q, r, t])) 28 false true [])] ++ ([] ++ [])) [] := hl
  refine zg ?_; refine AK (L' := [(22, .int .i64 (0 : Int)), (21, .int .i64 (n : Nat)), (8, .slice none 0 0), (1, .slice a R.length cap), (2, ptrTo B2 0), (4, .slice none 0 0), (5, .int .i64 0)]) sE ?_
  refine Au rfl (fun m Le S' => ∃ (i : Nat) (av : Option Addr) (O : List Rd) (fr : List (Nat × AD)), i ≤ n ∧ m = n - i ∧ L9 = JJ [p, q, r, t] t R (n - i) i (O.map Rd.T) ∧ O.length ≤ 4096 ∧ (∀ w, w ∈ O → w.Ok S') ∧ US av O fr ∧ Af [(22, .int .i64 (i : Int)), (21, .int .i64 (n : Nat)), (8, .slice av O.length O.length), (1, .slice a R.length cap), (2, ptrTo B2 0), (4, .slice none 0 0), (5, .int .i64 0)] Le ∧ AB S [S] S' ([(B2, .cells (AP (mV [p, q, r, t])) 28 false true [])] ++ (fr ++ [])) []) ?_ (m := n) ⟨0, none, [], [], Q1, Q1, hA, by show 0 ≤ 4096; omega, (fun w hw => (List.not_mem_nil hw).elim), .inl ⟨rfl, rfl, rfl, rfl⟩, sE, hl⟩
  clear hl; rintro m Le S4 ⟨i, av, O, fr, hi, rfl, hA, R9, A3, hO, AL, hl⟩; refine AK AL ?_
  refine zg ?_
  constructor <;> intro DF
  ·
   have AJ : i < n := dT DF
   rw [show n - i = (n - (i + 1)) + 1 by omega] at hA
   have hl := hl.mark
   refine zg ?_
   refine zc hl rfl (AD5 a cap R p q r t hm (hl.AA.3 hF) hn hR (hv.move (hl.since 1 rfl)) (Dk.AA hl.AA) i hb (by rw [← AR]; exact AJ)) ?_; rintro v S5 Ar LK hl
   cases hc : F' [p, q, r, t] t R i with
   | none =>
    rw [hc] at LK
    have LK : v = AN [.slice none 0 0, .int .i64 15] := LK
    subst LK
    rw [XP hc] at hA
    subst hA
    refine zg ?_
    exact Cw (CG (Cw (GK (CG ((z2 rfl rfl ⟨hl.AA, rfl⟩))))))
   | some l =>
    rw [hc] at LK
    obtain ⟨aw, G, rfl, hG, ZO, Gk⟩ := LK
    rw [XQ hc] at hA
    have hGn : G.length ≤ 4096 := by
     have h := sw hc
     rw [← hG, cw] at h
     exact h
    have hl := hl.mark
    refine zg ?_; refine ABT hl hO rfl rfl rfl rfl rfl rfl rfl Tryz.underlying114 Tryz.underlying114 rfl rfl aP ZO.cells (Da (f := Rd.cells) (z := 4) (fun _ => rfl) _) (K6 (fun _ => rfl) _) aP (by show O.length + G.length ≤ AQ; unfold AQ; omega) ?_; intro v37 BA S6 Aw hl
    obtain ⟨AT, rfl⟩ := Aw.is
    have QI : (O ++ G).length = O.length + G.length := ay
    have Aw : US AT (O ++ G) BA := by
     unfold US
     rw [mAp, List.flatten_append, QI]
     exact Aw
    have wx : O.map Rd.T ++ l = (O ++ G).map Rd.T := by rw [mAp, hG]
    rw [wx, cw, QI] at hA
    refine zg ?_
    constructor <;> intro HU
    ·
     rw [if_pos (dT HU)] at hA
     subst hA
     refine zg ?_
     exact CG (Cw (GK (CG ((z2 rfl rfl ⟨hl.AA, rfl⟩)))))
    have NB : ¬ 4096 < O.length + G.length := dF HU
    rw [if_neg NB] at hA
    refine zg ?_
    refine ⟨n - (i + 1), Q1, i + 1, AT, O ++ G, BA, Q1, rfl, hA, Q1, fun w hw => ?_, Aw, ⟨rfl, rfl, congrArg some (congrArg (fun n => Value.slice AT n n) QI.symm), rfl, rfl, rfl, rfl, trivial⟩, hl.marks (Us := [S]) fun T hT => cy (cy hT)⟩
    rcases List.mem_append.1 hw with h | h
    ·exact (A3 w h).move (hl.since 1 rfl)
    exact (Gk w h).move (hl.since 0 rfl)
  have C8 : i = n := dF DF
  rw [C8, Nat.sub_self] at hA
  have hA : L9 = some (O.map Rd.T) := hA
  subst hA
  refine zg ?_
  have Yc := OW.at_ (f := Rd.cells) (fun _ => rfl) hO hl (Ef (q := [_]))
  constructor <;> intro EZ
  ·
   have e : O.length = 0 := by have := eq_of_beq EZ; omega
   obtain rfl := List.length_eq_zero_iff.1 e
   refine zg ?_
   exact z2 rfl rfl ⟨hl.AA, .inl ⟨rfl, rfl⟩⟩
  refine zg ?_
  refine y2 rfl rfl ⟨hl.AA, .inr ⟨fun e => ?_, av, O, rfl, rfl, Yc, A3⟩⟩
  have e := congrArg List.length e
  rw [cw] at e
  have e : O.length = 0 := e
  rw [e] at EZ
  exact absurd EZ (by decide)
end Go.Proofs.YtnhalpkekpehpaaGreatDoor
