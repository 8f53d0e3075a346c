/-
  Page turns that are put in change only the numbers of signs: BracketPassed returns true for all numbers and lists of numbers.
-/
import Derived.Test.YtnhalpkekpehpaaGreatDoorSmG
import Derived.Test.YtnhalpkekpehpaaGreatDoorSmF
import Derived.Test.YtnhalpkekpehpaaGreatDoorBp4
import Derived.Test.YtnhalpkekpehpaaGreatDoorSm93a
import Derived.Test.YtnhalpkekpehpaaGreatDoorSm93b
import Derived.Test.YtnhalpkekpehpaaGreatDoorSm93c
import Derived.Test.YtnhalpkekpehpaaGreatDoorSm93d
import Derived.Test.YtnhalpkekpehpaaGreatDoorSm93e
import Derived.Test.YtnhalpkekpehpaaGreatDoorSm93f
import Derived.Test.YtnhalpkekpehpaaGreatDoorSm93g
import Derived.Test.YtnhalpkekpehpaaGreatDoorSm93h
import Derived.Test.YtnhalpkekpehpaaGreatDoorSm93i
import Derived.Test.YtnhalpkekpehpaaGreatDoorSm93j
import Derived.Test.YtnhalpkekpehpaaGreatDoorSm93k
import Derived.Test.YtnhalpkekpehpaaGreatDoorSm93l
import Derived.Test.YtnhalpkekpehpaaGreatDoorSm93m
import Derived.Test.YtnhalpkekpehpaaGreatDoorSy2

import Derived.Test.YtnhalpkekpehpaaGreatDoorBq3
import Derived.Test.YtnhalpkekpehpaaGreatDoorCards
import Derived.Test.YtnhalpkekpehpaaGreatDoorTie
import Derived.WalkKit
import Derived.ProofKit
import Derived.OpenShut
import Derived.Deep.DeepHandedRow
namespace Go.Proofs.YtnhalpkekpehpaaGreatDoor
open Go.Cm Go
set_option maxRecDepth 100000
variable {S : St}
variable {nm : ByteArray} [Nonempty (GR nm)]
abbrev eA (av : Option Addr) (D : List Bk) (fr : List (Nat × AD)) : Prop := OW (.slice av D.length D.length) 55 3 ((D.map Bk.cells).flatten) D.length fr
def Nf (L : List (List Bool × List Int)) (C : List Sg) : Nat → List Bk
 | 0 => BT L
 | 1 => []
 | _ => Cp C
def UY (L : List (List Bool × List Int)) (C : List Sg) : Nat → List Bk
 | 0 => []
 | j + 1 => UY L C j ++ Nf L C j
theorem p8 (L : List (List Bool × List Int)) (C : List Sg) {j : Nat} (h : j ≤ 3) : (UY L C j).length ≤ (BT L ++ Cp C).length := by
 obtain rfl | rfl | rfl | rfl : j = 0 ∨ j = 1 ∨ j = 2 ∨ j = 3 := by omega
 ·exact Nat.zero_le _
 ·show ([] ++ BT L).length ≤ _; rw [List.nil_append, ay]; omega
 ·show (([] ++ BT L) ++ []).length ≤ _; rw [List.nil_append, List.append_nil, ay]; omega
 show ((([] ++ BT L) ++ []) ++ Cp C).length ≤ _; rw [List.nil_append, List.append_nil]; exact Nat.le_refl _
abbrev gK (av : Option Addr) (Z : List Bk) : Gr := Eu 40 3 Bk.cells (.slice av Z.length Z.length) Z
theorem oN (a : Option Addr) (cap : Nat) (C : List Sg) (p q r t : Int) (hn : C.length ≤ 60) (hm : Ap p q r t = 0) (hX : CA p q r t C) (hG : Gl S) (Cq : Gc S) (Dk : Gh S) (hF : Ad S) (hv : Bh S (.slice a C.length cap) C) (CL : C7 C ≤ 12) (jC : ∀ L, Cu [p, q, r, t] t (A2 C) = some L → (BT L ++ Cp C).length ≤ 12) : CC Tryz.prog KK 8 [AM [.string nm, .slice a C.length cap]] S (fun v S' => AG S S' ∧ match Cu [p, q, r, t] t (A2 C) with
  | none => v = AN [.slice none 0 0, .int .i64 14]
  | some L => ∃ av, v = AN [.slice av (EO (BT L ++ Cp C)).length (EO (BT L ++ Cp C)).length, .int .i64 0] ∧ Ko S' (.slice av (EO (BT L ++ Cp C)).length (EO (BT L ++ Cp C)).length) (EO (BT L ++ Cp C))) := by
 refine ce 53 Tryz.func8 fun hl => ?_; refine zg ?_; refine bL hl fun B1 S1 hl => ?_; refine zg ?_; refine rr rfl (Ak rfl rfl (v := AM [.func (.func 15) #[] #[], .func (.func 16) #[] #[], .func (.func 17) #[] #[]]) (by rfl)) ?_; refine zA ?_; refine BF rfl ?_
 have hl : AB S [S] S1 ([(B1, .cells [.string nm, .slice a C.length cap] 25 false true [])] ++ ([] ++ [])) [] := hl
 cases hL : Cu [p, q, r, t] t (A2 C) with
 | none =>
  refine AK (L' := [(15, .int .i64 ((0 : Nat) : Int)), (14, AM [.func (.func 15) #[] #[], .func (.func 16) #[] #[], .func (.func 17) #[] #[]]), (4, .slice none 0 0), (3, .int .i64 0), (2, .slice none 0 0), (1, ptrTo B1 0)]) sE ?_
  refine Au rfl (fun m Le S' => Af [(15, .int .i64 ((0 : Nat) : Int)), (14, AM [.func (.func 15) #[] #[], .func (.func 16) #[] #[], .func (.func 17) #[] #[]]), (4, .slice none 0 0), (3, .int .i64 0), (2, .slice none 0 0), (1, ptrTo B1 0)] Le ∧ AB S [S] S' ([(B1, .cells [.string nm, .slice a C.length cap] 25 false true [])] ++ ([] ++ [])) []) ?_ (m := 0) ⟨sE, hl⟩
  clear hl; rintro m Le S' ⟨AL, hl⟩; refine AK AL ?_
  refine zg ?_; refine rr rfl (Ql rfl rfl rfl (kV (z := 1) Tryz.underlying54 aP aP ⟨Q1, Q1⟩ rfl)) ?_; refine zg ?_
  have hk := hl.AA
  have NJ := cP (nm := nm) a cap C p q r t hn hm hX (hG.AA hk) (Cq.AA hk) (Dk.AA hk) (hk.3 hF) (hv.move (hl.since 0 rfl)) CL
  rw [hL] at NJ
  refine zc hl rfl NJ ?_; rintro v S2 Ar rfl hl
  refine zg ?_
  exact Cw (CG (Cw (GK (CG (z2 rfl rfl ⟨hl.AA, rfl⟩)))))
 | some L =>
  have jC := jC L hL
  refine AK (L' := [(15, .int .i64 ((0 : Nat) : Int)), (14, AM [.func (.func 15) #[] #[], .func (.func 16) #[] #[], .func (.func 17) #[] #[]]), (4, .slice none 0 0), (3, .int .i64 0), (2, .slice none 0 0), (1, ptrTo B1 0)]) sE ?_
  refine Au rfl (fun m Le S' => ∃ (j : Nat) (av : Option Addr) (D : List Bk) (fr : List (Nat × AD)), j ≤ 3 ∧ m = 3 - j ∧ D = UY L C j ∧ eA av D fr ∧ Af [(15, .int .i64 (j : Int)), (14, AM [.func (.func 15) #[] #[], .func (.func 16) #[] #[], .func (.func 17) #[] #[]]), (4, .slice av D.length D.length), (3, .int .i64 0), (2, .slice none 0 0), (1, ptrTo B1 0)] Le ∧ AB S [S] S' ([(B1, .cells [.string nm, .slice a C.length cap] 25 false true [])] ++ (fr ++ [])) []) ?_ (m := 3) ⟨0, none, [], [], Q1, Q1, rfl, .inl ⟨rfl, rfl, rfl, rfl⟩, sE, hl⟩
  clear hl; rintro m Le S2 ⟨j, av, D, fr, hj, rfl, hD, hO, AL, hl⟩; refine AK AL ?_
  refine zg ?_
  constructor <;> intro Cj
  ·
   have AJ : j < 3 := dT Cj
   have hk := hl.AA
   have Ly : UY L C (j + 1) = D ++ Nf L C j := by rw [hD]; rfl
   have vI := p8 L C (j := j + 1) Q1
   obtain ⟨g, hg, HX⟩ : ∃ g, nth ([.func (.func 15) #[] #[], .func (.func 16) #[] #[], .func (.func 17) #[] #[]] : List Value) ((j : Int).toNat * 1) = some (.func (.func g) #[] #[]) ∧ CC Tryz.prog KK g [AM [.string nm, .slice a C.length cap]] S2 (fun v S' => AG S2 S' ∧ ∃ ao, v = AN [.slice ao (Nf L C j).length (Nf L C j).length, .int .i64 0] ∧ Ko S' (.slice ao (Nf L C j).length (Nf L C j).length) (Nf L C j)) := by
    obtain rfl | rfl | rfl : j = 0 ∨ j = 1 ∨ j = 2 := by omega
    ·have NJ := cP (nm := nm) a cap C p q r t hn hm hX (hG.AA hk) (Cq.AA hk) (Dk.AA hk) (hk.3 hF) (hv.move (hl.since 0 rfl)) CL
     rw [hL] at NJ
     exact ⟨15, rfl, NJ⟩
    ·exact ⟨16, rfl, Bp (AC5 a cap C p q r t hn hm hX (hG.AA hk) (Cq.AA hk) (hk.3 hF) (hv.move (hl.since 0 rfl))) fun v S' ⟨h1, h2⟩ => ⟨h1, none, h2, AZ.nil⟩⟩
    exact ⟨17, rfl, oB a cap C p q r t hn hm hX (hG.AA hk) (Cq.AA hk) (hk.3 hF) (hv.move (hl.since 0 rfl))⟩
   obtain ⟨O, VH⟩ : ∃ O, O = Nf L C j := ⟨_, rfl⟩
   rw [← VH] at Ly HX
   rw [Ly, ay] at vI
   refine zg ?_; refine rr rfl (Ql rfl rfl rfl (kV (z := 1) Tryz.underlying54 aP aP ⟨Q1, Q1⟩ hg)) ?_; refine zg ?_
   refine Ct rfl rfl rfl rfl rfl rfl rfl (Bp HX ?_); rintro v S3 ⟨Bt, ao, rfl, yC⟩
   have hl := (hl.call Bt).mark
   clear hk hD hg HX
   refine zg ?_; refine AK (L' := [(29, .int .i64 ((0 : Nat) : Int)), (28, .int .i64 O.length), (27, .slice ao O.length O.length), (15, .int .i64 (j : Int)), (14, AM [.func (.func 15) #[] #[], .func (.func 16) #[] #[], .func (.func 17) #[] #[]]), (4, .slice av D.length D.length), (3, .int .i64 0), (2, .slice none 0 0), (1, ptrTo B1 0)]) sE ?_
   refine Au rfl (fun m Le S' => ∃ (i : Nat) (av : Option Addr) (D' : List Bk) (fr : List (Nat × AD)), i ≤ O.length ∧ m = O.length - i ∧ D' = D ++ O.take i ∧ eA av D' fr ∧ Af [(29, .int .i64 (i : Int)), (28, .int .i64 O.length), (27, .slice ao O.length O.length), (15, .int .i64 (j : Int)), (14, AM [.func (.func 15) #[] #[], .func (.func 16) #[] #[], .func (.func 17) #[] #[]]), (4, .slice av D'.length D'.length), (3, .int .i64 0), (2, .slice none 0 0), (1, ptrTo B1 0)] Le ∧ AB S [S3, S] S' ([(B1, .cells [.string nm, .slice a C.length cap] 25 false true [])] ++ (fr ++ [])) []) ?_ (m := O.length) ⟨0, av, D, fr, Q1, Q1, (List.append_nil _).symm, hO, sE, hl⟩
   clear hl hO; rintro m Le S4 ⟨i, av, D', fr, hi, rfl, VB, hO, AL, hl⟩; refine AK AL ?_
   have JT : D'.length ≤ D.length + i := by rw [VB, ay, List.length_take]; omega
   refine zg ?_
   constructor <;> intro FU
   ·
    have SX : i < O.length := dT FU
    obtain ⟨x, hx⟩ := Ac SX
    obtain ⟨b1, o1, Ai, ha, _, AY, Ab⟩ := yC.elem hx
    refine zg ?_; refine aL hl [.int .i64 0, .int .i64 0, .int .i64 0] fun Hn S5 hl => ?_; refine sL hl 0 x.cells fun S6 hl => ?_; refine zg ?_; refine dL hl x.cells Tryz.underlying53 fun pS S7 ZH hl => ?_
    have hl : AB S [S3, S] S7 ([(Hn, .cells x.cells 40 false true []), (B1, .cells [.string nm, .slice a C.length cap] 25 false true [])] ++ (fr ++ [])) [] := hl
    refine HB hl hO rfl rfl rfl rfl rfl rfl rfl Tryz.underlying53 Tryz.underlying53 rfl rfl (by decide) aP (Bf (n := 1) (cap := 1) (new := x.cells) ZH rfl) rfl rfl aP (by show D'.length + 1 ≤ AQ; unfold AQ; omega) ?_; intro v36 BA S8 Aw hl
    obtain ⟨AT, rfl⟩ := Aw.is
    refine zg ?_
    exact ⟨O.length - (i + 1), Q1, i + 1, AT, D' ++ [x], BA, Q1, rfl, by rw [CJ hx, VB, List.append_assoc], Aw.push, ⟨rfl, rfl, rfl, rfl, rfl, congrArg some (congrArg (fun n => Value.slice AT n n) (by rw [ay]; rfl)), rfl, rfl, rfl, trivial⟩, hl.tail⟩
   have C8 : i = O.length := dF FU
   rw [C8, List.take_length] at VB
   refine zg ?_
   exact ⟨3 - (j + 1), Q1, j + 1, av, D', fr, Q1, rfl, by rw [Ly, VB], hO, sE, hl.marks (Us := [S]) fun T hT => cy hT⟩
  have wM : j = 3 := dF Cj
  have hD : D = BT L ++ Cp C := by
   rw [hD, wM]
   show (([] ++ BT L) ++ []) ++ Cp C = _
   rw [List.nil_append, List.append_nil]
  subst hD
  obtain ⟨n, FH⟩ : ∃ n, n = (BT L ++ Cp C).length := ⟨_, rfl⟩
  have hO : HF av (BT L ++ Cp C) n fr := by rw [FH]; exact hO
  have LI : (EO (BT L ++ Cp C)).length = n := by rw [FH]; exact (Wl _).length_eq
  rw [← FH]
  refine zg ?_
  refine Ct rfl rfl rfl rfl rfl rfl rfl (Bp (ADP av n (BT L ++ Cp C) hF FH.symm Q1 hO hl) ?_); rintro v S3 ⟨rfl, BA, hO, hl⟩
  have kJ : AZ 55 3 Bk.cells S3 (.slice av n n) (EO (BT L ++ Cp C)) := by
   have h := hO.ls LI hl
   rw [LI] at h
   exact h
  have hl := hl.mark.sub (l' := [(B1, .cells [.string nm, .slice a C.length cap] 25 false true [])]) (List.sublist_append_left ..)
  obtain ⟨W, Yd⟩ : ∃ W, W = EO (BT L ++ Cp C) := ⟨_, rfl⟩
  rw [← Yd] at kJ LI
  clear hO
  have hl := hl.EP (g := gK none []) (.inl ⟨rfl, rfl, rfl⟩)
  refine zg ?_; refine AK (L' := [(43, .int .i64 ((0 : Nat) : Int)), (42, .int .i64 n), (41, .slice av n n), (11, .slice none ([] : List Bk).length ([] : List Bk).length), (3, .int .i64 0), (2, .slice none 0 0)]) sE ?_
  refine Au rfl (fun m Le S' => ∃ (i : Nat) (ac : Option Addr) (Z : List Bk), i ≤ n ∧ m = n - i ∧ Z = W.take i ∧ Af [(43, .int .i64 (i : Int)), (42, .int .i64 n), (41, .slice av n n), (11, .slice ac Z.length Z.length), (3, .int .i64 0), (2, .slice none 0 0)] Le ∧ AB S [S3, S] S' [(B1, .cells [.string nm, .slice a C.length cap] 25 false true [])] [gK ac Z]) ?_ (m := n) ⟨0, none, [], Q1, Q1, rfl, sE, hl⟩
  clear hl; rintro m Le S4 ⟨i, ac, Z, hi, rfl, hZ, AL, hl⟩; refine AK AL ?_
  have Yf : Z.length ≤ 12 := by rw [hZ, List.length_take]; omega
  refine zg ?_
  constructor <;> intro EZ
  ·
   have AJ : i < n := dT EZ
   obtain ⟨x, hx⟩ := Ac (l := W) (i := i) Q1
   have yB : AZ 55 3 Bk.cells S3 (.slice av W.length n) W := by rw [LI]; exact kJ
   obtain ⟨b1, o1, Ai, ha, _, AY, Ab⟩ := yB.elem hx
   refine zg ?_; refine aL hl [.int .i64 0, .int .i64 0, .int .i64 0] fun Dt S5 hl => ?_; refine sL hl 0 x.cells fun S6 hl => ?_; refine zg ?_; refine dL hl x.cells Tryz.underlying35 fun UL S7 ZJ hl => ?_; refine DX hl 0 rfl rfl (show ([40] : List TypeId).Nodup by decide) rfl rfl rfl rfl rfl rfl rfl Tryz.underlying35 Tryz.underlying35 rfl rfl aP (Bf (n := 1) (cap := 1) (new := x.cells) ZJ rfl) rfl rfl aP (by show Z.length + 1 ≤ AQ; unfold AQ; omega) ?_; intro v50 S8 hl
   obtain ⟨eV, rfl⟩ : ∃ x, v50 = .slice x (Z.length + 1) (Z.length + 1) := AU.is (hl.gr _ aQ)
   refine zg ?_
   refine ⟨n - (i + 1), Q1, i + 1, eV, Z ++ [x], Q1, rfl, by rw [CJ hx, hZ], ⟨rfl, rfl, rfl, congrArg some (congrArg (fun n => Value.slice eV n n) (by rw [ay]; rfl)), rfl, rfl, trivial⟩, ?_⟩
   rw [gK, EH]
   exact hl.tail
  have C8 : i = n := dF EZ
  rw [C8, ← LI, List.take_length] at hZ
  subst hZ
  refine zg ?_
  refine y2 rfl rfl ⟨hl.AA, ac, by rw [← Yd], ?_⟩
  rw [← Yd]
  exact AU.ls (f := Bk.cells) (fun _ => rfl) (hl.gr _ aQ)
structure W8 (C : List Sg) (b : Bk) (i j : Nat) (s x : Sg) : Prop where
 k : 1 ≤ b.k ∧ b.k ≤ 3
 f : b.f = (i : Int)
 t : b.t = (j : Int)
 le : i ≤ j
 hs : nth C i = some s
 hx : nth C j = some x
 sn : F4 s = true
 xn : F4 x = true
end Go.Proofs.YtnhalpkekpehpaaGreatDoor
namespace Go.Proofs.YtnhalpkekpehpaaGreatDoor
open Go.Cm Go
set_option maxRecDepth 100000
variable {S : St}
def RG (L L' : List It) : Prop := ∀ i x, nth L i = some x → x.Cz = true → nth L' i = some x
theorem Ut {k : Int} {u : Nat} {L0 L : List It} (h : Bg k u L0 L) {i j : Nat} {x : It} (hx : nth L i = some x) (hc : x.Cz = true) (h0 : ∃ y, nth L0 j = some y ∧ y.fix = false ∧ y.Cz = false ∧ y.val ≤ k) : j ≠ i := fun e => by
 obtain ⟨y, hy, _, h2, _⟩ := h0
 rw [e] at hy
 have e := We h.sh hx hy
 unfold Cv at e
 simp only [Prod.mk.injEq] at e
 rw [e.2.2.2.1, h2] at hc
 cases hc
theorem si {k : Int} {u : Nat} {L0 L : List It} {M : List Int} {s : Se} {c : Int} (h : Bg k u L0 L) (hs : Ib L0 k s) (hc : c ∈ E8 L k u M s) : RG L (Ky u s L c) := fun i x hx L8 => by
 rcases Z8 hc with rfl | ⟨rfl, h1⟩ | ⟨rfl, h1⟩ | ⟨rfl, h1, h2⟩ | ⟨rfl, h1⟩
 ·exact hx
 ·obtain ⟨a1, y, a2, a3⟩ := Qi h1
  rw [fb, PR a2, Nl (Ut h hx L8 (hs.lh a1).2)]
  exact hx
 ·obtain ⟨a1, y, a2, a3⟩ := Pb h1
  rw [fc, UE a2, Nl (Ut h hx L8 (hs.rh a1).2)]
  exact hx
 ·obtain ⟨a1, y, a2, a3⟩ := Qi h1
  obtain ⟨b1, z, b2, b3⟩ := Pb h2
  have RT : nth (Mg u L s.lt.toNat) s.rt.toNat = some z := by rw [PR a2, Nl (hs.ne a1 b1)]; exact b2
  rw [Xi, UE RT, Nl (Ut h hx L8 (hs.rh b1).2), PR a2, Nl (Ut h hx L8 (hs.lh a1).2)]
  exact hx
 obtain ⟨a1, y, a2, a3, a4, a5, a6, a7⟩ := XT h1
 have AR : s.to - 1 ≠ i := fun e => by
  rw [e, hx] at a2
  cases a2
  rw [a6] at L8
  cases L8
 rw [Xj, dO a2, Nl AR]
 exact hx
theorem gp {k : Int} {u : Nat} {L0 : List It} (hu : 0 < u ∧ u ≤ 324) : ∀ (C : List Int) (N : List Se) (L : List It) (M : List Int) {L' : List It} {M' : List Int}, Bg k u L0 L → (∀ s, s ∈ N → Ib L0 k s) → EG k u L M N C = some (L', M') → RG L L'
 | [], N, L, M, L', M', h, _, e => by
  rw [ON] at e
  cases e
  exact fun i x hx _ => hx
 | c :: C, [], L, M, L', M', h, _, e => by cases e
 | c :: C, s :: N, L, M, L', M', h, hN, e => by
  unfold EG at e
  split at e
  ·rename_i hc
   have hs := hN s aQ
   have h2 := gp hu C N _ _ (Xk h hs hu hc) (fun s h => hN s (cy h)) e
   exact fun i x hx L8 => h2 i x (si h hs hc i x hx L8) L8
  cases e
theorem oV {k : Int} {u : Nat} : ∀ (n : Nat) (l : List PD) {l' : List PD}, HD k u n l = some l' → ∀ d, d ∈ l' → ∃ d0, d0 ∈ l ∧ d.1 = d0.1
 | 0, l, l', e, d, hd => by
  cases e
  exact ⟨d, hd, rfl⟩
 | n + 1, l, l', e, d, hd => by
  unfold HD at e
  split at e
  ·cases e
  obtain ⟨d1, h1, h2⟩ := oV n _ e d hd
  obtain ⟨d0, h3, h4⟩ := List.mem_flatMap.1 h1
  unfold GX at h4
  obtain ⟨c, _, rfl⟩ := List.mem_map.1 h4
  exact ⟨d0, h3, h2⟩
theorem zy {k : Int} {u : Nat} {sh : List (Int × Int × Bool × Bool × Bool × Int)} {m : Nat} {l l' : List PD} (hu : 0 < u ∧ u ≤ 324) (hs : sh.length ≤ 27) (h : ∀ d, d ∈ l → IW k u sh m d) (hl : l.length ≤ 4096) (e : IG k u l = some l') : ∀ d, d ∈ l' → ∃ d0, d0 ∈ l ∧ RG d0.1 d.1 := fun d hd => by
 unfold IG at e
 obtain ⟨l2, Ag, rfl⟩ := Option.map_eq_some_iff.1 e
 obtain ⟨e0, NL, rfl⟩ := List.mem_map.1 hd
 obtain ⟨d0, NK, e1⟩ := oV _ _ Ag e0 NL
 obtain ⟨h1, h2⟩ := List.mem_filter.1 NK
 obtain ⟨N0, OZ⟩ := Option.isSome_iff_exists.1 h2
 have hc : ∀ d, d ∈ l → ∀ N, Dr k u d.1 = some N → N.length = N0.length := fun d hd N hN => cB ((h d hd).s.trans (h d0 h1).s.symm) hN OZ
 rw [Z4 l hc ⟨d0, NK⟩] at Ag
 obtain ⟨h3, _⟩ := c4 (sh := sh) (c := N0.length) (m := m) N0.length 0 _ (fun d hd => by
  obtain ⟨h5, h6⟩ := List.mem_filter.1 hd
  obtain ⟨N, hN⟩ := Option.isSome_iff_exists.1 h6
  have h7 := h d h5
  exact ⟨h7.s, h7.lv, by rw [h7.n]; rfl, h7.m, N, d.1, [], hN, hc d h5 N hN, by rw [h7.n, ON]⟩) (Nat.le_trans (List.length_filter_le ..) hl) Ag
 obtain ⟨g1, g2, g3, _, N, L', M', g5, g6, g7⟩ := h3 e0 NL
 rw [Nat.zero_add] at g3
 have SE : Ic k u e0.1 e0.2.1 = some L' := by
  unfold Ic
  simp only [g5, g7]
  rw [if_neg Q1]
 have Cd := gp hu _ _ _ _ g2 (fun s DI => ((Qw g5 (by have := congrArg List.length g1; rw [cw] at this; omega)).1 s DI).1) g7
 refine ⟨d0, h1, ?_⟩
 rw [← e1]
 show RG e0.1 ((Ic k u e0.1 e0.2.1).getD [])
 rw [SE]
 exact Cd
theorem ku {p q r t : Int} {sh : List (Int × Int × Bool × Bool × Bool × Int)} (hm : Ap p q r t = 0) (hs : sh.length ≤ 27) : ∀ (V : List Int) (m : Nat) (l : List PD) {l' : List PD}, (∀ k, k ∈ V → k ∈ (BK [p, q, r, t] 4)) → (V.Pairwise fun a b => b < a) → (∀ k, k ∈ V → ∀ d, d ∈ l → IW k (Bc [p, q, r, t] (k.toNat + 1)) sh m d) → l.length ≤ 4096 → GI [p, q, r, t] V l = some l' → ∀ d, d ∈ l' → ∃ d0, d0 ∈ l ∧ RG d0.1 d.1
 | [], m, l, l', _, _, _, _, e, d, hd => by
  cases e
  exact ⟨d, hd, fun i x hx _ => hx⟩
 | k :: V, m, l, l', hV, hp, hI, hl, e, d, hd => by
  cases Ag : IG k (Bc [p, q, r, t] (k.toNat + 1)) l with
  | none =>
   unfold GI at e
   rw [Ag] at e
   cases e
  | some l2 =>
   rw [Vr Ag] at e
   have h4 := (Vt hm).2 k (hV k aQ)
   obtain ⟨g4, g5⟩ := Z2 h4.2 hs (hI k aQ) hl Ag
   obtain ⟨KN, H7⟩ := List.pairwise_cons.1 hp
   obtain ⟨d1, h5, h6⟩ := ku hm hs V (m + 60) l2 (fun k hk => hV k (cy hk)) H7 (fun k2 Ar d hd => (g4 d hd).next (KN k2 Ar) h4.2.2) g5 e d hd
   obtain ⟨d0, h7, h8⟩ := zy h4.2 hs (hI k aQ) hl Ag d1 h5
   exact ⟨d0, h7, fun i x hx hc => h6 i x (h8 i x hx hc) hc⟩
theorem sv {p q r t : Int} {R : List Sg} {n : Nat} {l : List (List Ti)} (hm : Ap p q r t = 0) (hR : Br [p, q, r, t] R) (hn : R.length ≤ 27) (h : F' [p, q, r, t] t R n = some l) {i : Nat} {x : It} (hx : nth (EM [p, q, r, t] t R (GY [p, q, r, t] t R n) (Gs t R n)) i = some x) (hc : x.Cz = true) : ∀ d, d ∈ l → nth d i = some (tw x.AS) := fun d hd => by
 unfold F' at h
 obtain ⟨l2, h2, rfl⟩ := Option.map_eq_some_iff.1 h
 obtain ⟨e, he, rfl⟩ := List.mem_map.1 hd
 obtain ⟨d0, h3, h4⟩ := ku hm (sh := (EM [p, q, r, t] t R (GY [p, q, r, t] t R n) (Gs t R n)).map Cv) (by rw [cw, Zo]; have := Mw R; omega) _ 0 _ (fun k hk => hk) (Z1 hm) (fun k _ d hd => by
  rw [List.mem_singleton.1 hd]
  exact Zw hm hR (Xt hm hR) k _) (by show 1 ≤ 4096; omega) h2 e he
 rw [List.mem_singleton.1 h3] at h4
 have h5 := h4 i x hx hc
 show nth ((Ah e.1).map tw) i = _
 unfold Ah
 rw [List.map_map]
 exact Dc (fun x : It => tw x.AS) h5
theorem Uc {k a : Int} {v : Nat} (h : a ≠ k) : ∀ D : List (Int × Nat), FP (I7 D k v) a = FP D a
 | [] => by show (if a = k then some v else none) = none; rw [if_neg h]
 | (c, w) :: r => by
  show FP (if k = c then (c, v) :: r else (c, w) :: I7 r k v) a = if a = c then some w else FP r a
  by_cases e : k = c
  ·subst e
   rw [if_pos rfl, if_neg h]
   show (if a = k then some v else FP r a) = _
   rw [if_neg h]
  rw [if_neg e]
  show (if a = c then some w else FP (I7 r k v) a) = _
  rw [Uc h r]
theorem lX {a : Int} : ∀ (L : List (Int × Int)) (D : List (Int × Nat)), (∀ e, e ∈ L → a ≠ e.1 ∧ a ≠ e.1 + 1) → FP D a = none → FP (L.foldl O4 D) a = none
 | [], D, _, h => h
 | e :: L, D, hL, h => by
  obtain ⟨h1, h2⟩ := hL e aQ
  refine lX L _ (fun e he => hL e (cy he)) ?_
  unfold O4
  split
  ·rw [Uc h2, Uc h1]; exact h
  exact h
theorem lR (X : List Int) : ∀ (R : List Sg) (st : List Int × List Bool × Nat), (R.foldl (MO X) st).2.1.length = st.2.1.length + ct R
 | [], st => rfl
 | s :: r, st => by
  rw [List.foldl_cons, lR X r]
  unfold MO ct
  cases h : s.kind == 3
  ·rw [List.filter_cons_of_pos (by rw [h]; rfl)]
   show (st.2.1 ++ [false]).length + _ = _ + (_ + 1)
   rw [ay]
   show _ + 1 + _ = _
   omega
  rw [List.filter_cons_of_neg (by rw [h]; decide)]
  show (st.2.1.set _ _).length + _ = _
  rw [List.length_set]
theorem yl {M : List Int} {t : Int} {R : List Sg} {v a : Int} (X Y : List Int) (hp : ∀ x, nth R (R.length - 1) = some x → CH x = false) : ∃ x, nth (EM M t (R ++ [A9 v a true]) X Y) (ct R) = some x ∧ x.Cz = true ∧ x.AS = GA M v.toNat := by
 have hs : nth (R ++ [A9 v a true]) R.length = some (A9 v a true) := Nk
 have e1 : EM M t (R ++ [A9 v a true]) X Y = Je (Bm X (R ++ [A9 v a true])).1 (Bm X (R ++ [A9 v a true])).2.1 (FT M t (R ++ [A9 v a true]) Y) (R ++ [A9 v a true]) (R.length + 1) := by
  unfold EM
  rw [ay]
  rfl
 have hl := TI (Bm X (R ++ [A9 v a true])).1 (Bm X (R ++ [A9 v a true])).2.1 (FT M t (R ++ [A9 v a true]) Y) (R ++ [A9 v a true]) R.length (by rw [ay]; exact Nat.le_add_right ..)
 have et : (R ++ [A9 v a true]).take R.length = R := by rw [List.take_append_of_le_length (Nat.le_refl _), List.take_length]
 have hD : nth (Bm X (R ++ [A9 v a true])).2.1 (ct R) = some false := by
  rw [lT]
  have h := lR X R ([], [], 0)
  show nth ((Bm X R).2.1 ++ [false]) (ct R) = _
  have h : (Bm X R).2.1.length = ct R := h.trans (Nat.zero_add _)
  rw [← h]
  exact Nk
 have hT : nth (FT M t (R ++ [A9 v a true]) Y) (ct R) = some (GA M v.toNat) := by
  unfold FT
  rw [Xq, ← Uw M (II (Az t (R ++ [A9 v a true])) Y) R 0, Nat.zero_add]
  have hn : FP (II (Az t (R ++ [A9 v a true])) Y) (R.length : Int) = none := by
   refine lX _ _ (fun e he => ?_) rfl
   have hm := (List.of_mem_zip he).1
   obtain ⟨k, hk⟩ := KX hm
   obtain ⟨j, e2, hj, _, KO⟩ := mU hk
   rw [ay] at hj
   have hj : j < R.length + 1 := hj
   rw [e2]
   have h1 : j ≠ R.length := fun e => by
    have hx : nth (R ++ [A9 v a true]) (j + 1) = none := by
     rw [CD, List.getElem?_eq_none]
     rw [ay, e]
     exact Nat.le_refl _
    unfold I2 at KO
    rw [hx] at KO
    cases h : nth (R ++ [A9 v a true]) j <;> rw [h] at KO <;> cases KO
   have h2 : j + 1 ≠ R.length := fun e => by
    obtain ⟨x, hx⟩ := Ac (l := R) (i := j) Q1
    have h3 := hp x (by rw [show R.length - 1 = j by omega]; exact hx)
    have DU : nth (R ++ [A9 v a true]) j = some x := by rw [TT (CS hx)]; exact hx
    have QS : nth (R ++ [A9 v a true]) (j + 1) = some (A9 v a true) := by rw [e]; exact hs
    unfold I2 at KO
    rw [DU, QS] at KO
    simp only [h3, Bool.false_and] at KO
    cases KO
   omega
  have ed : HN M (II (Az t (R ++ [A9 v a true])) Y) R.length (A9 v a true) = GA M v.toNat := by
   unfold HN
   rw [hn]
   rfl
  show nth (HL M _ 0 R ++ [HN M _ R.length (A9 v a true)]) _ = _
  rw [ed]
  exact Nk
 rw [et] at hl
 refine ⟨IC (A9 v a true) R.length ((nth (Bm X (R ++ [A9 v a true])).1 (ct R)).getD 0) false (GA M v.toNat), ?_, rfl, rfl⟩
 have e2 : Jf (Bm X (R ++ [A9 v a true])).1 (Bm X (R ++ [A9 v a true])).2.1 (FT M t (R ++ [A9 v a true]) Y) (R ++ [A9 v a true]) R.length = [IC (A9 v a true) R.length ((nth (Bm X (R ++ [A9 v a true])).1 (ct R)).getD 0) false (GA M v.toNat)] := by
  unfold Jf
  rw [hs, et, hD, hT]
  rfl
 rw [e1, Zp, e2]
 have h := Nk (C := Je (Bm X (R ++ [A9 v a true])).1 (Bm X (R ++ [A9 v a true])).2.1 (FT M t (R ++ [A9 v a true]) Y) (R ++ [A9 v a true]) R.length) (s := IC (A9 v a true) R.length ((nth (Bm X (R ++ [A9 v a true])).1 (ct R)).getD 0) false (GA M v.toNat))
 rw [hl] at h
 exact h
theorem zP {p q r t : Int} {R : List Sg} {v a : Int} {L : List (List Ti)} (hm : Ap p q r t = 0) (hR : Br [p, q, r, t] (R ++ [A9 v a true])) (hn : R.length + 1 ≤ 27) (hp : ∀ x, nth R (R.length - 1) = some x → CH x = false) (h : F8 [p, q, r, t] t (R ++ [A9 v a true]) = some L) : Lk L (ct R) = true := by
 have key : ∀ d, d ∈ L → nth d (ct R) = some (tw (GA [p, q, r, t] v.toNat)) := fun d hd => by
  unfold F8 at h
  cases hb : Gx [p, q, r, t] t (R ++ [A9 v a true]) with
  | false => rw [hb] at h; cases h
  | true =>
   rw [hb] at h
   rcases XS _ _ _ h d hd with h1 | ⟨j, l, _, _, hc, hl⟩
   ·exact (List.not_mem_nil h1).elim
   obtain ⟨x, h2, h3, h4⟩ := yl (M := [p, q, r, t]) (t := t) (R := R) (v := v) (a := a) (GY [p, q, r, t] t (R ++ [A9 v a true]) j) (Gs t (R ++ [A9 v a true]) j) hp
   rw [← h4]
   exact sv hm hR (by rw [ay]; exact hn) hc h2 h3 d hl
 unfold Lk
 rw [List.all_eq_true]
 intro d hd
 have hh : L.headD [] ∈ L := by
  cases L with
  | nil => exact (List.not_mem_nil hd).elim
  | cons x L => exact aQ
 rw [key d hd, key _ hh, decide_eq_true rfl]
theorem Tl {k : Int} {P : List Int} {B : List Bool} (hl : P.length = B.length) : ∀ (n i : Nat) (o : Option Nat), i + n = B.length → (Ei (B.drop i) i o).map (HJ k P) = (EE ((P.zip B).drop i) (o.map fun f => ((nth P f).getD 0, (nth P (i - 1)).getD 0))).map (MN k)
 | 0, i, o, hi => by
  rw [List.drop_eq_nil_of_le Q1, List.drop_eq_nil_of_le (by rw [List.length_zip]; omega)]
  cases o <;> rfl
 | n + 1, i, o, hi => by
  obtain ⟨b, hb⟩ := Ac (l := B) (i := i) Q1
  obtain ⟨x, hx⟩ := Ac (l := P) (i := i) Q1
  have hz : nth (P.zip B) i = some (x, b) := by
   rw [CD] at hb hx ⊢
   rw [List.getElem?_zip_eq_some]
   exact ⟨hx, hb⟩
  rw [D4 hb, D4 hz]
  have ei : (nth P (i + 1 - 1)).getD 0 = x := by rw [Nat.add_sub_cancel, hx]; rfl
  cases b with
  | true =>
   cases o with
   | none =>
    have h := Tl (k := k) hl n (i + 1) (some i) Q1
    show (Ei (B.drop (i + 1)) (i + 1) (some i)).map _ = (EE ((P.zip B).drop (i + 1)) (some (x, x))).map _
    rw [h]
    show (EE _ (some ((nth P i).getD 0, (nth P (i + 1 - 1)).getD 0))).map _ = _
    rw [ei, hx]
    rfl
   | some f =>
    have h := Tl (k := k) hl n (i + 1) (some f) Q1
    show (Ei (B.drop (i + 1)) (i + 1) (some f)).map _ = (EE ((P.zip B).drop (i + 1)) (some ((nth P f).getD 0, x))).map _
    rw [h]
    show (EE _ (some ((nth P f).getD 0, (nth P (i + 1 - 1)).getD 0))).map _ = _
    rw [ei]
  | false =>
   have h := Tl (k := k) hl n (i + 1) none Q1
   cases o with
   | none => exact h
   | some f => exact congrArg (HJ k P (f, i) :: ·) h
def Eg (cur : List Nt) : List Nt := cur.filter fun e => !(e.2.kind == 3)
def O5 : List Sg → Nat → List Nt
 | [], _ => []
 | s :: r, i => (bif nd s then [(i, s)] else []) ++ O5 r (i + 1)
theorem WX : ∀ (C : List Sg) (i : Nat) (cur : List Nt), (Bw C i cur).flatten = cur ++ O5 C i
 | [], i, cur => by
  cases cur with
  | nil => rfl
  | cons e l => show (e :: l) ++ [] = (e :: l) ++ []; rfl
 | s :: r, i, cur => by
  unfold Bw O5
  cases nd s
  ·cases CV s.kind == 3
   ·exact WX r (i + 1) cur
   show ((bif cur.isEmpty then [] else [cur]) ++ Bw r (i + 1) []).flatten = cur ++ ([] ++ O5 r (i + 1))
   rw [List.flatten_append, WX r (i + 1) [], List.nil_append]
   cases cur with
   | nil => rfl
   | cons e l => show (e :: l ++ []) ++ _ = _; rw [List.append_nil]
  show (Bw r (i + 1) (cur ++ [(i, s)])).flatten = cur ++ ([(i, s)] ++ O5 r (i + 1))
  rw [WX r (i + 1), List.append_assoc]
theorem zF {s : Sg} (h : 1 ≤ s.kind ∧ s.kind ≤ 12) : (nd s && !(s.kind == 3)) = F4 s := by
 unfold nd F4
 rcases kh h.1 h.2 with e | e | e | e | e | e | e | e | e | e | e | e <;> rw [e] <;> rfl
theorem lg : ∀ {C : List Sg} (i : Nat), (∀ s, s ∈ C → 1 ≤ s.kind ∧ s.kind ≤ 12) → Eg (O5 C i) = DW C i
 | [], _, _ => rfl
 | s :: r, i, h => by
  have hs := zF (h s aQ)
  have ih := lg (i + 1) fun x hx => h x (cy hx)
  unfold O5 DW Eg
  rw [List.filter_append, ← hs]
  congr 1
  cases nd s with
  | false => rfl
  | true =>
   show List.filter _ [(i, s)] = _
   rw [List.filter_cons]
   show (if (!(s.kind == 3)) = true then [(i, s)] else []) = _
   cases s.kind == 3 <;> rfl
theorem zb {p q r t : Int} {C : List Sg} (hX : CA p q r t C) : ∀ s, s ∈ C → 1 ≤ s.kind ∧ s.kind ≤ 12 := fun s hs => by
 obtain ⟨j, hj⟩ := KX hs
 exact (Q7 (hX j s hj)).1
theorem AAb (A B : List Nt) : Eg (A ++ B) = Eg A ++ Eg B := List.filter_append ..
theorem lr : ∀ P : List (List Nt), Eg P.flatten = P.flatMap Eg
 | [] => rfl
 | a :: P => by rw [List.flatten_cons, AAb, lr P, List.flatMap_cons]
theorem nW {p q r t : Int} {C : List Sg} (hX : CA p q r t C) : (A2 C).flatMap Eg = DW C 0 := by
 rw [← lr]
 show Eg (Bw C 0 []).flatten = _
 rw [WX, List.nil_append, lg 0 (zb hX)]
theorem nS {M : List Int} {t : Int} : ∀ (P : List (List Nt)) {L : List (List Bool × List Int)}, Cu M t P = some L → L.map Prod.snd = P.map FD ∧ ∀ j e cur, nth L j = some e → nth P j = some cur → FA M t (cur.map Prod.snd) = some e.1
 | [], L, h => by
  cases h
  exact ⟨rfl, fun j e cur h => by cases h⟩
 | cur :: P, L, h => by
  cases hD : FA M t (cur.map Prod.snd) with
  | none => rw [PF hD] at h; cases h
  | some D =>
   rw [PG hD] at h
   obtain ⟨L2, h2, rfl⟩ := Option.map_eq_some_iff.1 h
   obtain ⟨h3, h4⟩ := nS P h2
   refine ⟨congrArg (FD cur :: ·) h3, fun j e c he hc => ?_⟩
   cases j with
   | zero => cases he; cases hc; exact hD
   | succ j => exact h4 j e c he hc
theorem l9 : ∀ (C : List Sg) (i : Nat), (DW C i).Pairwise fun a b => a.1 < b.1
 | [], _ => List.Pairwise.nil
 | s :: r, i => by
  unfold DW
  refine List.pairwise_append.2 ⟨by cases F4 s; exact List.Pairwise.nil; exact List.pairwise_singleton .., l9 r (i + 1), fun a ha b hb => ?_⟩
  have hb := (Qc hb).1
  cases hs : F4 s with
  | false => rw [hs] at ha; exact (List.not_mem_nil ha).elim
  | true =>
   rw [hs] at ha
   rw [List.mem_singleton.1 ha]
   show i < b.1
   omega
def Js (e : List Bool × List Int) : List PB := e.2.zip (e.1.map fun x => !x)
theorem Uq {L : List (List Bool × List Int)} (h : ∀ e, e ∈ L → e.1.length = e.2.length) : BT L = ((L.map Js).flatMap (EE · none)).map (MN 3) := by
 induction L with
 | nil => rfl
 | cons e L ih =>
  unfold BT at ih ⊢
  rw [List.flatMap_cons, List.map_cons, List.flatMap_cons, mAp, ih fun x hx => h x (cy hx)]
  congr 1
  have he := h e aQ
  exact Tl (k := 3) (P := e.2) (B := e.1.map fun x => !x) (by rw [cw]; exact he.symm) e.1.length 0 none (by rw [cw]; omega)
def Kz (C : List Sg) : List PB := (CN C).zip ((CN C).map (HK C))
theorem Ur (C : List Sg) : Cp C = (EE (Kz C) none).map (MN 2) :=
 Tl (k := 2) (P := CN C) (B := (CN C).map (HK C)) (List.length_map _).symm (CN C).length 0 none (by rw [cw]; omega)
theorem zip_fst {α β : Type} : ∀ {A : List α} {B : List β}, A.length = B.length → (A.zip B).map Prod.fst = A
 | [], [], _ => rfl
 | a :: A, b :: B, h => congrArg (a :: ·) (zip_fst (by simpa using h))
theorem W6 {α β : Type} : ∀ {A : List α} {B : List β}, A.length = B.length → (A.zip B).map Prod.snd = B
 | [], [], _ => rfl
 | a :: A, b :: B, h => congrArg (b :: ·) (W6 (by simpa using h))
theorem ew {E : List PB} (h : (E.map Prod.fst).Pairwise (· < ·)) : PW E := List.pairwise_map.1 h
theorem l6 (C : List Sg) : (CN C).Pairwise (· < ·) := List.pairwise_map.2 ((l9 C 0).imp fun h => by unfold DV; omega)
theorem s5 (C : List Sg) : PW (Kz C) := ew (by unfold Kz; rw [zip_fst (List.length_map _).symm]; exact l6 C)
theorem oz {L : List (List Bool × List Int)} (h : ∀ e, e ∈ L → e.1.length = e.2.length) : ((L.map Js).flatten).map Prod.fst = L.flatMap Prod.snd := by
 induction L with
 | nil => rfl
 | cons e L ih =>
  rw [List.map_cons, List.flatten_cons, mAp, ih fun x hx => h x (cy hx), List.flatMap_cons]
  congr 1
  exact zip_fst (by rw [cw]; exact (h e aQ).symm)
theorem nU {p q r t : Int} {C : List Sg} {L : List (List Bool × List Int)} (hX : CA p q r t C) (h : Cu [p, q, r, t] t (A2 C) = some L) : L.flatMap Prod.snd = CN C := by
 have h1 := (nS _ h).1
 rw [List.flatMap_def, h1, CN, ← nW hX, List.map_flatMap, List.flatMap_def]
 rfl
theorem AE5 {p q r t : Int} {C : List Sg} {L : List (List Bool × List Int)} (hX : CA p q r t C) (h : Cu [p, q, r, t] t (A2 C) = some L) : PW (L.map Js).flatten := ew (by rw [oz (Nx _ h).2, nU hX h]; exact l6 C)
theorem lu : ∀ (Z : List (Bool × Bool)) (p q : Bool), TS Z p q = true → ∃ m, Z.length = m + 1 ∧ nth Z m = some (true, true) ∧ (m = 0 → p = false ∧ q = false) ∧ ∀ k, m = k + 1 → nth Z k = some (false, false)
 | [], _, _, h => by cases h
 | [(b, c)], p, q, h => by
  have h : (b && !p && c && !q) = true := h
  refine ⟨0, rfl, ?_, fun _ => ?_, fun k hk => by omega⟩
  ·cases b <;> cases c <;> cases p <;> cases q <;> first | rfl | cases h
  cases b <;> cases c <;> cases p <;> cases q <;> first | exact ⟨rfl, rfl⟩ | cases h
 | (b, c) :: e :: r, p, q, h => by
  obtain ⟨m, h1, h2, h3, h4⟩ := lu (e :: r) b c h
  refine ⟨m + 1, congrArg (· + 1) h1, h2, fun h => by omega, fun k hk => ?_⟩
  cases k with
  | zero =>
   obtain ⟨h5, h6⟩ := h3 Q1
   rw [h5, h6]
   rfl
  | succ k => exact h4 k Q1
theorem ACQ : (KY.all fun M => Nz.all fun (v : Nat) => (List.range 9).all fun (a : Nat) => (F8 M ((nth M 3).getD 0) [A9 (v : Int) (a : Int) true]).isSome) = true := by kernel_rfl
theorem ACR {p q r t : Int} (hm : Ap p q r t = 0) {v a : Int} (hv : 2 ≤ v ∧ v ≤ 6) (ha : 0 ≤ a ∧ a ≤ 8) : F8 [p, q, r, t] t [A9 v a true] ≠ none := fun h => by
 have h1 := List.all_eq_true.1 (List.all_eq_true.1 (List.all_eq_true.1 ACQ _ (MM hm)) v.toNat (TO Q1)) a.toNat (List.mem_range.2 Q1)
 rw [show ((v.toNat : Nat) : Int) = v by omega, show ((a.toNat : Nat) : Int) = a by omega] at h1
 have h2 : (F8 [p, q, r, t] t [A9 v a true]).isSome = true := h1
 rw [h] at h2
 cases h2
theorem mG {α β : Type} {A : List α} {B : List β} {i : Nat} {x : α} {y : β} (h : nth (A.zip B) i = some (x, y)) : nth A i = some x ∧ nth B i = some y := by
 rw [CD] at h ⊢
 rw [CD]
 exact List.getElem?_zip_eq_some.1 h
theorem mC {D : List Bool} {i : Nat} {b : Bool} (h : nth (D.map fun x => !x) i = some b) : nth D i = some (!b) := by
 rw [CD, List.getElem?_map] at h
 rw [CD]
 obtain ⟨x, h1, h2⟩ := Option.map_eq_some_iff.1 h
 rw [h1, ← h2, Bool.not_not]
theorem AAc (cur : List Nt) : (Eg cur).length = ct (cur.map Prod.snd) := by
 have h := jO cur
 unfold FD at h
 rw [cw] at h
 exact h
theorem tG {R : List Sg} (h : ∀ s, s ∈ R → (s.kind == 3) = false) : ct R = R.length := by
 unfold ct
 rw [List.filter_eq_self.2 fun s hs => by rw [h s hs]; rfl]
theorem ACH {p q r t : Int} {C : List Sg} {cur : List Nt} {D : List Bool} (hm : Ap p q r t = 0) (hS : RL p q r t C cur) (CL : cur.length ≤ 12) (h : FA [p, q, r, t] t (cur.map Prod.snd) = some D) : n1 (D.map fun x => !x) false + n1 ((Eg cur).map fun e => e.2.color) false ≤ cur.length := by
 have JT := fZ h
 rw [← AAc] at JT
 have QU : (D.map fun x => !x).length = ((Eg cur).map fun e => e.2.color).length := by rw [cw, cw, JT]
 have ZA := lz ((D.map fun x => !x).zip ((Eg cur).map fun e => e.2.color)) false false
 rw [zip_fst QU, W6 QU] at ZA
 rw [← ZA]
 have Yf : ((D.map fun x => !x).zip ((Eg cur).map fun e => e.2.color)).length = (Eg cur).length := by rw [List.length_zip, ← QU, cw, JT]; omega
 by_cases jL : ∃ e, e ∈ cur ∧ (e.2.kind == 3) = true
 ·obtain ⟨e, he, hk⟩ := jL
  have h1 := (lx ((D.map fun x => !x).zip ((Eg cur).map fun e => e.2.color)) false false).1
  have h2 : (Eg cur).length < cur.length := List.length_filter_lt_length_iff_exists.2 ⟨e, he, by rw [hk]; decide⟩
  omega
 have CW : ∀ e, e ∈ cur → (e.2.kind == 3) = false := fun e he => by
  cases hk : e.2.kind == 3 with
  | false => rfl
  | true => exact (jL ⟨e, he, hk⟩).elim
 have vf : Eg cur = cur := List.filter_eq_self.2 fun e he => by rw [CW e he]; rfl
 rw [vf] at ZA QU Yf JT ⊢
 have hL : TS ((D.map fun x => !x).zip (cur.map fun e => e.2.color)) false false = false := by
  cases hb : TS ((D.map fun x => !x).zip (cur.map fun e => e.2.color)) false false with
  | false => rfl
  | true =>
   exfalso
   obtain ⟨m, h1, h2, _, h4⟩ := lu _ _ _ hb
   obtain ⟨h5, h6⟩ := mG h2
   have h5 := mC h5
   rw [Yf] at h1
   obtain ⟨e, he⟩ := Ac (l := cur) (i := m) Q1
   have QC : e.2.color = true := by
    have := Dc (fun e : Nt => e.2.color) he
    rw [h6] at this
    exact (Option.some.inj this).symm
   have hR : cur.map Prod.snd = (cur.take m).map Prod.snd ++ [e.2] := by
    have h7 : cur = cur.take m ++ [e] := by rw [← CJ he, List.take_of_length_le Q1]
    have h8 := congrArg (List.map Prod.snd) h7
    rw [mAp] at h8
    exact h8
   have JZ : ((cur.take m).map Prod.snd).length = m := by rw [cw, List.length_take]; omega
   have uu : NX e.2 := by
    rcases hS.run m e.2 (Dc Prod.snd he) with h9 | ⟨h9, _⟩
    ·exact h9
    have := CW e (Am he); rw [h9] at this; cases this
   obtain ⟨v, a, hv, ha, MB⟩ : ∃ v a, (2 ≤ v ∧ v ≤ 6) ∧ (0 ≤ a ∧ a ≤ 8) ∧ e.2 = A9 v a true := by
    rcases uu with ⟨v, a, c, hv, ha, h9⟩ | ⟨v, hv, h9⟩
    ·rw [h9] at QC
     have QC : c = true := QC
     exact ⟨v, a, hv, ha, by rw [h9, QC]⟩
    rw [h9] at QC; cases QC
   rw [MB] at hR
   have DH := hS.run
   rw [hR] at h DH
   have jx : ∀ k, m = k + 1 → ∃ z : Nt, nth cur k = some z ∧ z.2.color = false ∧ nth D k = some true := fun k hk => by
    obtain ⟨h9, GZ⟩ := mG (h4 k hk)
    obtain ⟨z, hz⟩ := Ac (l := cur) (i := k) Q1
    have := Dc (fun e : Nt => e.2.color) hz
    rw [GZ] at this
    exact ⟨z, hz, (Option.some.inj this).symm, mC h9⟩
   have SN : ct ((cur.take m).map Prod.snd) = m := by
    rw [tG, JZ]
    intro s hs
    obtain ⟨z, hz, rfl⟩ := List.mem_map.1 hs
    exact CW z (List.mem_of_mem_take hz)
   unfold FA at h
   cases hA : F8 [p, q, r, t] t ((cur.take m).map Prod.snd ++ [A9 v a true]) with
   | none =>
    rw [hA] at h
    cases m with
    | zero => exact ACR hm hv ha hA
    | succ k =>
     obtain ⟨z, _, _, hz⟩ := jx k rfl
     have h : some (fs (ct ((cur.take (k + 1)).map Prod.snd ++ [A9 v a true]))) = some D := h
     rw [← Option.some.inj h] at hz
     unfold fs at hz
     rw [CD, List.getElem?_replicate] at hz
     split at hz <;> cases hz
   | some L =>
    rw [hA] at h
    have kC := zP hm DH (by rw [JZ]; omega) (fun x hx => by
     rw [JZ] at hx
     cases m with
     | zero => cases hx
     | succ k =>
      obtain ⟨z, hz, TC, _⟩ := jx k rfl
      have h9 : nth ((cur.take (k + 1)).map Prod.snd) k = some z.2 := Dc Prod.snd (by rw [CD, List.getElem?_take, if_pos Q1, ← CD]; exact hz)
      rw [show k + 1 - 1 = k by omega, h9] at hx
      rw [← Option.some.inj hx]
      unfold CH
      rw [TC, Bool.and_false]) hA
    cases L with
    | nil => cases h
    | cons d L =>
     have h : some (Ll (d :: L) (ct ((cur.take m).map Prod.snd ++ [A9 v a true]))) = some D := h
     rw [← Option.some.inj h] at h5
     unfold Ll at h5
     rw [CD, List.getElem?_map] at h5
     obtain ⟨j, h9, GZ⟩ := Option.map_eq_some_iff.1 h5
     obtain ⟨_, Dv⟩ := List.getElem?_eq_some_iff.1 h9
     rw [List.getElem_range] at Dv
     subst Dv
     rw [SN] at kC
     rw [kC] at GZ
     cases GZ
 have h1 := (ly _ false false hL).1
 omega
theorem oc {p q r t : Int} {C : List Sg} (hm : Ap p q r t = 0) (CL : C7 C ≤ 12) : ∀ (P : List (List Nt)) {L : List (List Bool × List Int)}, (∀ c, c ∈ P → c ∈ A2 C ∧ RL p q r t C c) → Cu [p, q, r, t] t P = some L → (L.map fun e => n1 (e.1.map fun x => !x) false).sum + (P.map fun c => n1 ((Eg c).map fun e => e.2.color) false).sum ≤ (P.map List.length).sum
 | [], L, _, h => by
  cases h
  exact Nat.le_refl 0
 | cur :: P, L, hS, h => by
  cases hD : FA [p, q, r, t] t (cur.map Prod.snd) with
  | none => rw [PF hD] at h; cases h
  | some D =>
   rw [PG hD] at h
   obtain ⟨L2, h2, rfl⟩ := Option.map_eq_some_iff.1 h
   have h3 := oc hm CL P (fun c hc => hS c (cy hc)) h2
   obtain ⟨h4, h5⟩ := hS cur aQ
   have h6 := ACH hm h5 (Nat.le_trans (ft h4) CL) hD
   rw [List.map_cons, List.sum_cons, List.map_cons, List.sum_cons, List.map_cons, List.sum_cons]
   show n1 (D.map fun x => !x) false + _ + (_ + _) ≤ _
   omega
theorem AAC {p q r t : Int} {C : List Sg} (hX : CA p q r t C) : (CN C).map (HK C) = ((A2 C).map fun c => (Eg c).map fun e => e.2.color).flatten := by
 have h1 : (CN C).map (HK C) = (DW C 0).map fun e => e.2.color := by
  unfold CN
  rw [List.map_map]
  refine List.map_congr_left fun e he => ?_
  obtain ⟨_, h2, _⟩ := Qc he
  rw [Nat.sub_zero] at h2
  show HK C (DV e) = _
  unfold HK DV
  rw [show ((e.1 : Int)).toNat = e.1 by omega, h2]
 rw [h1, ← nW hX, List.map_flatMap, List.flatMap_def]
theorem AE3 {L : List (List Bool × List Int)} (h : ∀ e, e ∈ L → e.1.length = e.2.length) : (((L.map Js).flatMap (EE · none))).length = (L.map fun e => n1 (e.1.map fun x => !x) false).sum := by
 induction L with
 | nil => rfl
 | cons e L ih =>
  rw [List.map_cons, List.flatMap_cons, ay, ih fun x hx => h x (cy hx), Pg, List.map_cons, List.sum_cons]
  congr 1
  unfold Js
  rw [W6 (by rw [cw]; exact (h e aQ).symm)]
  rfl
theorem Z6 {p q r t : Int} {C : List Sg} {L : List (List Bool × List Int)} (hm : Ap p q r t = 0) (hX : CA p q r t C) (CL : C7 C ≤ 12) (h : Cu [p, q, r, t] t (A2 C) = some L) : (BT L ++ Cp C).length ≤ 12 := by
 have h1 := oc hm CL (A2 C) (fun c hc => ⟨hc, bn hX c hc⟩) h
 rw [Wa] at h1
 have h2 := lZ ((A2 C).map fun c => (Eg c).map fun e => e.2.color)
 rw [← AAC hX, List.map_map] at h2
 rw [ay, Uq (Nx _ h).2, Ur, cw, cw, AE3 (Nx _ h).2, Pg]
 unfold Kz
 rw [W6 (List.length_map _).symm]
 show _ + (n1 ((CN C).map (HK C)) false + 0) ≤ 12
 have h3 : ((A2 C).map ((fun B => n1 B false) ∘ fun c => (Eg c).map fun e => e.2.color)) = (A2 C).map fun c => n1 ((Eg c).map fun e => e.2.color) false := rfl
 rw [h3] at h2
 omega
theorem l5 {C : List Sg} {x : Int} (h : x ∈ CN C) : ∃ (i : Nat) (s : Sg), x = (i : Int) ∧ nth C i = some s ∧ F4 s = true := by
 obtain ⟨e, he, rfl⟩ := List.mem_map.1 h
 obtain ⟨_, h2, h3⟩ := Qc he
 rw [Nat.sub_zero] at h2
 exact ⟨e.1, e.2, rfl, h2, h3⟩
section
variable {p q r t : Int} {C : List Sg} {L : List (List Bool × List Int)}
theorem lS {k : Int} (hk : 1 ≤ k ∧ k ≤ 3) {w : Int × Int} (h1 : w.1 ≤ w.2) (h2 : w.1 ∈ CN C) (h3 : w.2 ∈ CN C) : ∃ i j s x, W8 C (MN k w) i j s x := by
 obtain ⟨i, s, e1, hs, LI⟩ := l5 h2
 obtain ⟨j, x, e2, hx, Vi⟩ := l5 h3
 exact ⟨i, j, s, x, hk, e1, e2, Q1, hs, hx, LI, Vi⟩
theorem AAE (hX : CA p q r t C) (h : Cu [p, q, r, t] t (A2 C) = some L) : ∀ b, b ∈ EO (BT L ++ Cp C) → (b.k = 2 ∨ b.k = 3) ∧ ∃ i j s x, W8 C b i j s x := fun b hb => by
 have hl := (Nx _ h).2
 rcases List.mem_append.1 ((Wl _).mem_iff.1 hb) with hb | hb
 ·rw [Uq hl] at hb
  obtain ⟨w, hw, rfl⟩ := List.mem_map.1 hb
  obtain ⟨h1, h2, h3⟩ := ACJ (AE5 hX h) hw
  have hf : ∀ x c, (x, c) ∈ (L.map Js).flatten → x ∈ CN C := fun x c hx => by
   rw [← nU hX h, ← oz hl]
   exact List.mem_map.2 ⟨_, hx, rfl⟩
  exact ⟨.inr rfl, lS ⟨by decide, by decide⟩ h1 (hf _ _ h2) (hf _ _ h3)⟩
 rw [Ur] at hb
 obtain ⟨w, hw, rfl⟩ := List.mem_map.1 hb
 obtain ⟨h1, h2, h3⟩ := Pf (s5 C) N5.nil hw
 have hf : ∀ x c, (x, c) ∈ Kz C → x ∈ CN C := fun x c hx => by
  rw [← zip_fst (A := CN C) (B := (CN C).map (HK C)) (List.length_map _).symm]
  exact List.mem_map.2 ⟨_, hx, rfl⟩
 refine ⟨.inl rfl, lS ⟨by decide, by decide⟩ h1 (hf w.1 true ?_) (hf w.2 true ?_)⟩
 ·rcases h2 with h2 | ⟨_, h2, _⟩
  ·exact h2
  cases h2
 rcases h3 with h2 | ⟨_, h2, _⟩
 ·exact h2
 cases h2
end
def DY (w : Nat → Bool) : List Sg → Nat → List Sg
 | [], _ => []
 | s :: r, i => (bif w i then [Dz] else []) ++ (s :: DY w r (i + 1))
def AG3 (w : Nat → Bool) : Nat → Nat
 | 0 => 0
 | i + 1 => AG3 w i + (bif w i then 1 else 0)
def C4 (w : Nat → Bool) (i : Nat) : Nat := i + AG3 w (i + 1)
def Fe (w : Nat → Bool) (e : Nt) : Nt := (C4 w e.1, e.2)
def Ck (w : Nat → Bool) (x : Int) : Int := (C4 w x.toNat : Int)
def KZ (w : Nat → Bool) (b : Bk) : Bk := ⟨b.k, Ck w b.f, Ck w b.t⟩
theorem fu (w : Nat → Bool) (i : Nat) : ∀ n, AG3 w i ≤ AG3 w (i + n)
 | 0 => Nat.le_refl _
 | n + 1 => Nat.le_trans (fu w i n) (Nat.le_add_right _ _)
theorem AA2 (w : Nat → Bool) {i j : Nat} : C4 w i < C4 w j ↔ i < j := by
 have key : ∀ i j, i < j → C4 w i < C4 w j := fun i j h => by
  have := fu w (i + 1) (j - i)
  rw [show i + 1 + (j - i) = j + 1 by omega] at this
  unfold C4
  omega
 refine ⟨fun h => ?_, key i j⟩
 rcases Nat.lt_trichotomy i j with h1 | rfl | h1
 ·exact h1
 ·omega
 have := key j i h1; omega
theorem aF (w : Nat → Bool) (i : Nat) : Ck w (i : Int) = (C4 w i : Int) := by unfold Ck; rw [show ((i : Int)).toNat = i by omega]
theorem Vu (w : Nat → Bool) {x y : Int} (hx : 0 ≤ x) (hy : 0 ≤ y) : Ck w x < Ck w y ↔ x < y := by
 have := AA2 w (i := x.toNat) (j := y.toNat)
 unfold Ck
 omega
theorem lO {α β : Type} (f : α → β) (l : List α) : (l.map f).isEmpty = l.isEmpty := by cases l <;> rfl
theorem WV (w : Nat → Bool) : ∀ (r : List Sg) (i : Nat) (cur : List Nt), Bw (DY w r i) (i + AG3 w i) (cur.map (Fe w)) = (Bw r i cur).map (List.map (Fe w))
 | [], i, cur => by
  show (bif (cur.map (Fe w)).isEmpty then [] else [cur.map (Fe w)]) = (bif cur.isEmpty then [] else [cur]).map (List.map (Fe w))
  rw [lO]
  cases cur.isEmpty <;> rfl
 | s :: r, i, cur => by
  have key : ∀ c : List Nt, Bw (s :: DY w r (i + 1)) (C4 w i) (c.map (Fe w)) = (Bw (s :: r) i c).map (List.map (Fe w)) := fun c => by
   have e1 : C4 w i + 1 = (i + 1) + AG3 w (i + 1) := by unfold C4; omega
   have h1 := WV w r (i + 1) (c ++ [(i, s)])
   have h2 := WV w r (i + 1) []
   have h3 := WV w r (i + 1) c
   rw [mAp] at h1
   unfold Bw
   rw [e1]
   cases nd s
   ·cases CV s.kind == 3
    ·exact h3
    show (bif (c.map (Fe w)).isEmpty then [] else [c.map (Fe w)]) ++ Bw (DY w r (i + 1)) ((i + 1) + AG3 w (i + 1)) [] = ((bif c.isEmpty then [] else [c]) ++ Bw r (i + 1) []).map (List.map (Fe w))
    rw [mAp, lO, ← h2]
    cases c.isEmpty <;> rfl
   exact h1
  show Bw ((bif w i then [Dz] else []) ++ (s :: DY w r (i + 1))) (i + AG3 w i) (cur.map (Fe w)) = _
  cases hw : w i with
  | false =>
   have e : i + AG3 w i = C4 w i := by unfold C4; rw [AG3, hw]; rfl
   rw [e]
   exact key cur
  | true =>
   have e : i + AG3 w i + 1 = C4 w i := by unfold C4; rw [AG3, hw]; show _ = i + (AG3 w i + 1); omega
   show Bw (Dz :: (s :: DY w r (i + 1))) (i + AG3 w i) (cur.map (Fe w)) = _
   rw [bm aP, e]
   exact key cur
theorem ACI (w : Nat → Bool) (C : List Sg) : A2 (DY w C 0) = (A2 C).map (List.map (Fe w)) := WV w C 0 []
theorem l7 (w : Nat → Bool) : ∀ (r : List Sg) (i : Nat), DW (DY w r i) (i + AG3 w i) = (DW r i).map (Fe w)
 | [], _ => rfl
 | s :: r, i => by
  have h1 := l7 w r (i + 1)
  have e1 : C4 w i + 1 = (i + 1) + AG3 w (i + 1) := by unfold C4; omega
  have key : DW (s :: DY w r (i + 1)) (C4 w i) = (DW (s :: r) i).map (Fe w) := by
   unfold DW
   rw [e1, h1, mAp]
   cases F4 s <;> rfl
  show DW ((bif w i then [Dz] else []) ++ (s :: DY w r (i + 1))) (i + AG3 w i) = _
  cases hw : w i with
  | false =>
   have e : i + AG3 w i = C4 w i := by unfold C4; rw [AG3, hw]; rfl
   rw [e]
   exact key
  | true =>
   have e : i + AG3 w i + 1 = C4 w i := by unfold C4; rw [AG3, hw]; show _ = i + (AG3 w i + 1); omega
   show [] ++ DW (s :: DY w r (i + 1)) (i + AG3 w i + 1) = _
   rw [e]
   exact key
theorem vv (w : Nat → Bool) (cur : List Nt) : FD (cur.map (Fe w)) = (FD cur).map (Ck w) := by
 unfold FD
 rw [List.filter_map, List.map_map, List.map_map]
 refine List.map_congr_left fun e _ => ?_
 show DV (Fe w e) = Ck w (DV e)
 unfold DV
 rw [aF]
 rfl
theorem nT (w : Nat → Bool) (M : List Int) (t : Int) : ∀ P : List (List Nt), Cu M t (P.map (List.map (Fe w))) = (Cu M t P).map (List.map fun e => (e.1, e.2.map (Ck w)))
 | [] => rfl
 | cur :: P => by
  have hc : ((cur.map (Fe w)).map Prod.snd) = cur.map Prod.snd := by rw [List.map_map]; rfl
  rw [List.map_cons]
  cases hD : FA M t (cur.map Prod.snd) with
  | none => rw [PF hD, PF (by rw [hc]; exact hD)]; rfl
  | some D =>
   rw [PG hD, PG (D := D) (by rw [hc]; exact hD), nT w M t P, vv]
   cases Cu M t P <;> rfl
theorem Ph (g : Int → Int) : ∀ (E : List PB) (o : Option (Int × Int)), EE (E.map fun e => (g e.1, e.2)) (o.map fun w => (g w.1, g w.2)) = (EE E o).map fun w => (g w.1, g w.2)
 | [], none => rfl
 | [], some _ => rfl
 | (x, true) :: r, none => Ph g r (some (x, x))
 | (x, true) :: r, some w => Ph g r (some (w.1, x))
 | (_, false) :: r, none => Ph g r none
 | (_, false) :: r, some w => congrArg ((g w.1, g w.2) :: ·) (Ph g r none)
theorem AE6 (w : Nat → Bool) (e : List Bool × List Int) : Js (e.1, e.2.map (Ck w)) = (Js e).map fun x => (Ck w x.1, x.2) := by
 unfold Js
 rw [List.zip_map_left]
 rfl
theorem fj (C : List Sg) : Kz C = (DW C 0).map fun e => (DV e, e.2.color) := by
 unfold Kz CN
 rw [List.map_map]
 have h : (DW C 0).map (HK C ∘ DV) = (DW C 0).map fun e => e.2.color := List.map_congr_left fun e he => by
  obtain ⟨_, h2, _⟩ := Qc he
  rw [Nat.sub_zero] at h2
  show HK C (DV e) = _
  unfold HK DV
  rw [show ((e.1 : Int)).toNat = e.1 by omega, h2]
 rw [h, List.zip_map']
theorem s6 (w : Nat → Bool) (C : List Sg) : Kz (DY w C 0) = (Kz C).map fun x => (Ck w x.1, x.2) := by
 rw [fj, fj]
 have h := l7 w C 0
 have e : 0 + AG3 w 0 = 0 := rfl
 rw [e] at h
 rw [h, List.map_map, List.map_map]
 refine List.map_congr_left fun e _ => ?_
 show (DV (Fe w e), e.2.color) = (Ck w (DV e), e.2.color)
 unfold DV
 rw [aF]
 rfl
theorem AAP (w : Nat → Bool) (k : Int) (v : Int × Int) : MN k (Ck w v.1, Ck w v.2) = KZ w (MN k v) := rfl
theorem AAD (w : Nat → Bool) {C : List Sg} {L : List (List Bool × List Int)} (h : ∀ e, e ∈ L → e.1.length = e.2.length) : BT (L.map fun e => (e.1, e.2.map (Ck w))) ++ Cp (DY w C 0) = (BT L ++ Cp C).map (KZ w) := by
 have h2 : ∀ e, e ∈ L.map (fun e => (e.1, e.2.map (Ck w))) → e.1.length = e.2.length := fun e he => by
  obtain ⟨x, hx, rfl⟩ := List.mem_map.1 he
  show x.1.length = (x.2.map _).length
  rw [cw]
  exact h x hx
 have VL : ∀ (k : Int) (l : List (Int × Int)), (l.map fun v => (Ck w v.1, Ck w v.2)).map (MN k) = (l.map (MN k)).map (KZ w) := fun k l => by
  rw [List.map_map, List.map_map]
  exact List.map_congr_left fun v _ => AAP w k v
 rw [Uq h2, Uq h, Ur, Ur, mAp, s6]
 congr 1
 ·rw [← VL, List.map_map, List.flatMap_map, List.flatMap_map, List.map_flatMap]
  congr 1
  induction L with
  | nil => rfl
  | cons e L ih =>
   have hb : EE (Js (e.1, e.2.map (Ck w))) none = (EE (Js e) none).map fun v => (Ck w v.1, Ck w v.2) := by
    rw [AE6]
    exact Ph (Ck w) (Js e) none
   have ih := ih (fun x hx => h x (cy hx)) (fun x hx => h2 x (cy hx))
   rw [List.flatMap_cons, List.flatMap_cons, mAp, mAp, ← ih]
   congr 1
   exact congrArg (List.map (MN 3)) hb
 rw [← VL]
 congr 1
 exact Ph (Ck w) (Kz C) none
theorem AEI (w : Nat → Bool) {l : List Bk} (h : ∀ b, b ∈ l → 0 ≤ b.f ∧ 0 ≤ b.t) : EO (l.map (KZ w)) = (EO l).map (KZ w) := by
 refine AEH fun x hx y hy => ?_
 obtain ⟨h1, h2⟩ := h x hx
 obtain ⟨h3, h4⟩ := h y hy
 have a1 := Vu w h1 h3
 have a2 := Vu w h3 h1
 have a3 := Vu w h2 h4
 have a4 := Vu w h4 h2
 rw [Bool.eq_iff_iff, fG, fG]
 show (Ck w x.f < Ck w y.f ∨ (Ck w x.f = Ck w y.f ∧ (Ck w y.t < Ck w x.t ∨ (Ck w x.t = Ck w y.t ∧ x.k < y.k)))) ↔ _
 omega
theorem fI (w : Nat → Bool) : ∀ (C : List Sg) (n : Nat) (s : Sg), DY w (C ++ [s]) n = (DY w C n ++ (bif w (n + C.length) then [Dz] else [])) ++ [s]
 | [], n, s => rfl
 | x :: r, n, s => by
  show _ ++ (x :: DY w (r ++ [s]) (n + 1)) = ((_ ++ (x :: DY w r (n + 1))) ++ _) ++ [s]
  rw [fI w r (n + 1) s, show n + 1 + r.length = n + (x :: r).length by show _ = n + (r.length + 1); omega]
  simp
theorem fJ (w : Nat → Bool) {C : List Sg} {i : Nat} {s : Sg} (h : nth C i = some s) : DY w (C.take (i + 1)) 0 = (DY w (C.take i) 0 ++ (bif w i then [Dz] else [])) ++ [s] := by
 have hi := CS h
 rw [CJ h, fI, List.length_take, Nat.min_eq_left Q1, Nat.zero_add]
theorem Xa (w : Nat → Bool) : ∀ (C : List Sg) (n : Nat), (DY w C n).length + AG3 w n = C.length + AG3 w (n + C.length)
 | [], n => rfl
 | s :: r, n => by
  have h := Xa w r (n + 1)
  unfold DY
  rw [ay, List.length_cons]
  rw [show n + (s :: r).length = n + 1 + r.length by show n + (r.length + 1) = _; omega, List.length_cons]
  have e : AG3 w (n + 1) = AG3 w n + (bif w n then 1 else 0) := rfl
  rw [e] at h
  cases hw : w n <;> rw [hw] at h <;> simp at h ⊢ <;> omega
theorem Xn (w : Nat → Bool) : ∀ n, AG3 w n ≤ n
 | 0 => Nat.le_refl 0
 | n + 1 => by
  have := Xn w n
  show AG3 w n + _ ≤ n + 1
  cases w n
  ·show AG3 w n + 0 ≤ _; omega
  show AG3 w n + 1 ≤ _; omega
theorem lC (w : Nat → Bool) {p q r t : Int} {C : List Sg} (h : CA p q r t C) : ∀ n, n ≤ C.length → CA p q r t (DY w (C.take n) 0) ∧ Df (DY w (C.take n) 0) = Df (C.take n) ∧ C7 (DY w (C.take n) 0) = C7 (C.take n)
 | 0, _ => ⟨CA.nil, rfl, rfl⟩
 | n + 1, hn => by
  obtain ⟨s, hs⟩ := Ac (show n < C.length by omega)
  obtain ⟨h1, h2, h3⟩ := lC w h n Q1
  have Ag := h n s hs
  have e1 : CA p q r t (DY w (C.take n) 0 ++ (bif w n then [Dz] else [])) ∧ Df (DY w (C.take n) 0 ++ (bif w n then [Dz] else [])) = Df (C.take n) ∧ C7 (DY w (C.take n) 0 ++ (bif w n then [Dz] else [])) = C7 (C.take n) := by
   cases w n with
   | false => rw [show (bif false then [Dz] else []) = ([] : List Sg) from rfl, List.append_nil]; exact ⟨h1, h2, h3⟩
   | true => exact ⟨h1.app (.inl (.inr (.inl rfl))), (JA _ _).trans ((cv (.inr (.inl rfl))).trans h2), (J8 _ _).trans h3⟩
  rw [fJ w hs, CJ hs, JA, JA, J8, J8, e1.2.1, e1.2.2]
  exact ⟨e1.1.app (by rw [e1.2.1]; exact Ag), rfl, rfl⟩
def gf (n : Nat) : Sg := if n = 75 then ER else A9 (if n = 66 then 3 else if n = 77 ∨ n = 109 then 5 else 4) 4 false
def Mz (n : Nat) : Sg := { gf n with color := decide ((n : Int) ≥ 97) }
def FC (s : ByteArray) : List Sg := Cs 2 2 3 2 false :: s.data.toList.map fun c => Mz c.toNat
theorem ADp : CC Tryz.prog KK 39 [] S (fun v S' => AG S S' ∧ v = mV [2, 2, 3, 2]) := by
 refine ce 2 Tryz.func39 fun hl => ?_; refine zg ?_; refine aL hl [.int .i64 0, .int .i64 0, .int .i64 0, .int .i64 0] fun B0 S1 hl => ?_; refine zg ?_; refine rr rfl (Ak rfl rfl (v := mV [2, 2, 3, 2]) (by rfl)) ?_; refine sL hl 0 (AP (mV [2, 2, 3, 2])) fun S2 hl => ?_; refine zg ?_
 exact CK (D9 rfl (lN (z := 4) (hl.get 0 rfl) rfl) rfl) ⟨hl.AA, rfl⟩
theorem cZ (s : ByteArray) (hs : s.data.toList.length ≤ 8) (hc : ∀ c, c ∈ s.data.toList → c = 75 ∨ c = 66 ∨ c = 83 ∨ c = 109 ∨ c = 115) : CC Tryz.prog KK 20 [.string s] S (fun v S' => AG S S' ∧ ∃ av, v = AM [.string Jl, .slice av (FC s).length (FC s).length] ∧ Bh S' (.slice av (FC s).length (FC s).length) (FC s)) := by
 have Ay : s.size = s.data.toList.length := by rw [Array.length_toList]; rfl
 refine ce 57 Tryz.func20 fun hl => ?_; refine zg ?_; refine aL hl ([.string ⟨#[]⟩, .slice none 0 0]) fun B2 S2 hl => ?_; refine zg ?_
 refine zc hl rfl (ADp) ?_; rintro v S3 Al rfl hl
 refine rr rfl (Ak rfl rfl (v := (Cs 2 2 3 2 false).v) (by rfl)) ?_; refine Qn hl 17 rfl rfl rfl rfl rfl Tryz.underlying23 rfl (c := (Cs 2 2 3 2 false).cells) aP rfl ?_; intro v8 S4 hl
 obtain ⟨a8, rfl⟩ : ∃ x, v8 = .slice x 1 1 := AU.is (hl.gr _ aQ)
 refine rr rfl (Ak rfl rfl (v := AM [.string Jl, .slice a8 1 1]) (by rfl)) ?_; refine aL hl ([.string ⟨#[]⟩, .slice none 0 0]) fun B3 S5 hl => ?_; refine sL hl 0 [.string Jl, .slice a8 1 1] fun S6 hl => ?_; refine zA ?_; refine AV rfl ?_; refine zS ?_; refine BF rfl ?_; refine AK (L' := [(4, .int .i64 ((0 : Nat) : Int)), (3, ptrTo B3 0), (2, ptrTo B2 0), (0, .string s)]) sE ?_
 refine Au rfl (fun m Le S' => ∃ (i : Nat) (av : Option Addr) (C : List Sg), i ≤ s.data.toList.length ∧ m = s.data.toList.length - i ∧ C = Cs 2 2 3 2 false :: (s.data.toList.take i).map (fun c => Mz c.toNat) ∧ Af [(4, .int .i64 (i : Int)), (3, ptrTo B3 0), (2, ptrTo B2 0), (0, .string s)] Le ∧ AB S [S] S' [(B3, .cells [.string Jl, .slice av C.length C.length] 25 false true []), (B2, .cells [.string ⟨#[]⟩, .slice none 0 0] 25 false true [])] [Eu 34 17 Sg.cells (.slice av C.length C.length) C]) ?_ (m := s.data.toList.length) ⟨0, a8, [Cs 2 2 3 2 false], Q1, Q1, rfl, sE, hl⟩
 clear hl; rintro m Le S' ⟨i, av, C, hi, rfl, hC, AL, hl⟩; refine AK AL ?_
 have YR : C.length ≤ 9 := by
  rw [hC, List.length_cons, cw, List.length_take]
  omega
 refine zg ?_; refine rr rfl (mr rfl rfl (v := .int .i64 (s.data.toList.length : Int)) (by unfold G'; rw [Tryz.underlying9])) ?_; refine zg ?_
 constructor <;> intro Ga
 ·
  have AJ : i < s.data.toList.length := dT Ga
  obtain ⟨c, VO⟩ := Ac AJ
  have K' := hc c (Am VO)
  refine zg ?_; refine rr rfl (Ak rfl rfl (v := (A9 0 4 false).v) (by rfl)) ?_; refine aL hl ((Sg.mk 0 0 0 0 false 0 false false 0 0 0 0 false 0 0 0 0).cells) fun B5 S7 hl => ?_; refine sL hl 0 ((A9 0 4 false).cells) fun S8 hl => ?_; refine zg ?_; refine rr rfl (Ql rfl rfl rfl (kX Tryz.underlying9 Q1 VO)) ?_; refine zA ?_
  refine (dY (fun S' => ∃ s0 : Sg, s0 = gf c.toNat ∧ AB S [S] S' [(B5, .cells s0.cells 34 false true []), (B3, .cells [.string Jl, .slice av C.length C.length] 25 false true []), (B2, .cells [.string ⟨#[]⟩, .slice none 0 0] 25 false true [])] [Eu 34 17 Sg.cells (.slice av C.length C.length) C]) ?_ ?_)
  ·refine BF rfl ?_
   rcases K' with rfl | K'
   ·
    refine zg ?_; refine rr rfl (Ak rfl rfl (v := AM [.int .i64 0, .int .i64 3]) (by rfl)) ?_; refine rr rfl (Ak rfl rfl (v := ER.v) (by rfl)) ?_; refine sL hl 0 ER.cells fun S9 hl => ?_; refine zg ?_
    exact ⟨rfl, sB, ER, rfl, hl⟩
   rcases K' with rfl | rfl | rfl | rfl
   all_goals
    refine zg ?_; refine Qo hl 0 rfl rfl rfl rfl rfl rfl rfl aP rfl ?_
    intro S9 hl
    refine zg ?_
    exact ⟨rfl, sB, _, rfl, hl⟩
  clear hl; rintro S9 ⟨s0, j7, hl⟩
  have e2 : C ++ [Mz c.toNat] = Cs 2 2 3 2 false :: (s.data.toList.take (i + 1)).map (fun c => Mz c.toNat) := by
   rw [hC, CJ VO, mAp]; rfl
  refine zg ?_; refine rr rfl (Ql rfl rfl rfl (kX Tryz.underlying9 Q1 VO)) ?_; refine zg ?_; refine sL hl 0 (({ s0 with color := decide ((c.toNat : Int) ≥ 97) } : Sg).cells) fun Co hl => ?_
  rw [j7] at hl
  refine zg ?_; refine dL hl ((Mz c.toNat).cells) Tryz.underlying23 fun pW D3 ZK hl => ?_; refine DX hl 0 rfl rfl (by simp) rfl rfl rfl rfl rfl rfl rfl Tryz.underlying23 Tryz.underlying23 rfl rfl aP (Bf (new := (Mz c.toNat).cells) ZK rfl) rfl rfl aP (by show C.length + 1 ≤ AQ; unfold AQ; omega) ?_; intro dU Ep hl
  obtain ⟨AT, rfl⟩ : ∃ AT, dU = .slice AT (C.length + 1) (C.length + 1) := AU.is (hl.gr _ aQ)
  refine zg ?_; refine sL hl 1 [.string Jl, .slice AT (C.length + 1) (C.length + 1)] fun EC hl => ?_; refine zg ?_
  have e1 : C.length + 1 = (C ++ [Mz c.toNat]).length := by rw [ay]; rfl
  refine ⟨s.data.toList.length - (i + 1), Q1, i + 1, AT, C ++ [Mz c.toNat], Q1, rfl, e2, sE, ?_⟩
  rw [EH, ← e1]
  exact hl.tail
 have C8 : i = s.data.toList.length := dF Ga
 rw [C8, List.take_length] at hC
 have hC : C = FC s := hC
 refine zg ?_; refine sL hl 1 [.string Jl, .slice av C.length C.length] fun S7 hl => ?_
 rw [hC] at hl
 refine zg ?_
 refine CK (D9 rfl (lN (z := 2) (hl.get 1 rfl) rfl) rfl) ⟨hl.AA, av, rfl, AU.ls (fun _ => rfl) (hl.gr _ aQ)⟩
theorem T5 (k f t : Int) : CC Tryz.prog KK 9 [.int .i64 k, .int .i64 f, .int .i64 t] S (fun v S' => AG S S' ∧ v = (Bk.mk k f t).v) := by
 refine ce 11 Tryz.func9 fun hl => ?_; refine zg ?_; refine aL hl [.int .i64 0, .int .i64 0, .int .i64 0] fun B6 S1 hl => ?_; refine zg ?_; refine rr rfl (Ak rfl rfl (v := (Bk.mk k f t).v) (by rfl)) ?_; refine sL hl 0 (Bk.cells ⟨k, f, t⟩) fun S2 hl => ?_; refine zg ?_
 exact CK (D9 rfl (lN (z := 3) (hl.get 0 rfl) rfl) rfl) ⟨hl.AA, rfl⟩
theorem tZ (s r : Bk) : Ci Tryz.prog EF 40 s.v r.v = some (decide (s.k = r.k ∧ s.f = r.f ∧ s.t = r.t)) := by
 have h : Ci Tryz.prog 40 40 (AM s.cells) (AM r.cells) = _ := gb Tryz.underlying40 aP (Rj aP (LS aP rfl) (LS aP rfl) (eq_int Tryz.underlying3) (Rj aP (LS aP rfl) (LS aP rfl) (eq_int Tryz.underlying3) (Rj aP (LS aP rfl) (LS aP rfl) (eq_int Tryz.underlying3) rfl)))
 refine h.trans (congrArg some ?_)
 cases s; cases r
 rw [Bool.eq_iff_iff]
 simp
theorem lj (xo yo : Operand) (s : Bk) : Fu Tryz.prog .neq 40 xo yo s.v s.v = some (.bool false) := (rq aP (tZ s s)).trans (by rw [decide_eq_true ⟨rfl, rfl, rfl⟩]; rfl)
theorem ADd (a b : Option Addr) (cap Lj : Nat) (X : List Bool) (hn : X.length ≤ 100) (hv : Kp S (.slice a X.length cap) X) (hw : Kp S (.slice b X.length Lj) X) : CC Tryz.prog KK 21 [.slice a X.length cap, .slice b X.length Lj] S (fun v S' => AG S S' ∧ v = .bool true) := by
 refine ce 26 Tryz.func21 fun hl => ?_; refine zg ?_
 constructor <;> intro GZ
 ·simp at GZ
 refine Fl rfl ?_; refine AV rfl ?_; refine zS ?_; refine BF rfl ?_; refine AK (L' := [(5, .int .i64 ((0 : Nat) : Int)), (0, .slice a X.length cap), (1, .slice b X.length Lj), (4, .bool false)]) sE ?_
 refine Au rfl (fun m Le S' => ∃ i : Nat, i ≤ X.length ∧ m = X.length - i ∧ Af [(5, .int .i64 (i : Int)), (0, .slice a X.length cap), (1, .slice b X.length Lj), (4, .bool false)] Le ∧ AB S [S] S' [] []) ?_ (m := X.length) ⟨0, Q1, Q1, sE, hl⟩
 clear hl; rintro m Le S' ⟨i, hi, rfl, AL, hl⟩; refine AK AL ?_
 refine zg ?_
 constructor <;> intro EI
 ·
  have AJ : i < X.length := dT EI
  obtain ⟨x, hx⟩ := Ac AJ
  obtain ⟨b1, o1, Ai, ha, _, AY, Ab⟩ := hv.elem hx
  obtain ⟨b2, o2, Hy, Eb, _, LH, LJ⟩ := hw.elem hx
  refine Fl rfl ?_; refine AV rfl ?_; refine BF rfl ?_; refine AV rfl (Bz hl 25 (.bool false) ?_ rfl ?_)
  ·
   refine A4 (idx := [0, 1, 2, 3, 4, 5, 6, 7, 8]) rfl aP aP ?_; refine zg ?_
   exact ⟨rfl, by cases x <;> rfl, sB, hl⟩
  intro S2 hl
  refine zg ?_
  exact ⟨X.length - (i + 1), Q1, i + 1, Q1, rfl, sE, hl⟩
 refine zg ?_
 exact y1 rfl ⟨hl.AA, rfl⟩
theorem oG (a b : Option Addr) (cap Lj : Nat) (X : List Bk) (hn : X.length ≤ 100) (hv : Ko S (.slice a X.length cap) X) (hw : Ko S (.slice b X.length Lj) X) : CC Tryz.prog KK 22 [.slice a X.length cap, .slice b X.length Lj] S (fun v S' => AG S S' ∧ v = .bool true) := by
 refine ce 26 Tryz.func22 fun hl => ?_; refine zg ?_
 constructor <;> intro GZ
 ·simp at GZ
 refine Fl rfl ?_; refine AV rfl ?_; refine zS ?_; refine BF rfl ?_; refine AK (L' := [(5, .int .i64 ((0 : Nat) : Int)), (0, .slice a X.length cap), (1, .slice b X.length Lj), (4, .bool false)]) sE ?_
 refine Au rfl (fun m Le S' => ∃ i : Nat, i ≤ X.length ∧ m = X.length - i ∧ Af [(5, .int .i64 (i : Int)), (0, .slice a X.length cap), (1, .slice b X.length Lj), (4, .bool false)] Le ∧ AB S [S] S' [] []) ?_ (m := X.length) ⟨0, Q1, Q1, sE, hl⟩
 clear hl; rintro m Le S' ⟨i, hi, rfl, AL, hl⟩; refine AK AL ?_
 refine zg ?_
 constructor <;> intro EI
 ·
  have AJ : i < X.length := dT EI
  obtain ⟨x, hx⟩ := Ac AJ
  obtain ⟨b1, o1, Ai, ha, _, AY, Ab⟩ := hv.elem hx
  obtain ⟨b2, o2, Hy, Eb, _, LH, LJ⟩ := hw.elem hx
  refine Fl rfl ?_; refine AV rfl ?_; refine BF rfl ?_; refine AV rfl (Bz hl 25 (.bool false) ?_ rfl ?_)
  ·
   refine A4 (idx := [0, 1, 2, 3, 4, 5, 6, 7, 8]) rfl aP aP ?_; refine zg ?_; refine pr rfl (Ff rfl rfl rfl (lj _ _ _)) ?_; refine zg ?_
   exact ⟨rfl, rfl, sB, hl⟩
  intro S2 hl
  refine zg ?_
  exact ⟨X.length - (i + 1), Q1, i + 1, Q1, rfl, sE, hl⟩
 refine zg ?_
 exact y1 rfl ⟨hl.AA, rfl⟩
theorem X2 {s : ByteArray} (hs : s.data.toList.length ≤ 8) : (FC s).length ≤ 60 := by
 unfold FC
 rw [List.length_cons, cw]
 omega
theorem ADe (s : ByteArray) (hs : s.data.toList.length ≤ 8) (hc : ∀ c, c ∈ s.data.toList → c = 75 ∨ c = 66 ∨ c = 83 ∨ c = 109 ∨ c = 115) (a : Option Addr) (cap : Nat) (X : List Bk) (hn : X.length ≤ 100) (hG : Gl S) (Cq : Gc S) (Dk : Gh S) (hF : Ad S) (hv : Ko S (.slice a X.length cap) X) (hX : CA 2 2 3 2 (FC s)) (CL : C7 (FC s) ≤ 12) {L : List (List Bool × List Int)} (hL : Cu [2, 2, 3, 2] 2 (A2 (FC s)) = some L) (hC : BT L = X) : CC Tryz.prog KK 23 [.string s, .slice a X.length cap] S (fun v S' => AG S S' ∧ v = .bool true) := by
 refine ce 20 Tryz.func23 fun hl => ?_; refine zg ?_
 refine zc hl rfl (cZ s hs hc) ?_; rintro v S1 Al ⟨a1, rfl, Iy⟩ hl
 have NJ := cP (S := S1) (nm := Jl) a1 (FC s).length (FC s) 2 2 3 2 (X2 hs) (by decide) hX (hG.AA hl.AA) (Cq.AA hl.AA) (Dk.AA hl.AA) (hl.AA.3 hF) Iy CL
 rw [hL] at NJ
 refine zc hl rfl NJ ?_; rintro v S2 Ar ⟨a2, rfl, BY⟩ hl
 rw [hC] at BY
 rw [hC]
 refine zA ?_; refine AK (L' := [(6, .int .i64 0), (5, .slice a2 X.length X.length), (1, .slice a X.length cap)]) sE ?_; refine AV rfl (Bz hl 4 (.bool true) ?_ rfl ?_)
 ·
  refine zg ?_
  refine zc hl rfl (oG a2 a X.length cap X hn BY (hv.move (hl.since 0 rfl))) ?_; rintro v S3 Bt rfl hl
  refine zg ?_
  exact ⟨rfl, rfl, sB, hl⟩
 intro S3 hl
 refine zg ?_
 exact y1 rfl ⟨hl.AA, rfl⟩
def nA : ByteArray := ⟨#[66, 83, 66]⟩
def nB : ByteArray := ⟨#[115, 75, 109, 83, 109]⟩
def nC : ByteArray := ⟨#[66, 83, 83, 66]⟩
theorem td : Cu [2, 2, 3, 2] 2 (A2 (FC nA)) = some [([false, true, false], [1, 2, 3])] := by kernel_rfl
theorem tc : Cp (FC nB) = [⟨2, 1, 3⟩, ⟨2, 5, 5⟩] := by kernel_rfl
theorem te : Cu [2, 2, 3, 2] 2 (A2 (FC nC)) = some [([false, true, false, false], [1, 2, 3, 4])] := by kernel_rfl
theorem Vv : nA.data.toList.length ≤ 8 ∧ ∀ c, c ∈ nA.data.toList → c = 75 ∨ c = 66 ∨ c = 83 ∨ c = 109 ∨ c = 115 := by decide
theorem Vw : nB.data.toList.length ≤ 8 ∧ ∀ c, c ∈ nB.data.toList → c = 75 ∨ c = 66 ∨ c = 83 ∨ c = 109 ∨ c = 115 := by decide
theorem aG : nC.data.toList.length ≤ 8 ∧ ∀ c, c ∈ nC.data.toList → c = 75 ∨ c = 66 ∨ c = 83 ∨ c = 109 ∨ c = 115 := by decide
theorem ke : Ap 2 2 3 2 = 0 := by decide
theorem gg : ∀ (C D : List Sg), CA 2 2 3 2 C → (∀ x, x ∈ D → NX x ∨ x = ER) → (Df C).2 = true → CA 2 2 3 2 (C ++ D)
 | C, [], h, _, _ => by rw [List.append_nil]; exact h
 | C, x :: D, h, hd, h2 => by
  have e : C ++ x :: D = (C ++ [x]) ++ D := by simp
  rw [e]
  have hx := hd x aQ
  refine gg (C ++ [x]) D (h.app ?_) (fun y hy => hd y (cy hy)) ?_
  ·rcases hx with hx | rfl
   ·exact .inr (.inl ⟨hx, h2⟩)
   exact .inl (.inl rfl)
  rw [JA]
  rcases hx with hx | rfl
  ·rw [Wo hx]; exact h2
  rw [cv (.inl rfl)]; exact h2
theorem X3 {s : ByteArray} (hc : ∀ c, c ∈ s.data.toList → c = 75 ∨ c = 66 ∨ c = 83 ∨ c = 109 ∨ c = 115) : CA 2 2 3 2 (FC s) := by
 refine gg [Cs 2 2 3 2 false] _ (CA.nil.app (.inr (.inr (.inl ⟨false, rfl⟩)))) (fun x hx => ?_) rfl
 obtain ⟨c, h, rfl⟩ := List.mem_map.1 hx
 rcases hc c h with rfl | rfl | rfl | rfl | rfl
 ·exact .inr rfl
 all_goals exact .inl (.inl ⟨_, 4, _, by decide, by decide, rfl⟩)
theorem y9 (hG : Gl S) (Cq : Gc S) (Dk : Gh S) (hF : Ad S) : CC Tryz.prog KK 10 [] S (fun v S' => AG S S' ∧ v = .bool true) := by
 refine ce 39 Tryz.func10 fun hl => ?_; refine zg ?_
 refine zc hl rfl (cZ nA Vv.1 Vv.2) ?_; rintro v S1 Al ⟨a1, rfl, Iy⟩ hl
 have JV := ACd (S := S1) (nm := Jl) a1 (FC nA).length (FC nA) 2 2 3 2 (X2 Vv.1) ke (X3 Vv.2) (hG.AA hl.AA) (Cq.AA hl.AA) (Dk.AA hl.AA) (hl.AA.3 hF) Iy (by decide)
 rw [td] at JV
 refine zc hl rfl JV ?_; rintro v S2 Ar ⟨a2, rfl, BY⟩ hl
 have hl := hl.mark
 refine zg ?_
 refine zc hl rfl (cZ nB Vw.1 Vw.2) ?_; rintro v S3 Bt ⟨a3, rfl, Na⟩ hl
 have jJ := oB (S := S3) (nm := Jl) a3 (FC nB).length (FC nB) 2 2 3 2 (X2 Vw.1) ke (X3 Vw.2) (hG.AA hl.AA) (Cq.AA hl.AA) (hl.AA.3 hF) Na
 rw [tc] at jJ
 refine zc hl rfl jJ ?_; rintro v S4 GD ⟨a4, rfl, kG⟩ hl
 rw [show ([⟨2, 1, 3⟩, ⟨2, 5, 5⟩] : List Bk).length = 2 from rfl] at kG ⊢
 have hl := hl.mark
 refine zA ?_; refine AK (L' := [(4, .int .i64 0), (3, .slice a4 2 2), (2, .int .i64 0), (1, .slice a2 3 3)]) sE ?_; refine AV rfl (Bz hl 0 (.bool true) ?_ rfl ?_)
 ·
  refine zg ?_; refine dL hl [.bool false, .bool true, .bool false] Tryz.underlying44 fun pQ S5 xZ hl => ?_
  refine zc hl rfl (ADd a2 (some ⟨pQ, 0, none⟩) 3 3 [false, true, false] (by decide) (BY.move (hl.since 1 rfl)) (AZ.row (fun _ => rfl) xZ rfl)) ?_; rintro v S6 G6 rfl hl
  refine zg ?_
  refine zc hl rfl (T5 _ _ _) ?_; rintro v S7 NQ rfl hl
  refine zc hl rfl (T5 _ _ _) ?_; rintro v S8 VX rfl hl
  refine dL hl (Bk.cells ⟨2, 1, 3⟩ ++ Bk.cells ⟨2, 5, 5⟩) Tryz.underlying35 fun D0 S9 Iv hl => ?_
  refine zc hl rfl (oG a4 (some ⟨D0, 0, none⟩) 2 2 [⟨2, 1, 3⟩, ⟨2, 5, 5⟩] (by decide) (kG.move (hl.since 0 rfl)) (AZ.row (fun _ => rfl) Iv rfl)) ?_; rintro v Co jb rfl hl
  refine zg ?_
  refine zc hl rfl (T5 _ _ _) ?_; rintro v D3 Y1 rfl hl
  refine zc hl rfl (T5 _ _ _) ?_; rintro v Ep NP rfl hl
  refine dL hl (Bk.cells ⟨3, 1, 1⟩ ++ Bk.cells ⟨3, 3, 4⟩) Tryz.underlying35 fun pT EC jz hl => ?_
  refine zc hl rfl (ADe nC aG.1 aG.2 (some ⟨pT, 0, none⟩) 2 [⟨3, 1, 1⟩, ⟨3, 3, 4⟩] (by decide) (hG.AA hl.AA) (Cq.AA hl.AA) (Dk.AA hl.AA) (hl.AA.3 hF) (AZ.row (fun _ => rfl) jz rfl) (X3 aG.2) (by decide) te rfl) ?_; rintro v E6 VW rfl hl
  refine zg ?_
  exact ⟨rfl, rfl, sB, hl⟩
 intro S9 hl
 refine zg ?_
 exact y1 rfl ⟨hl.AA, rfl⟩
def No (w : Nat → Bool) (n : Nat) : List Int := (List.range n).map fun j => (C4 w j : Int)
theorem AAy (w : Nat → Bool) (n : Nat) : No w (n + 1) = No w n ++ [(C4 w n : Int)] := by unfold No; rw [List.range_succ, mAp]; rfl
theorem mP (w : Nat → Bool) (n : Nat) : (No w n).length = n := by unfold No; rw [cw, List.length_range]
theorem mO (w : Nat → Bool) {n i : Nat} (h : i < n) : nth (No w n) i = some (C4 w i : Int) := by
 unfold No
 rw [CD, List.getElem?_map, List.getElem?_range h]
 rfl
set_option maxHeartbeats 1000000 in
theorem ADh (n : Int) (a : Option Addr) (cap : Nat) (X : List Int) (a2 : Option Addr) (Pk : Nat) (Y : List Int) (hF : Ad S) (hG : Gl S) (Cq : Gc S) (Dk : Gh S) (hv : A5 S (.slice a X.length cap) X) (BY : A5 S (.slice a2 Y.length Pk) Y) : CC Tryz.prog KK 3 [.int .i64 n, .slice a X.length cap, .slice a2 Y.length Pk] S (fun v S' => AG S S' ∧ v = .bool true) := by
 refine ce 147 Tryz.func3 fun hl => ?_; refine zg ?_
 refine zc hl rfl (ADy n) ?_; rintro v S1 Al ⟨p, q, r, t, hm, rfl⟩ hl
 refine zg ?_
 refine zc hl rfl (ADx a cap X p q r t hm (hl.AA.3 hF) (hv.move (hl.since 0 rfl))) ?_; rintro v S2 Ar ⟨aC, C, rfl, hX, AFo, CL, fr, hO, je⟩ hl
 have kH : Bh S2 (.slice aC C.length C.length) C := OW.at_ (f := Sg.cells) (fun _ => rfl) hO je (fun p hp => hp)
 have hl := hl.mark
 clear hO je
 refine aL hl ([.string ⟨#[]⟩, .slice none 0 0]) fun B7 S3 hl => ?_; refine zg ?_; refine sL hl 0 [.string C3, .slice aC C.length C.length] fun S4 hl => ?_; refine zg ?_; refine rr rfl (Ak rfl rfl (v := AM [.string C3, .slice none 0 0]) (by rfl)) ?_; refine aL hl ([.string ⟨#[]⟩, .slice none 0 0]) fun B8 S5 hl => ?_; refine sL hl 0 [.string C3, .slice none 0 0] fun S6 hl => ?_
 obtain ⟨w, hw⟩ : ∃ w : Nat → Bool, w = (fun j => (J3 Y j).tmod 3 == 0) := ⟨_, rfl⟩
 have hl : AB S [S2, S] S6 ([(B8, .cells [.string C3, .slice none ([] : List Sg).length ([] : List Sg).length] 25 false true []), (B7, .cells [.string C3, .slice aC C.length C.length] 25 false true [])] ++ ([] ++ ([] ++ []))) [] := hl
 refine zA ?_; refine zS ?_; refine AV rfl ?_; refine zS ?_; refine BF rfl ?_; refine AK (L' := [(10, .int .i64 ((0 : Nat) : Int)), (9, .slice none ([] : List Int).length ([] : List Int).length), (8, ptrTo B8 0), (7, ptrTo B7 0), (6, .bool false), (2, .slice a2 Y.length Pk)]) sE ?_
 refine Au rfl (fun m Le S' => ∃ (i : Nat) (AG1 : Option Addr) (Q : List Sg) (OP : List (Nat × AD)) (AG0 : Option Addr) (H : List Int) (M4 : List (Nat × AD)), i ≤ C.length ∧ m = C.length - i ∧ Q = DY w (C.take i) 0 ∧ H = No w i ∧ Lb AG1 Q OP ∧ Du AG0 H M4 ∧ Af [(10, .int .i64 (i : Int)), (9, .slice AG0 H.length H.length), (8, ptrTo B8 0), (7, ptrTo B7 0), (6, .bool false), (2, .slice a2 Y.length Pk)] Le ∧ AB S [S2, S] S' ([(B8, .cells [.string C3, .slice AG1 Q.length Q.length] 25 false true []), (B7, .cells [.string C3, .slice aC C.length C.length] 25 false true [])] ++ (OP ++ (M4 ++ []))) []) ?_ (m := C.length) ⟨0, none, [], [], none, [], [], Q1, Q1, rfl, rfl, .inl ⟨rfl, rfl, rfl, rfl⟩, .inl ⟨rfl, rfl, rfl, rfl⟩, sE, hl⟩
 clear hl; rintro m Le S' ⟨i, AG1, Q, OP, AG0, H, M4, hi, rfl, hQ, hH, VE, Yb, AL, hl⟩; refine AK AL ?_
 have NC : Q.length ≤ 54 := by
  have h1 := Xa w (C.take i) 0
  have h2 := Xn w (0 + (C.take i).length)
  rw [← hQ, List.length_take] at h1
  rw [List.length_take] at h2
  omega
 have YX : H.length = i := by rw [hH, mP]
 have ir : Q.length = i + AG3 w i := by
  have h1 := Xa w (C.take i) 0
  rw [← hQ, List.length_take, Nat.min_eq_left hi, Nat.zero_add] at h1
  exact h1
 refine zg ?_
 constructor <;> intro Gd
 ·
  have AJ : i < C.length := dT Gd
  obtain ⟨s, hs⟩ := Ac AJ
  have kO : w i = ((J3 Y i).tmod 3 == 0) := by rw [hw]
  have jH := fJ w hs
  rw [← hQ] at jH
  refine Fl rfl ?_; refine AV rfl ?_; refine BF rfl ?_; refine AV rfl (dY (fun S' => ∃ eS iE, Lb eS (Q ++ (bif w i then [Dz] else [])) iE ∧ AB S [S2, S] S' ([(B8, .cells [.string C3, .slice eS (Q ++ (bif w i then [Dz] else [])).length (Q ++ (bif w i then [Dz] else [])).length] 25 false true []), (B7, .cells [.string C3, .slice aC C.length C.length] 25 false true [])] ++ (iE ++ (M4 ++ []))) []) ?_ ?_)
  ·
   refine zg ?_
   refine zc hl rfl (oL a2 Pk Y i (BY.move (hl.since 1 rfl))) ?_; rintro v S7 NQ rfl hl
   refine zg ?_
   constructor <;> intro HT
   ·
    rw [kO, HT]
    refine zg ?_; refine rr rfl (Ak rfl rfl (v := Dz.v) (by rfl)) ?_; refine dL hl Dz.cells Tryz.underlying23 fun B38 S8 xV hl => ?_
    have hl : AB S [S2, S] S8 ([(B8, .cells [.string C3, .slice AG1 Q.length Q.length] 25 false true []), (B7, .cells [.string C3, .slice aC C.length C.length] 25 false true [])] ++ (OP ++ (M4 ++ []))) [] := hl
    refine HB hl VE rfl rfl rfl rfl rfl rfl rfl Tryz.underlying23 Tryz.underlying23 rfl rfl (by decide) aP (Bf (n := 1) (cap := 1) (new := Dz.cells) xV rfl) rfl rfl aP (by show Q.length + 1 ≤ AQ; unfold AQ; omega) ?_; intro v39 U4 S9 R8 hl
    obtain ⟨PZ, rfl⟩ := R8.is
    refine zg ?_; refine sL hl 0 [.string C3, .slice PZ (Q.length + 1) (Q.length + 1)] fun Co hl => ?_; refine zg ?_
    refine ⟨rfl, sB, PZ, U4, R8.push, ?_⟩
    show AB S [S2, S] Co ([(B8, .cells [.string C3, .slice PZ (Q ++ [Dz]).length (Q ++ [Dz]).length] 25 false true []), (B7, .cells [.string C3, .slice aC C.length C.length] 25 false true [])] ++ (U4 ++ (M4 ++ []))) []
    rw [show (Q ++ [Dz]).length = Q.length + 1 by rw [ay]; rfl]
    exact hl
   rw [kO, HT]
   refine zg ?_
   refine ⟨rfl, sB, AG1, OP, ?_, ?_⟩
   ·show Lb AG1 (Q ++ []) OP
    rw [List.append_nil]; exact VE
   show AB S [S2, S] _ ([(B8, .cells [.string C3, .slice AG1 (Q ++ []).length (Q ++ []).length] 25 false true []), (B7, .cells [.string C3, .slice aC C.length C.length] 25 false true [])] ++ (OP ++ (M4 ++ []))) []
   rw [List.append_nil]; exact hl
  rintro D3 ⟨XO, YD, uy, hl⟩
  have u0 : (Q ++ (bif w i then [Dz] else [])).length = C4 w i := by
   rw [ay, ir]
   unfold C4
   show _ = i + (AG3 w i + _)
   cases w i <;> simp <;> omega
  have jK := Xn w (i + 1)
  have Sl : C4 w i ≤ 55 := by unfold C4; omega
  generalize hQ1 : Q ++ (bif w i then [Dz] else []) = AGz at *
  refine zg ?_; refine dL hl (ic (AGz.length : Int)) Tryz.underlying22 fun B45 Ep xX hl => ?_
  have hl : AB S [S2, S] Ep (([(B8, .cells [.string C3, .slice XO AGz.length AGz.length] 25 false true []), (B7, .cells [.string C3, .slice aC C.length C.length] 25 false true [])] ++ YD) ++ (M4 ++ [])) [] := by rw [List.append_assoc]; exact hl
  refine HB hl Yb rfl rfl rfl rfl rfl rfl rfl Tryz.underlying22 Tryz.underlying22 rfl rfl (by decide) aP (Bf (new := ic (AGz.length : Int)) xX rfl) rfl rfl aP (by show H.length + 1 ≤ AQ; unfold AQ; omega) ?_; intro v46 YC EC ik hl
  obtain ⟨eR, rfl⟩ := ik.is
  have hl : AB S [S2, S] EC ([(B8, .cells [.string C3, .slice XO AGz.length AGz.length] 25 false true []), (B7, .cells [.string C3, .slice aC C.length C.length] 25 false true [])] ++ (YD ++ (YC ++ []))) [] := by rw [List.append_assoc] at hl; exact hl
  refine zg ?_
  obtain ⟨b1, o1, Ai, ha, _, AY, Ab⟩ := kH.elem hs
  refine A4 (idx := [0, 1, 2, 3, 4, 5, 6, 7, 8, 9, 10]) rfl aP aP ?_; refine zg ?_; refine PC hF hl rfl rfl rfl rfl rfl Tryz.underlying23 rfl (c := s.cells) aP ?_; intro B54 E6 AFy xc hl
  have hl : AB S [S2, S] E6 ([(B8, .cells [.string C3, .slice XO AGz.length AGz.length] 25 false true []), (B7, .cells [.string C3, .slice aC C.length C.length] 25 false true [])] ++ (YD ++ (YC ++ []))) [] := hl
  refine Md hl uy rfl rfl rfl rfl rfl rfl rfl Tryz.underlying23 Tryz.underlying23 rfl rfl (by decide) aP (Bf (n := 1) (cap := 1) (new := s.cells) xc rfl) rfl rfl aP (by show AGz.length + 1 ≤ AQ; unfold AQ; omega) ?_; intro v55 U4 IZ R8 hl; refine ⟨zt, ?_⟩
  obtain ⟨PZ, rfl⟩ := R8.is
  clear ha AY Ab
  refine zg ?_
  refine pL hl 0 [.string C3, .slice PZ (AGz.length + 1) (AGz.length + 1)] (h := fun OA hl => ⟨zt, ?_⟩)
  refine zg ?_
  refine ⟨C.length - (i + 1), Q1, i + 1, PZ, AGz ++ [s], U4, eR, H ++ [(AGz.length : Int)], YC, Q1, rfl, jH.symm, by rw [AAy, hH, u0], R8.push, ik.push, ⟨rfl, congrArg some (congrArg (fun n => Value.slice eR n n) (by rw [ay]; rfl)), rfl, rfl, rfl, rfl, trivial⟩, ?_⟩
  rw [show (AGz ++ [s]).length = AGz.length + 1 by rw [ay]; rfl]
  exact hl
 have C8 : i = C.length := dF Gd
 obtain ⟨Ye, _, Rx⟩ := lC w hX C.length (Nat.le_refl _)
 rw [C8] at hQ hH
 rw [← hQ, List.take_length] at Rx
 have Rx : C7 Q ≤ 12 := by rw [Rx]; exact CL
 rw [← hQ] at Ye
 rw [List.take_length] at hQ
 have Vg : Bh S' (.slice AG1 Q.length Q.length) Q := OW.at_ (f := Sg.cells) (fun _ => rfl) VE hl (Ef (q := [_, _]))
 have QP : A5 S' (.slice AG0 H.length H.length) H := OW.at_ (f := ic) (fun _ => rfl) Yb hl (fun p hp => List.mem_append.2 (.inr (List.mem_append.2 (.inr (List.mem_append.2 (.inl hp))))))
 obtain ⟨S7, iw⟩ : ∃ S7, S7 = S' := ⟨_, rfl⟩
 rw [← iw] at Vg QP hl ⊢
 clear iw
 have hl := hl.mark.sub (l' := [(B8, .cells [.string C3, .slice AG1 Q.length Q.length] 25 false true []), (B7, .cells [.string C3, .slice aC C.length C.length] 25 false true [])]) (List.sublist_append_left ..)
 clear VE Yb ir
 refine zg ?_
 refine zc hl rfl (oN aC C.length C p q r t Q1 hm hX (hG.AA hl.AA) (Cq.AA hl.AA) (Dk.AA hl.AA) (hl.AA.3 hF) (kH.move (hl.since 1 rfl)) CL (fun L hL => Z6 hm hX CL hL)) ?_; rintro v S8 VX Fc hl
 have hl := hl.mark
 have kB : Cu [p, q, r, t] t (A2 Q) = (Cu [p, q, r, t] t (A2 C)).map (List.map fun e => (e.1, e.2.map (Ck w))) := by rw [hQ, ACI, nT]
 have JV := fun (S : St) (g1 : Gl S) (g2 : Gc S) (g3 : Gh S) (g4 : Ad S) (g5 : Bh S (.slice AG1 Q.length Q.length) Q) => oN (nm := C3) AG1 Q.length Q p q r t Q1 hm Ye g1 g2 g3 g4 g5 Rx (fun L hL => Z6 hm Ye Rx hL)
 rw [kB] at JV
 obtain ⟨e, W, aW, rfl, iy, ZY, u7, hq⟩ : ∃ (e : Int) (W : List Bk) (aW : Option Addr), v = AN [.slice aW W.length W.length, .int .i64 e] ∧ W.length ≤ 12 ∧ Ko S8 (.slice aW W.length W.length) W ∧ (∀ b, b ∈ W → ∃ i j s x, W8 C b i j s x) ∧ ∀ S : St, Gl S → Gc S → Gh S → Ad S → Bh S (.slice AG1 Q.length Q.length) Q → CC Tryz.prog KK 8 [AM [.string C3, .slice AG1 Q.length Q.length]] S (fun v S' => AG S S' ∧ ∃ av, v = AN [.slice av W.length W.length, .int .i64 e] ∧ Ko S' (.slice av (W.map (KZ w)).length W.length) (W.map (KZ w))) := by
  cases hL : Cu [p, q, r, t] t (A2 C) with
  | none =>
   rw [hL] at Fc JV
   exact ⟨14, [], none, Fc, Nat.zero_le _, AZ.nil, fun b hb => (List.not_mem_nil hb).elim, fun S g1 g2 g3 g4 g5 => Bp (JV S g1 g2 g3 g4 g5) fun v S' h => ⟨h.1, none, h.2, AZ.nil⟩⟩
  | some L =>
   rw [hL] at Fc JV
   obtain ⟨aW, Fc, ZY⟩ := Fc
   have SZ := AAE hX hL
   have JZ := Z6 hm hX CL hL
   have So := (Wl (BT L ++ Cp C)).length_eq
   have jk : EO (BT (L.map fun e => (e.1, e.2.map (Ck w))) ++ Cp Q) = (EO (BT L ++ Cp C)).map (KZ w) := by
    rw [hQ, AAD w (Nx _ hL).2, AEI]
    intro b hb
    obtain ⟨i, j, s, x, CB⟩ := (SZ b ((Wl _).mem_iff.2 hb)).2
    rw [CB.f, CB.t]
    omega
   refine ⟨0, EO (BT L ++ Cp C), aW, Fc, Q1, ZY, fun b hb => (SZ b hb).2, fun S g1 g2 g3 g4 g5 => Bp (JV S g1 g2 g3 g4 g5) fun v S' ⟨h1, av, h2, h3⟩ => ⟨h1, av, ?_, ?_⟩⟩
   ·rw [jk, cw] at h2
    exact h2
   rw [jk, cw] at h3
   rw [cw]
   exact h3
 refine zg ?_
 refine zc hl rfl (hq _ (hG.AA hl.AA) (Cq.AA hl.AA) (Dk.AA hl.AA) (hl.AA.3 hF) (Vg.move (hl.since 1 rfl))) ?_; rintro v S9 hk9 ⟨aV, rfl, yD⟩ hl
 have hl := hl.mark
 have YX : H.length = C.length := by rw [hH, mP]
 clear hq JV kB Fc
 refine zA ?_; refine AV rfl ?_; refine AV rfl (Bz hl 76 (.bool false) ?_ rfl ?_)
 ·
  refine zg ?_; refine BH (d := 70) rfl (fun R0 => ?_) (fun R0 => ?_)
  ·exact absurd R0 (by simp)
  refine zg ?_
  exact ⟨rfl, bl (by simp), sB, hl⟩
 intro Co hl
 refine zg ?_; refine AK (L' := [(15, .int .i64 ((0 : Nat) : Int)), (13, .slice aV W.length W.length), (11, .slice aW W.length W.length), (9, .slice AG0 H.length H.length), (6, .bool false)]) sE ?_
 refine Au rfl (fun m Le S' => ∃ x : Nat, x ≤ W.length ∧ m = W.length - x ∧ Af [(15, .int .i64 (x : Int)), (13, .slice aV W.length W.length), (11, .slice aW W.length W.length), (9, .slice AG0 H.length H.length), (6, .bool false)] Le ∧ AB S [S9, S8, S7, S2, S] S' [] []) ?_ (m := W.length) ⟨0, Q1, Q1, sE, hl.sub (List.nil_sublist _)⟩
 clear hl; rintro m Le D3 ⟨x, hx, rfl, AL, hl⟩; refine AK AL ?_
 refine zg ?_
 constructor <;> intro R4
 ·
  have wj : x < W.length := dT R4
  obtain ⟨b, hb⟩ := Ac wj
  obtain ⟨i0, j0, s, u, SH⟩ := u7 b (Am hb)
  have KI := CS SH.hs
  have wK := CS SH.hx
  have CB := Dc (KZ w) hb
  have KN : nth H i0 = some (C4 w i0 : Int) := by rw [hH]; exact mO w KI
  have H7 : nth H j0 = some (C4 w j0 : Int) := by rw [hH]; exact mO w wK
  obtain ⟨bk, bf, bt⟩ := b
  obtain rfl : bf = (i0 : Int) := SH.f
  obtain rfl : bt = (j0 : Int) := SH.t
  have CB : nth (W.map (KZ w)) x = some ⟨bk, C4 w i0, C4 w j0⟩ := by rw [CB]; unfold KZ; simp only [aF]
  clear SH
  refine Fl rfl ?_; refine AV rfl ?_; refine BF rfl ?_; refine AV rfl (Bz hl 145 (.bool false) ?_ rfl ?_)
  ·
   obtain ⟨b1, o1, Ai, ha, _, AY, Ab⟩ := ZY.elem hb
   have Ab : takeN 3 (BW (o1 + x * 3) Ai) = some [.int .i64 bk, .int .i64 (i0 : Int), .int .i64 (j0 : Int)] := Ab
   refine A4 (idx := [0, 1, 2, 3, 4, 5, 6, 7, 8, 9, 10, 11, 12, 13, 14, 15, 16, 17, 18, 19, 20, 21, 22, 23, 24, 25, 26, 27, 28, 29, 30, 31, 32, 33, 34, 35, 36, 37, 38, 39, 40, 41, 42, 43, 44, 45, 46, 47, 48, 49, 50, 51, 52, 53, 54, 55, 56, 57, 58, 59, 60, 61, 62]) rfl aP aP ?_; refine zg ?_; refine Ej (d := 107) rfl (fun h => absurd (oTr h) Q1) (fun AFk => ?_); refine zg ?_; refine Ej (d := 117) rfl (fun h => absurd (oTr h) Q1) (fun AFm => ?_); refine zg ?_
   obtain ⟨b2, o2, Hy, vH, _, AF6, AGC⟩ := yD.elem CB
   refine pr rfl (Qm rfl rfl rfl (q6 rfl vH ⟨Q1, Q1⟩)) ?_; refine pk rfl (Ba rfl rfl qL) ?_; refine zg ?_
   obtain ⟨b3, o3, Po, vG, AF5, AGA, AGB⟩ := QP.Pq KN H7
   refine pr rfl (Qm rfl rfl rfl (q6 rfl vG ⟨Q1, Q1⟩)) ?_; refine pk rfl (Ba rfl rfl qL) ?_; refine zg ?_
   refine zp hl rfl (T5 _ _ _) ?_; rintro v EC jc rfl hl; refine ⟨zt, ?_⟩
   refine pr rfl (Ff rfl rfl rfl (lj _ _ _)) ?_; refine zg ?_
   exact ⟨rfl, rfl, sB, hl⟩
  intro Ep hl
  refine zg ?_
  exact ⟨W.length - (x + 1), Q1, x + 1, Q1, rfl, sE, hl⟩
 refine zg ?_
 refine zc hl rfl (y9 (hG.AA hl.AA) (Cq.AA hl.AA) (Dk.AA hl.AA) (hl.AA.3 hF)) ?_; rintro v Ep NP rfl hl
 refine zg ?_
 exact y1 rfl ⟨hl.AA, rfl⟩
theorem ABo {S : St} {P : Program} {n : Nat} {t : TypeId} {k : IntKind} {c : List Value} (h : Cn P (n + 1) t S c) (hu : P.underlying t = some (.int k)) : ∃ m, c = [.int k m] := by
 unfold Cn at h
 rw [hu] at h
 obtain ⟨m, h, _⟩ := h
 exact ⟨m, h⟩
theorem mD {α : Type} (f : Nat → α) : ∀ (n k i : Nat), i < n → nth ((List.range' k n).map f) i = some (f (k + i))
 | n + 1, k, 0, _ => rfl
 | n + 1, k, i + 1, h => by
  show nth ((List.range' (k + 1) n).map f) i = _
  rw [mD f n (k + 1) i Q1]
  congr 2; omega
theorem ABp {S : St} {P : Program} {n z : Nat} {t e : TypeId} {c : List Value} (h : Cn P (n + 1) t S c) (hu : P.underlying t = some (.slice e)) (hz : P.cellsOf e = z) : ∃ v C, c = [v] ∧ Er S e z v C ∧ ∀ x, x ∈ C → Cn P n e S x := by
 unfold Cn at h
 rw [hu] at h
 rcases h with h | ⟨b, o, k, h⟩ | ⟨b, len, cs, h1, h2, h3, h4, h5, h6⟩
 ·exact ⟨_, [], h, .inl ⟨rfl, .inl rfl⟩, fun x hx => (List.not_mem_nil hx).elim⟩
 ·exact ⟨_, [], h, .inl ⟨rfl, .inr ⟨b, o, k, rfl⟩⟩, fun x hx => (List.not_mem_nil hx).elim⟩
 refine ⟨_, (List.range' 0 len).map (fun i => (cs.drop (i * z)).take z), h1, .inr ⟨b, 0, len, cs, by simp, by simp, ⟨h2, _, _, h3⟩, fun k x hk => ?_⟩, fun x hx => ?_⟩
 ·have AJ : k < len := by have := CS hk; simpa using this
  rw [mD _ _ _ _ AJ] at hk
  cases hk
  rw [HM, Nat.zero_add, Nat.zero_add, PL]
  rw [List.length_drop, h4, hz]
  have : (k + 1) * z ≤ len * z := Nat.mul_le_mul_right z AJ
  rw [Nat.add_mul] at this
  omega
 obtain ⟨i, hi, rfl⟩ := List.mem_map.1 hx
 rw [List.mem_range'_1] at hi
 have := h6 i Q1
 rw [hz] at this
 exact this
theorem eW : ∀ {C : List (List Value)}, (∀ x, x ∈ C → ∃ m : Int, x = [.int .i64 m]) → ∃ L : List Int, C = L.map fun i => [Value.int .i64 i]
 | [], _ => ⟨[], rfl⟩
 | x :: C, h => by
  obtain ⟨s, e1⟩ := h x aQ
  obtain ⟨L, e2⟩ := eW (C := C) fun y hy => h y (cy hy)
  exact ⟨s :: L, by rw [e1, e2]; rfl⟩
theorem nD {c : List Value} {n : Nat} (h : Cn Tryz.prog (n + 2) 22 S c) : ∃ (a : Option Addr) (cap : Nat) (L : List Int), c = [.slice a L.length cap] ∧ A5 S (.slice a L.length cap) L := by
 obtain ⟨v, C, e1, h1, hC⟩ := ABp h Tryz.underlying22 (z := 1) aP
 obtain ⟨L, rfl⟩ := eW fun x hx => ABo (hC x hx) Tryz.underlying3
 have hs : A5 S v L := h1
 obtain ⟨a, cap, rfl⟩ := AZ.is hs
 exact ⟨a, cap, L, e1, hs⟩
theorem lB : ∀ {l : List (Nat × List Value × Value)} {f : Nat} {a : List Value} {v : Value}, O1 l f a = some v → (f, a, v) ∈ l
 | [], _, _, _, h => by cases h
 | (g, Mr, u) :: r, f, a, v, h => by
  rw [O1] at h
  cases hb : (Nat.beq g f && GN 1000 Mr a) with
  | true =>
   rw [hb] at h
   cases h
   rw [Bool.and_eq_true] at hb
   rw [BV hb.1, Qu _ _ _ hb.2]
   exact aQ
  | false =>
   rw [hb] at h
   exact cy (lB h)
theorem AEj : C5.all (fun e => Hg e.2.2 ((fns Tryz.prog (kk He) 100000).call (.fn (.func e.1) #[]) e.2.1 (EA listed Tryz.prog.globals.size))) = true := by
 show (C5.drop 0).all _ = true
 rw [← List.take_append_drop 47 (C5.drop 0), List.all_append, AEk, Bool.true_and, List.drop_drop]
 rw [← List.take_append_drop 47 (C5.drop 47), List.all_append, AEl, Bool.true_and, List.drop_drop]
 rw [← List.take_append_drop 47 (C5.drop 94), List.all_append, AEp, Bool.true_and, List.drop_drop]
 rw [← List.take_append_drop 47 (C5.drop 141), List.all_append, AEq, Bool.true_and, List.drop_drop]
 rw [← List.take_append_drop 47 (C5.drop 188), List.all_append, AEr, Bool.true_and, List.drop_drop]
 rw [← List.take_append_drop 47 (C5.drop 235), List.all_append, AEs, Bool.true_and, List.drop_drop]
 rw [← List.take_append_drop 47 (C5.drop 282), List.all_append, AEt, Bool.true_and, List.drop_drop]
 rw [← List.take_append_drop 47 (C5.drop 329), List.all_append, AEu, Bool.true_and, List.drop_drop]
 rw [← List.take_append_drop 47 (C5.drop 376), List.all_append, AEv, Bool.true_and, List.drop_drop]
 rw [← List.take_append_drop 47 (C5.drop 423), List.all_append, AEw, Bool.true_and, List.drop_drop]
 rw [← List.take_append_drop 47 (C5.drop 470), List.all_append, AEm, Bool.true_and, List.drop_drop]
 rw [← List.take_append_drop 47 (C5.drop 517), List.all_append, AEn, Bool.true_and, List.drop_drop]
 exact AEo
section
variable {P : Program} {K : A1}
theorem AGv {ρ : AF} : ∀ {l l' : List Value}, l.all (DM 40) = true → AI ρ l l' → l' = l
 | [], _, _, h => h.Hd
 | v :: l, l', hf, h => by
  rw [List.all_cons, Bool.and_eq_true] at hf
  obtain ⟨v', k, rfl, h1, h2⟩ := h.cons_inv
  rw [(Lv 40 v hf.1).eq h1, AGv hf.2 h2]
theorem AGw (ρ : AF) : ∀ {l : List Value}, l.all (DM 40) = true → AI ρ l l
 | [], _ => AI.nil
 | v :: l, hf => by
  rw [List.all_cons, Bool.and_eq_true] at hf
  exact AI.cons ((Lv 40 v hf.1).refl ρ) (AGw ρ hf.2)
theorem AGy (hm : P.follows .mixedOrders = true) {W : World} (hK : N6 P K W) {n : Nat} {f : FuncId} {fn : Func} {c : Code} (hf : P.funcs[f]? = some fn) (hb : fn.body = some c) (Ez : (fn.name == "runtime.NumGoroutine") = false)
  {G : List (Nat × List Value)} {args : List Value} {v : Value} (ha : args.all (DM 40) = true) (hv : DM 40 v = true) (h : Hg v ((fns P K n).call (.fn (.func f) #[]) args (EA G P.globals.size)) = true) (hn : P.globals.size ≤ W.heap.size)
  (hG : ∀ g l, (g, l) ∈ G → ∃ (arr : Array Value) (e : TypeId) (fz : Nat × Nat), W.heap[g]? = some (.cells arr e fz) ∧ arr.toList = l) (LC : ∀ g l, (g, l) ∈ G → ∀ v ∈ l, DM Lu v = true) :
  Calls P f ⟨args⟩ W fun e w => e = .returned v ∧ Kept W w := by
 cases hr : (fns P K n).call (.fn (.func f) #[]) args (EA G P.globals.size) with
 | none => rw [hr] at h; cases h
 | some x =>
  obtain ⟨e, S'⟩ := x
  rw [hr] at h
  have Sn := oU (P := P) hn hG LC
  have := (gz hm hK n n (Nat.le_refl _) (fun _ => false)).call _ _ _ _ _ hr _ W (.fn (.func f) #[]) ⟨args⟩ Sn ⟨.func f, .func f, #[], #[], rfl, rfl, .func f rfl MQ rfl MQ⟩ (AGw _ ha)
  have HX : (invoke (.fn (.func f) #[]) ⟨args⟩).run P W = .ok (.enter f ⟨args⟩) W := by
   have := Qt hf hb Ez ⟨args⟩ W
   simpa [invoke] using this
  rw [HX] at this
  refine (callsIn_wide.1 this).mono ?_
  rintro e' w ⟨ρ', _, h2, h3⟩
  have hk := h3.kept
  cases h2 with
  | ret hu =>
   have := PE _ _ _ h
   subst this
   exact ⟨by rw [(Lv 40 _ hv).eq hu], hk⟩
  | A6 hp => cases h
theorem AGx {W : World} {f : FuncId} {v : Value} {S : St} {args : List Value} (ha : args.all (DM 40) = true) (h : ∀ w, Kept W w → Calls P f ⟨args⟩ w fun e w' => e = .returned v ∧ Kept w w') :
  ∀ (w0 : Bn) (ρ : AF) (w : World) (args' : Array Value), w0.toWorld = W → AO P w0 ρ S w → AI ρ args args'.toList → Calls P f args' w fun e w' => e = .returned v ∧ Kept w w' := by
 intro w0 ρ w args' e hs hv
 subst e
 have : args' = ⟨args⟩ := by
  apply Array.ext'
  exact AGv ha hv
 subst this
 exact h w hs.kept
end
theorem AEi : C5.all (fun e => e.2.1.all (DM 40) && DM 40 e.2.2) = true := by kernel_rfl
noncomputable def Xb (f : Nat) : Bool := match Tryz.prog.funcs[f]? with
 | some fn => fn.body.isSome && !(fn.name == "runtime.NumGoroutine")
 | none => false
theorem AEh : C5.all (fun e => Xb e.1) = true := by kernel_rfl
theorem r9 {f : Nat} (h : Xb f = true) : ∃ fn c, Tryz.prog.funcs[f]? = some fn ∧ fn.body = some c ∧ (fn.name == "runtime.NumGoroutine") = false := by
 unfold Xb at h
 split at h
 ·rename_i fn hf
  rw [Bool.and_eq_true] at h
  obtain ⟨c, hc⟩ := Option.isSome_iff_exists.1 h.1
  exact ⟨fn, c, hf, hc, by simpa using h.2⟩
 cases h
theorem zH {W : World} (h : N7 W) : N6 Tryz.prog KK W := by
 refine ⟨gh _, fun f args S v hv => ?_⟩
 simp only [KK, kk, fU] at hv
 have hm := lB hv
 have h1 := List.all_eq_true.1 AEj _ hm
 have h2 := List.all_eq_true.1 AEi _ hm
 rw [Bool.and_eq_true] at h2
 obtain ⟨fn, c, hf, hb, Ez⟩ := r9 (List.all_eq_true.1 AEh _ hm)
 exact ⟨fun ρ => (Lv 40 _ h2.2).refl ρ, fn, c, hf, hb, Ez, AGx h2.1 fun w hk => AGy follows (zG (Z9 hk h)) hf hb Ez h2.1 h2.2 h1 (size_le (Z9 hk h)) (Z9 hk h) k9⟩
theorem uT : Tryz.prog.globals.size = 3 := by kernel_rfl
theorem AES : Gl (EA listed Tryz.prog.globals.size) :=
 ⟨Nat.le_of_ble_eq_true (show Nat.ble (0 + 1) Tryz.prog.globals.size = true by kernel_rfl), by kernel_rfl⟩
theorem AEQ : Gc (EA listed Tryz.prog.globals.size) :=
 ⟨Nat.le_of_ble_eq_true (show Nat.ble (1 + 1) Tryz.prog.globals.size = true by kernel_rfl), by kernel_rfl⟩
theorem AER : Gh (EA listed Tryz.prog.globals.size) :=
 ⟨Nat.le_of_ble_eq_true (show Nat.ble (2 + 1) Tryz.prog.globals.size = true by kernel_rfl), by kernel_rfl⟩
theorem AEP : Ad (EA listed Tryz.prog.globals.size) := by
 intro b hb
 cases h : (EA listed Tryz.prog.globals.size).get b with
 | none => rfl
 | some B =>
  obtain ⟨l, hl, _⟩ := Ws Tryz.prog.globals.size listed b B h
  have BS : 3 ≤ b := uT ▸ hb
  rcases k8 b l hl with ⟨rfl, _⟩ | ⟨rfl, _⟩ | ⟨rfl, _⟩ <;> omega
theorem yz {W : World} (hm : N7 W) {H : Type} {enc : TypeId × Value → H} {a1 a2 : Option Addr} {l1 k1 l2 k2 : Nat} {m : Int} {d1 d2 : DataW H} {p1 p2 : List MemPlace}
  (h1 : DataW.Trod enc Tryz.prog W 0 (fun _ => true) true 22 (.slice a1 l1 k1) d1 p1) (h2 : DataW.Trod enc Tryz.prog W 0 (fun _ => true) true 22 (.slice a2 l2 k2) d2 p2)
  {f : FuncId} {fn : Func} {c : Code} (hf : Tryz.prog.funcs[f]? = some fn) (hb : fn.body = some c) (Ez : (fn.name == "runtime.NumGoroutine") = false)
  (spec : ∀ (S : St) (ax AG2 : Option Addr) (cx AG4 : Nat) (X Y : List Int), Ad S → Gl S → Gc S → Gh S → A5 S (.slice ax X.length cx) X → A5 S (.slice AG2 Y.length AG4) Y →
   CC Tryz.prog KK f [.int .i64 m, .slice ax X.length cx, .slice AG2 Y.length AG4] S fun v _ => v = .bool true) :
  Calls Tryz.prog f #[.int .i64 m, .slice a1 l1 k1, .slice a2 l2 k2] W fun e w => e = .returned (.bool true) ∧ Kept W w := by
 obtain ⟨uM, h1⟩ := h1
 obtain ⟨uO, h2⟩ := h2
 have Sn := oU (P := Tryz.prog) (size_le hm) hm k9
 obtain ⟨ρ1, S1, c1, x1, s1, e1, r1, q1⟩ := lay (P := Tryz.prog) (w0 := ⟨W, fun _ => false⟩) 7 22 uM _ _ _ aP (fun _ => rfl) h1 _ _ Sn
 obtain ⟨ρ2, S2, c2, x2, s2, e2, r2, q2⟩ := lay (P := Tryz.prog) (w0 := ⟨W, fun _ => false⟩) 7 22 uO _ _ _ aP (fun _ => rfl) h2 _ _ s1
 obtain ⟨ax, cx, X, rfl, DO⟩ := nD (n := 5) (q1.AA e2)
 obtain ⟨AG2, AG4, Y, rfl, DI⟩ := nD (n := 5) q2
 have Vo := e1.trans e2
 refine (sW follows (zH hm) hf hb Ez s2 (args' := #[.int .i64 m, .slice a1 l1 k1, .slice a2 l2 k2]) (AI.cons (.int _ _) (AI.cons (AI.head (r1.mono x2)) (AI.cons (AI.head r2) AI.nil))) (spec S2 ax AG2 cx AG4 X Y (Vo.3 AEP) (AES.AA Vo) (AEQ.AA Vo) (AER.AA Vo) DO DI)).mono ?_
 rintro e w ⟨v, ρ', v', hv, hr, he, hk⟩
 subst hv
 cases hr
 exact ⟨he, hk⟩
end Go.Proofs.YtnhalpkekpehpaaGreatDoor
namespace Go.Proofs.YtnhalpkekpehpaaGreatDoor
open Go.Cm Go
set_option maxRecDepth 100000
variable {S : St}
open Go.ChangeShapes Go.WideShapes Go.ChangeAt Go.RowKit
theorem AAp : ownKnob Tryz.prog.godebug = none := by kernel_rfl
theorem _root_.Go.Cm.Kept.sK {W w : World} (h : Kept W w) (may : MemPlace → Prop) : W.keptBut w may := by
 refine ⟨h.os, h.out, fun i hi => ?_⟩
 rw [h.old i hi]
 cases W.heap[i]? with
 | none => rfl
 | some o => cases o <;> first | exact ⟨rfl, rfl, rfl, fun _ _ => rfl⟩ | exact .inr ⟨rfl, rfl⟩ | rfl
theorem AA3 {H : Type} {enc : TypeId × Value → H} {P : Program} {f : Func} {s : ChangeSpec} {apart fresh handsOn : Bool} {W W' : World} {args : Array Value} {ds gs : List (DataW H)} {before pa pv : List MemPlace} {t : TypeId}
  (hr : f.resultTypes = #[t]) (ht : P.underlying t = some .bool) (hs : (s.fn H (ds ++ gs)).results = [.lit (.bool true)])
  (hW : DataW.Whole enc P f.params.toList s.vars apart W args.toList ds gs before) (hk : Kept W W')
  (P' : DataW.TrodAll enc P W' 0 (fun b => decide (b < W.heap.size)) true f.params.toList args.toList (s.fn H (ds ++ gs)).args pa)
  (yE : DataW.TrodVars enc P W' (fun b => decide (b < W.heap.size)) s.vars (s.fn H (ds ++ gs)).vars pv) : s.post enc P f apart fresh handsOn false W args (.bool true) W' := by
 refine ⟨ds, gs, before, [], pa, pv, hW, ?_, P', yE, hk.sK _, fun h => by cases h⟩
 rw [hr, hs]
 exact trodAll_mk1 (shut_bool ht _)
def holds (l : List Value) : Obj → Obj
 | .cells _ t frozen => .cells l.toArray t frozen
 | o => o
noncomputable def zL (h : Array Obj) : Array Obj := (((h).modify 0 (holds aR)).modify 1 (holds aU)).modify 2 (holds Vz)
noncomputable def Zv (os : Os) : World :=
 { World.holding Tryz.prog os ⟨#[], #[], []⟩ with heap := zL (World.holding Tryz.prog os ⟨#[], #[], []⟩).heap }
def za : Array Value := #[.int .i64 0, .slice none 0 0, .slice none 0 0]
def zd {H : Type} : List (DataW H) := [.lit (.int .i64 0), .nil, .nil]
theorem zM (os : Os) : laidMet Tryz.prog Rows.bracketPassedRow.laid ((Zv os).forCall (fun _ _ => 0) ⟨#[], za, []⟩).memory :=
 laidMet_of_run' 8 aP aP
theorem reads (os : Os) {H : Type} (enc : TypeId × Value → H) : ∃ places, DataW.whole enc Tryz.prog ((Zv os).forCall (fun _ _ => 0) ⟨#[], za, []⟩).memory Tryz.f3.params.toList Rows.bracketPassedSpec.vars false za.toList 8 = some (zd, [], places) :=
 ⟨[], by kernel_rfl⟩
theorem zN : dx Rows.bracketPassedRow.laid := by
 refine ⟨?_, ?_, ?_⟩
 all_goals
  show _ ∈ [_, _, _]
  simp only [List.mem_cons, true_or, or_true]
theorem af : Tryz.f3.params = #[3, 22, 22] := by kernel_rfl
theorem tC (H : Type) (enc : TypeId × Value → H) (W : World) (base : Nat) (args : Array Value) (ds gs : List (DataW H)) (before : List MemPlace)
  (QQ : ∀ (j : Nat) t v, Tryz.f3.params[j]? = some t → args[j]? = some v → Value.okWide Tryz.prog W .any base t v)
  (hW : DataW.Whole enc Tryz.prog Tryz.f3.params.toList Rows.bracketPassedSpec.vars false W args.toList ds gs before) (hL : laidMetH Tryz.prog Rows.bracketPassedRow.laid W) :
  Calls Tryz.prog 3 args W fun e W' => ∃ v, e = .returned v ∧ Rows.bracketPassedSpec.post enc Tryz.prog Tryz.f3 false true false false W args v W' := by
 have u6 := hW
 obtain ⟨p, q, iS, hV, rfl, jQ, CW⟩ := hW
 have hA : DataW.TrodAll enc Tryz.prog W 0 (fun _ => true) true Tryz.f3.params.toList args.toList ds p := iS
 rw [af] at hA QQ
 obtain ⟨v1, v2, v3, d1, d2, d3, p1, p2, p3, rfl, rfl, rfl, h1, h2, h3⟩ := trodAll_three hA
 obtain ⟨rfl, rfl⟩ := trodVars_none hV
 obtain ⟨m, rfl⟩ := okWide_int Tryz.underlying3 (QQ 0 3 v1 rfl rfl)
 obtain ⟨x1, y1, z1, rfl⟩ := okWide_slice Tryz.underlying22 (QQ 1 22 v2 rfl rfl)
 obtain ⟨x2, y2, z2, rfl⟩ := okWide_slice Tryz.underlying22 (QQ 2 22 v3 rfl rfl)
 clear iS
 refine (yz (zZ zN hL) h2 h3 Tryz.func3 (c := (cb Tryz.f3)) aP aP (fun S ax AG2 cx AG4 X Y hF hG Cq Dk hx hy => Bp (ADh m ax cx X AG2 AG4 Y hF hG Cq Dk hx hy) fun v S' h => h.2)).mono fun e W' ⟨he, hk⟩ => ?_
 subst he
 refine ⟨_, rfl, AA3 (pa := p1 ++ p2 ++ p3) (pv := []) (t := 4) aP aP rfl u6 hk ?_ ?_⟩
 ·rw [af]
  exact nF hk 7 _ _ _ _ aP hA
 exact rfl
theorem lifted (os : Os) (started : os.Started) (H : Type) (enc : TypeId × Value → H) (F : Stop.Interp) :
  ReturnsInHanded {} Tryz.checked os 3 .any ((OpenSpec.ofChange Rows.bracketPassedSpec).preRow enc Tryz.prog Tryz.f3 Rows.bracketPassedRow.domain false Rows.bracketPassedRow.laid) (((OpenSpec.ofChange Rows.bracketPassedSpec).at F).post enc Tryz.prog Tryz.f3 false true false false) := by
 obtain ⟨places, hx⟩ := reads os enc
 refine returnsInHanded_of_row (C := Tryz.checked) (s := OpenSpec.ofChange Rows.bracketPassedSpec) AAp started aP Tryz.func3
  (witness_row_at (enc := enc) (C := Tryz.checked) false (Zv os) za rfl aP aP aP
   (OpenSpec.preRow_of_cond 8 hx aP (fun k hk => by cases hk) aP (zM os))) ?_
 intro W base args ds gs before QQ hW _ _ _ hL _ _
 exact tC H enc W base args ds gs before QQ hW hL
theorem said : Rows.BracketPassedSaid :=
 OpenClaim.holds_of_cond 3 Tryz.f3 rfl rfl rfl rfl rfl rfl rfl ⟨rfl, rfl, rfl, rfl, rfl⟩ rfl rfl rfl rfl rfl aP Tryz.func3 y6
  (oTr aP) (by unfold Func.isWrapper; first | (rw [if_pos (by decide +kernel)]; kernel_rfl) | (rw [if_neg (by decide +kernel)]; exact ⟨rfl, rfl⟩))
  (fun os started H enc _ F => by rw [OpenClaim.pre_eq_preRow]; exact lifted os started H enc F)
theorem plain (f : FuncId) (fn : Func) (hf : Tryz.pinned.checked.prog.funcNamed "tactus/tactuslaw34.BracketPassed" = some f) (SO : Tryz.pinned.checked.prog.funcs[f]? = some fn) :
  true = Tryz.pinned.checked.prog.looks [] ∧ ∀ (j : Nat) t, fn.params[j]? = some t → Tryz.pinned.checked.prog.wantsStandIn t = false := by
 obtain rfl : f = 3 := Option.some.inj ((show Tryz.prog.funcNamed "tactus/tactuslaw34.BracketPassed" = some 3 by kernel_rfl).symm.trans hf) |>.symm
 obtain rfl : fn = Tryz.f3 := (Option.some.inj (Tryz.func3.symm.trans SO)).symm
 refine ⟨by kernel_rfl, fun j t ht => ?_⟩
 rw [af] at ht
 have LD := Array.mem_of_getElem? ht
 obtain rfl | rfl : t = 3 ∨ t = 22 := by simpa using LD
 ·exact (show Tryz.prog.wantsStandIn 3 = false by kernel_rfl)
 exact (show Tryz.prog.wantsStandIn 22 = false by kernel_rfl)
theorem card : Rows.BracketPassedCardSaid :=
 Claim7.holds_tied_plain_at .later [] _ _ _ _ said (fun _ h => by cases h) aP (fun _ h => by cases h) bracketPassed_row_tie rfl ⟨rfl, rfl⟩ aP rfl plain aP
end Go.Proofs.YtnhalpkekpehpaaGreatDoor
