/-
  level: allowed.
-/
import Derived.Test.YtnhalpkekpehpaaGreatDoorSmB
namespace Go.Proofs.YtnhalpkekpehpaaGreatDoor
open Go.Cm Go
set_option maxRecDepth 100000
variable {S : St}
structure R3 where
 a : Bool
 b : Bool
 c : Bool
def R3.cells (x : R3) : List Value := [.bool x.a, .bool x.b, .bool x.c]
def R3.at_ (x : R3) (r : Int) : Bool := if r = 0 then x.a else if r = 1 then x.b else x.c
theorem R3.nth {x : R3} {r : Int} (h : 0 ≤ r ∧ r < 3) : nth x.cells (0 + r.toNat * 1) = some (.bool (x.at_ r)) := by
 obtain rfl | rfl | rfl : r = 0 ∨ r = 1 ∨ r = 2 := by omega
 all_goals rfl
def Ds (L : List It) (k : Int) (u : Nat) (M : List Int) (s : Se) : List R3 := [⟨true, s.free, s.free⟩, ⟨false, decide (s.cn.d = 1) && D8 L k u M s, false⟩, ⟨false, !s.free && C6 L k u s, false⟩, ⟨false, false, !s.free && (D8 L k u M s && C6 L k u s)⟩, ⟨false, false, !s.free && ED L k u s⟩]
def Mq (r : Int) (free : Bool) : Nat → List R3 → List Int
 | _, [] => []
 | i, x :: t => (bif x.at_ r || (decide ((i : Int) = 0) && free) then [(i : Int)] else []) ++ Mq r free (i + 1) t
def E8 (L : List It) (k : Int) (u : Nat) (M : List Int) (s : Se) : List Int := Mq (s.cn.n.tmod 3) s.free 0 (Ds L k u M s)
theorem Rn.AA {S T : St} {BR BM : Nat} {a : Option Addr} {cap : Nat} {L : List It} {k : Int} {u : Nat} {M : List Int} (h : Rn S BR BM a cap L k u M) (hk : AG S T) : Rn T BR BM a cap L k u M := ⟨⟨fun g => h.d.at_ (hk.trans g)⟩, ⟨fun g => h.m.at_ (hk.trans g)⟩, h.v.move hk.rk, h.n, h.u, h.ok, h.s⟩
theorem AC4 (BR BM : Nat) (a : Option Addr) (cap : Nat) (L : List It) (k : Int) (u : Nat) (M : List Int) (fr to : Nat) (lt rt : Int) (cn : Ti) (B3 : Nat) {S S2 : St} (EX : decide (cn.d = 1) = true) (hF : Ad S) (_ : 0 ≤ k ∧ k ≤ 10) (hs : JI L ⟨fr, to, lt, rt, true, cn⟩) (hR : Rn S BR BM a cap L k u M) (hl : AB S [S] S2 [(B3, .cells (Se.cells (⟨fr, to, lt, rt, true, cn⟩ : Se)) 248 false true [])] []) :
  XE Tryz.prog KK 86 none (pA (pB (pB (pB (cb Tryz.f159))))) [(6, .int .i64 (cn.n.tmod 3)), (5, .bool true), (4, .slice none 0 0), (3, ptrTo B3 0), (0, ptrTo BR 0)] S2 (fun e L' S' => e = .normal ∧ ∃ v, Go.Cm.look L' 7 = some v ∧ HH [(6, .int .i64 (cn.n.tmod 3)), (5, .bool true), (4, .slice none 0 0), (3, ptrTo B3 0), (0, ptrTo BR 0)] L' ∧ ∃ B7, v = ptrTo B7 0 ∧ AB S [S] S' [(B7, .cells (((Ds L k u M ⟨fr, to, lt, rt, true, cn⟩).map R3.cells).flatten) 265 false true []), (B3, .cells (Se.cells (⟨fr, to, lt, rt, true, cn⟩ : Se)) 248 false true [])] []) := by
  refine A4 (idx := [0, 1, 2, 3, 4, 5, 6, 7, 8, 12, 13, 14, 21, 22, 23, 35, 36, 37, 45, 9, 10, 11, 15, 16, 17, 18, 19, 20, 24, 25, 26, 27, 28, 29, 30, 31, 32, 33, 34, 38, 39, 40, 41, 42, 43, 44, 46]) rfl aP aP ?_; refine zg ?_; refine pr rfl (Ak rfl rfl (v := AM (R3.cells ⟨true, true, true⟩)) (by rfl)) ?_; iterate 2 refine zg ?_
  refine pr rfl (BC rfl rfl rfl) ?_; refine zg ?_; refine pr rfl (BC rfl rfl rfl) ?_; refine zg ?_; refine pr rfl (BC rfl rfl rfl) ?_; refine IM hF hl rfl rfl rfl rfl rfl (z := [.bool false, .bool false, .bool false, .bool false, .bool false, .bool false, .bool false, .bool false, .bool false, .bool false, .bool false, .bool false, .bool false, .bool false, .bool false]) aP ?_; intro B7 S7 hl
  refine zp hl rfl (Wh BR BM a cap L k u M ⟨fr, to, lt, rt, true, cn⟩ (hl.AA.3 hF) hs (hR.AA hl.AA)) ?_; rintro v Co jb rfl hl; refine ⟨zt, ?_⟩
  refine zg ?_; refine pr rfl (Ak rfl rfl (v := AM (R3.cells ⟨false, (D8 L k u M ⟨fr, to, lt, rt, true, cn⟩), false⟩)) (by rfl)) ?_; refine zg ?_; refine pr rfl (Ak rfl rfl (v := AM (R3.cells ⟨false, false, false⟩)) (by rfl)) ?_; refine zg ?_; refine pr rfl (Ak rfl rfl (v := AM (R3.cells ⟨false, false, false⟩)) (by rfl)) ?_; refine zg ?_; refine pr rfl (Ak rfl rfl (v := AM (R3.cells ⟨false, false, false⟩)) (by rfl)) ?_
  refine pr rfl (Ak rfl rfl (v := AM ((([⟨true, true, true⟩, ⟨false, (D8 L k u M ⟨fr, to, lt, rt, true, cn⟩), false⟩, ⟨false, false, false⟩, ⟨false, false, false⟩, ⟨false, false, false⟩] : List R3).map R3.cells).flatten)) (by rfl)) ?_
  refine pL hl 0 ((([⟨true, true, true⟩, ⟨false, (D8 L k u M ⟨fr, to, lt, rt, true, cn⟩), false⟩, ⟨false, false, false⟩, ⟨false, false, false⟩, ⟨false, false, false⟩] : List R3).map R3.cells).flatten) (h := fun IZ hl => ⟨zt, ?_⟩)
  refine zA ?_
  have e : Ds L k u M ⟨fr, to, lt, rt, true, cn⟩ = [⟨true, true, true⟩, ⟨false, (D8 L k u M ⟨fr, to, lt, rt, true, cn⟩), false⟩, ⟨false, false, false⟩, ⟨false, false, false⟩, ⟨false, false, false⟩] := by unfold Ds; simp only [EX, Bool.true_and, Bool.false_and, Bool.not_true]
  exact ⟨rfl, _, rfl, sB, B7, rfl, by rw [e]; exact hl⟩
theorem AC3 (BR BM : Nat) (a : Option Addr) (cap : Nat) (L : List It) (k : Int) (u : Nat) (M : List Int) (fr to : Nat) (lt rt : Int) (cn : Ti) (B3 : Nat) {S S2 : St} (EX : decide (cn.d = 1) = false) (hF : Ad S) (_ : 0 ≤ k ∧ k ≤ 10) (_ : JI L ⟨fr, to, lt, rt, true, cn⟩) (_ : Rn S BR BM a cap L k u M) (hl : AB S [S] S2 [(B3, .cells (Se.cells (⟨fr, to, lt, rt, true, cn⟩ : Se)) 248 false true [])] []) :
  XE Tryz.prog KK 86 none (pA (pB (pB (pB (cb Tryz.f159))))) [(6, .int .i64 (cn.n.tmod 3)), (5, .bool false), (4, .slice none 0 0), (3, ptrTo B3 0), (0, ptrTo BR 0)] S2 (fun e L' S' => e = .normal ∧ ∃ v, Go.Cm.look L' 7 = some v ∧ HH [(6, .int .i64 (cn.n.tmod 3)), (5, .bool false), (4, .slice none 0 0), (3, ptrTo B3 0), (0, ptrTo BR 0)] L' ∧ ∃ B7, v = ptrTo B7 0 ∧ AB S [S] S' [(B7, .cells (((Ds L k u M ⟨fr, to, lt, rt, true, cn⟩).map R3.cells).flatten) 265 false true []), (B3, .cells (Se.cells (⟨fr, to, lt, rt, true, cn⟩ : Se)) 248 false true [])] []) := by
  refine A4 (idx := [0, 1, 2, 3, 4, 5, 6, 7, 8, 12, 13, 14, 21, 22, 23, 35, 36, 37, 45, 9, 10, 11, 15, 16, 17, 18, 19, 20, 24, 25, 26, 27, 28, 29, 30, 31, 32, 33, 34, 38, 39, 40, 41, 42, 43, 44, 46]) rfl aP aP ?_; refine zg ?_; refine pr rfl (Ak rfl rfl (v := AM (R3.cells ⟨true, true, true⟩)) (by rfl)) ?_; iterate 2 refine zg ?_
  refine pr rfl (BC rfl rfl rfl) ?_; refine zg ?_; refine pr rfl (BC rfl rfl rfl) ?_; refine zg ?_; refine pr rfl (BC rfl rfl rfl) ?_; refine IM hF hl rfl rfl rfl rfl rfl (z := [.bool false, .bool false, .bool false, .bool false, .bool false, .bool false, .bool false, .bool false, .bool false, .bool false, .bool false, .bool false, .bool false, .bool false, .bool false]) aP ?_; intro B7 S7 hl; refine zg ?_; refine pr rfl (Ak rfl rfl (v := AM (R3.cells ⟨false, false, false⟩)) (by rfl)) ?_; refine zg ?_
  refine pr rfl (Ak rfl rfl (v := AM (R3.cells ⟨false, false, false⟩)) (by rfl)) ?_; refine zg ?_; refine pr rfl (Ak rfl rfl (v := AM (R3.cells ⟨false, false, false⟩)) (by rfl)) ?_; refine zg ?_; refine pr rfl (Ak rfl rfl (v := AM (R3.cells ⟨false, false, false⟩)) (by rfl)) ?_; refine pr rfl (Ak rfl rfl (v := AM ((([⟨true, true, true⟩, ⟨false, false, false⟩, ⟨false, false, false⟩, ⟨false, false, false⟩, ⟨false, false, false⟩] : List R3).map R3.cells).flatten)) (by rfl)) ?_
  refine pL hl 0 ((([⟨true, true, true⟩, ⟨false, false, false⟩, ⟨false, false, false⟩, ⟨false, false, false⟩, ⟨false, false, false⟩] : List R3).map R3.cells).flatten) (h := fun IZ hl => ⟨zt, ?_⟩)
  refine zA ?_
  have e : Ds L k u M ⟨fr, to, lt, rt, true, cn⟩ = [⟨true, true, true⟩, ⟨false, false, false⟩, ⟨false, false, false⟩, ⟨false, false, false⟩, ⟨false, false, false⟩] := by unfold Ds; simp only [EX, Bool.false_and, Bool.not_true]
  exact ⟨rfl, _, rfl, sB, B7, rfl, by rw [e]; exact hl⟩
theorem AC1 (BR BM : Nat) (a : Option Addr) (cap : Nat) (L : List It) (k : Int) (u : Nat) (M : List Int) (fr to : Nat) (lt rt : Int) (cn : Ti) (B3 : Nat) {S S2 : St} (EX : decide (cn.d = 1) = true) (hF : Ad S) (Bl : 0 ≤ k ∧ k ≤ 10) (hs : JI L ⟨fr, to, lt, rt, false, cn⟩) (hR : Rn S BR BM a cap L k u M) (hl : AB S [S] S2 [(B3, .cells (Se.cells (⟨fr, to, lt, rt, false, cn⟩ : Se)) 248 false true [])] []) :
  XE Tryz.prog KK 86 none (pA (pB (pB (pB (cb Tryz.f159))))) [(6, .int .i64 (cn.n.tmod 3)), (5, .bool true), (4, .slice none 0 0), (3, ptrTo B3 0), (0, ptrTo BR 0)] S2 (fun e L' S' => e = .normal ∧ ∃ v, Go.Cm.look L' 7 = some v ∧ HH [(6, .int .i64 (cn.n.tmod 3)), (5, .bool true), (4, .slice none 0 0), (3, ptrTo B3 0), (0, ptrTo BR 0)] L' ∧ ∃ B7, v = ptrTo B7 0 ∧ AB S [S] S' [(B7, .cells (((Ds L k u M ⟨fr, to, lt, rt, false, cn⟩).map R3.cells).flatten) 265 false true []), (B3, .cells (Se.cells (⟨fr, to, lt, rt, false, cn⟩ : Se)) 248 false true [])] []) := by
  refine A4 (idx := [0, 1, 2, 3, 4, 5, 6, 7, 8, 12, 13, 14, 21, 22, 23, 35, 36, 37, 45, 9, 10, 11, 15, 16, 17, 18, 19, 20, 24, 25, 26, 27, 28, 29, 30, 31, 32, 33, 34, 38, 39, 40, 41, 42, 43, 44, 46]) rfl aP aP ?_; refine zg ?_; refine pr rfl (Ak rfl rfl (v := AM (R3.cells ⟨true, false, false⟩)) (by rfl)) ?_; iterate 2 refine zg ?_
  refine pr rfl (BC rfl rfl rfl) ?_; refine zg ?_; refine pr rfl (BC rfl rfl rfl) ?_; refine zg ?_; refine pr rfl (BC rfl rfl rfl) ?_; refine IM hF hl rfl rfl rfl rfl rfl (z := [.bool false, .bool false, .bool false, .bool false, .bool false, .bool false, .bool false, .bool false, .bool false, .bool false, .bool false, .bool false, .bool false, .bool false, .bool false]) aP ?_; intro B7 S7 hl
  refine zp hl rfl (Wh BR BM a cap L k u M ⟨fr, to, lt, rt, false, cn⟩ (hl.AA.3 hF) hs (hR.AA hl.AA)) ?_; rintro v Co jb rfl hl; refine ⟨zt, ?_⟩
  refine zg ?_; refine pr rfl (Ak rfl rfl (v := AM (R3.cells ⟨false, (D8 L k u M ⟨fr, to, lt, rt, false, cn⟩), false⟩)) (by rfl)) ?_; refine zg ?_
  refine zp hl rfl (Wi BR BM a cap L k u M ⟨fr, to, lt, rt, false, cn⟩ (hl.AA.3 hF) hs (hR.AA hl.AA)) ?_; rintro v D3 Y1 rfl hl; refine ⟨zt, ?_⟩
  refine zg ?_; refine pr rfl (Ak rfl rfl (v := AM (R3.cells ⟨false, (C6 L k u ⟨fr, to, lt, rt, false, cn⟩), false⟩)) (by rfl)) ?_; refine zg ?_
  refine zp hl rfl (Wh BR BM a cap L k u M ⟨fr, to, lt, rt, false, cn⟩ (hl.AA.3 hF) hs (hR.AA hl.AA)) ?_; rintro v Ep NP rfl hl; refine ⟨zt, ?_⟩
  refine zg ?_; refine Ej (d := 48) rfl (fun G0 => ?_) (fun G0 => ?_)
  ·
   have G0 : D8 L k u M ⟨fr, to, lt, rt, false, cn⟩ = true := G0
   refine zg ?_
   refine zp hl rfl (Wi BR BM a cap L k u M ⟨fr, to, lt, rt, false, cn⟩ (hl.AA.3 hF) hs (hR.AA hl.AA)) ?_; rintro v EC jc rfl hl; refine ⟨zt, ?_⟩
   refine zg ?_; refine pr rfl (Ak rfl rfl (v := AM (R3.cells ⟨false, false, (C6 L k u ⟨fr, to, lt, rt, false, cn⟩)⟩)) (by rfl)) ?_; refine zg ?_
   refine zp hl rfl (Wj BR BM a cap L k u M ⟨fr, to, lt, rt, false, cn⟩ (hl.AA.3 hF) Bl hs (hR.AA hl.AA)) ?_; rintro v E6 VW rfl hl; refine ⟨zt, ?_⟩
   refine zg ?_; refine pr rfl (Ak rfl rfl (v := AM (R3.cells ⟨false, false, (ED L k u ⟨fr, to, lt, rt, false, cn⟩)⟩)) (by rfl)) ?_; refine pr rfl (Ak rfl rfl (v := AM ((([⟨true, false, false⟩, ⟨false, (D8 L k u M ⟨fr, to, lt, rt, false, cn⟩), false⟩, ⟨false, (C6 L k u ⟨fr, to, lt, rt, false, cn⟩), false⟩, ⟨false, false, (C6 L k u ⟨fr, to, lt, rt, false, cn⟩)⟩, ⟨false, false, (ED L k u ⟨fr, to, lt, rt, false, cn⟩)⟩] : List R3).map R3.cells).flatten)) (by rfl)) ?_
   refine pL hl 0 ((([⟨true, false, false⟩, ⟨false, (D8 L k u M ⟨fr, to, lt, rt, false, cn⟩), false⟩, ⟨false, (C6 L k u ⟨fr, to, lt, rt, false, cn⟩), false⟩, ⟨false, false, (C6 L k u ⟨fr, to, lt, rt, false, cn⟩)⟩, ⟨false, false, (ED L k u ⟨fr, to, lt, rt, false, cn⟩)⟩] : List R3).map R3.cells).flatten) (h := fun IZ hl => ⟨zt, ?_⟩)
   refine zA ?_
   have e : Ds L k u M ⟨fr, to, lt, rt, false, cn⟩ = [⟨true, false, false⟩, ⟨false, (D8 L k u M ⟨fr, to, lt, rt, false, cn⟩), false⟩, ⟨false, (C6 L k u ⟨fr, to, lt, rt, false, cn⟩), false⟩, ⟨false, false, (C6 L k u ⟨fr, to, lt, rt, false, cn⟩)⟩, ⟨false, false, (ED L k u ⟨fr, to, lt, rt, false, cn⟩)⟩] := by unfold Ds; simp only [EX, G0, Bool.true_and, Bool.not_false]
   exact ⟨rfl, _, rfl, sB, B7, rfl, by rw [e]; exact hl⟩
  have G0 : D8 L k u M ⟨fr, to, lt, rt, false, cn⟩ = false := G0
  refine zg ?_; refine pr rfl (Ak rfl rfl (v := AM (R3.cells ⟨false, false, false⟩)) (by rfl)) ?_; refine zg ?_
  refine zp hl rfl (Wj BR BM a cap L k u M ⟨fr, to, lt, rt, false, cn⟩ (hl.AA.3 hF) Bl hs (hR.AA hl.AA)) ?_; rintro v E6 VW rfl hl; refine ⟨zt, ?_⟩
  refine zg ?_; refine pr rfl (Ak rfl rfl (v := AM (R3.cells ⟨false, false, (ED L k u ⟨fr, to, lt, rt, false, cn⟩)⟩)) (by rfl)) ?_; refine pr rfl (Ak rfl rfl (v := AM ((([⟨true, false, false⟩, ⟨false, (D8 L k u M ⟨fr, to, lt, rt, false, cn⟩), false⟩, ⟨false, (C6 L k u ⟨fr, to, lt, rt, false, cn⟩), false⟩, ⟨false, false, false⟩, ⟨false, false, (ED L k u ⟨fr, to, lt, rt, false, cn⟩)⟩] : List R3).map R3.cells).flatten)) (by rfl)) ?_
  refine pL hl 0 ((([⟨true, false, false⟩, ⟨false, (D8 L k u M ⟨fr, to, lt, rt, false, cn⟩), false⟩, ⟨false, (C6 L k u ⟨fr, to, lt, rt, false, cn⟩), false⟩, ⟨false, false, false⟩, ⟨false, false, (ED L k u ⟨fr, to, lt, rt, false, cn⟩)⟩] : List R3).map R3.cells).flatten) (h := fun IZ hl => ⟨zt, ?_⟩)
  refine zA ?_
  have e : Ds L k u M ⟨fr, to, lt, rt, false, cn⟩ = [⟨true, false, false⟩, ⟨false, (D8 L k u M ⟨fr, to, lt, rt, false, cn⟩), false⟩, ⟨false, (C6 L k u ⟨fr, to, lt, rt, false, cn⟩), false⟩, ⟨false, false, false⟩, ⟨false, false, (ED L k u ⟨fr, to, lt, rt, false, cn⟩)⟩] := by unfold Ds; simp only [EX, G0, Bool.true_and, Bool.false_and, Bool.not_false]
  exact ⟨rfl, _, rfl, sB, B7, rfl, by rw [e]; exact hl⟩
theorem AC0 (BR BM : Nat) (a : Option Addr) (cap : Nat) (L : List It) (k : Int) (u : Nat) (M : List Int) (fr to : Nat) (lt rt : Int) (cn : Ti) (B3 : Nat) {S S2 : St} (EX : decide (cn.d = 1) = false) (hF : Ad S) (Bl : 0 ≤ k ∧ k ≤ 10) (hs : JI L ⟨fr, to, lt, rt, false, cn⟩) (hR : Rn S BR BM a cap L k u M) (hl : AB S [S] S2 [(B3, .cells (Se.cells (⟨fr, to, lt, rt, false, cn⟩ : Se)) 248 false true [])] []) :
  XE Tryz.prog KK 86 none (pA (pB (pB (pB (cb Tryz.f159))))) [(6, .int .i64 (cn.n.tmod 3)), (5, .bool false), (4, .slice none 0 0), (3, ptrTo B3 0), (0, ptrTo BR 0)] S2 (fun e L' S' => e = .normal ∧ ∃ v, Go.Cm.look L' 7 = some v ∧ HH [(6, .int .i64 (cn.n.tmod 3)), (5, .bool false), (4, .slice none 0 0), (3, ptrTo B3 0), (0, ptrTo BR 0)] L' ∧ ∃ B7, v = ptrTo B7 0 ∧ AB S [S] S' [(B7, .cells (((Ds L k u M ⟨fr, to, lt, rt, false, cn⟩).map R3.cells).flatten) 265 false true []), (B3, .cells (Se.cells (⟨fr, to, lt, rt, false, cn⟩ : Se)) 248 false true [])] []) := by
  refine A4 (idx := [0, 1, 2, 3, 4, 5, 6, 7, 8, 12, 13, 14, 21, 22, 23, 35, 36, 37, 45, 9, 10, 11, 15, 16, 17, 18, 19, 20, 24, 25, 26, 27, 28, 29, 30, 31, 32, 33, 34, 38, 39, 40, 41, 42, 43, 44, 46]) rfl aP aP ?_; refine zg ?_; refine pr rfl (Ak rfl rfl (v := AM (R3.cells ⟨true, false, false⟩)) (by rfl)) ?_; iterate 2 refine zg ?_
  refine pr rfl (BC rfl rfl rfl) ?_; refine zg ?_; refine pr rfl (BC rfl rfl rfl) ?_; refine zg ?_; refine pr rfl (BC rfl rfl rfl) ?_; refine IM hF hl rfl rfl rfl rfl rfl (z := [.bool false, .bool false, .bool false, .bool false, .bool false, .bool false, .bool false, .bool false, .bool false, .bool false, .bool false, .bool false, .bool false, .bool false, .bool false]) aP ?_; intro B7 S7 hl; refine zg ?_; refine pr rfl (Ak rfl rfl (v := AM (R3.cells ⟨false, false, false⟩)) (by rfl)) ?_; refine zg ?_
  refine zp hl rfl (Wi BR BM a cap L k u M ⟨fr, to, lt, rt, false, cn⟩ (hl.AA.3 hF) hs (hR.AA hl.AA)) ?_; rintro v D3 Y1 rfl hl; refine ⟨zt, ?_⟩
  refine zg ?_; refine pr rfl (Ak rfl rfl (v := AM (R3.cells ⟨false, (C6 L k u ⟨fr, to, lt, rt, false, cn⟩), false⟩)) (by rfl)) ?_; refine zg ?_
  refine zp hl rfl (Wh BR BM a cap L k u M ⟨fr, to, lt, rt, false, cn⟩ (hl.AA.3 hF) hs (hR.AA hl.AA)) ?_; rintro v Ep NP rfl hl; refine ⟨zt, ?_⟩
  refine zg ?_; refine Ej (d := 48) rfl (fun G0 => ?_) (fun G0 => ?_)
  ·
   have G0 : D8 L k u M ⟨fr, to, lt, rt, false, cn⟩ = true := G0
   refine zg ?_
   refine zp hl rfl (Wi BR BM a cap L k u M ⟨fr, to, lt, rt, false, cn⟩ (hl.AA.3 hF) hs (hR.AA hl.AA)) ?_; rintro v EC jc rfl hl; refine ⟨zt, ?_⟩
   refine zg ?_; refine pr rfl (Ak rfl rfl (v := AM (R3.cells ⟨false, false, (C6 L k u ⟨fr, to, lt, rt, false, cn⟩)⟩)) (by rfl)) ?_; refine zg ?_
   refine zp hl rfl (Wj BR BM a cap L k u M ⟨fr, to, lt, rt, false, cn⟩ (hl.AA.3 hF) Bl hs (hR.AA hl.AA)) ?_; rintro v E6 VW rfl hl; refine ⟨zt, ?_⟩
   refine zg ?_; refine pr rfl (Ak rfl rfl (v := AM (R3.cells ⟨false, false, (ED L k u ⟨fr, to, lt, rt, false, cn⟩)⟩)) (by rfl)) ?_; refine pr rfl (Ak rfl rfl (v := AM ((([⟨true, false, false⟩, ⟨false, false, false⟩, ⟨false, (C6 L k u ⟨fr, to, lt, rt, false, cn⟩), false⟩, ⟨false, false, (C6 L k u ⟨fr, to, lt, rt, false, cn⟩)⟩, ⟨false, false, (ED L k u ⟨fr, to, lt, rt, false, cn⟩)⟩] : List R3).map R3.cells).flatten)) (by rfl)) ?_
   refine pL hl 0 ((([⟨true, false, false⟩, ⟨false, false, false⟩, ⟨false, (C6 L k u ⟨fr, to, lt, rt, false, cn⟩), false⟩, ⟨false, false, (C6 L k u ⟨fr, to, lt, rt, false, cn⟩)⟩, ⟨false, false, (ED L k u ⟨fr, to, lt, rt, false, cn⟩)⟩] : List R3).map R3.cells).flatten) (h := fun IZ hl => ⟨zt, ?_⟩)
   refine zA ?_
   have e : Ds L k u M ⟨fr, to, lt, rt, false, cn⟩ = [⟨true, false, false⟩, ⟨false, false, false⟩, ⟨false, (C6 L k u ⟨fr, to, lt, rt, false, cn⟩), false⟩, ⟨false, false, (C6 L k u ⟨fr, to, lt, rt, false, cn⟩)⟩, ⟨false, false, (ED L k u ⟨fr, to, lt, rt, false, cn⟩)⟩] := by unfold Ds; simp only [EX, G0, Bool.true_and, Bool.false_and, Bool.not_false]
   exact ⟨rfl, _, rfl, sB, B7, rfl, by rw [e]; exact hl⟩
  have G0 : D8 L k u M ⟨fr, to, lt, rt, false, cn⟩ = false := G0
  refine zg ?_; refine pr rfl (Ak rfl rfl (v := AM (R3.cells ⟨false, false, false⟩)) (by rfl)) ?_; refine zg ?_
  refine zp hl rfl (Wj BR BM a cap L k u M ⟨fr, to, lt, rt, false, cn⟩ (hl.AA.3 hF) Bl hs (hR.AA hl.AA)) ?_; rintro v E6 VW rfl hl; refine ⟨zt, ?_⟩
  refine zg ?_; refine pr rfl (Ak rfl rfl (v := AM (R3.cells ⟨false, false, (ED L k u ⟨fr, to, lt, rt, false, cn⟩)⟩)) (by rfl)) ?_; refine pr rfl (Ak rfl rfl (v := AM ((([⟨true, false, false⟩, ⟨false, false, false⟩, ⟨false, (C6 L k u ⟨fr, to, lt, rt, false, cn⟩), false⟩, ⟨false, false, false⟩, ⟨false, false, (ED L k u ⟨fr, to, lt, rt, false, cn⟩)⟩] : List R3).map R3.cells).flatten)) (by rfl)) ?_
  refine pL hl 0 ((([⟨true, false, false⟩, ⟨false, false, false⟩, ⟨false, (C6 L k u ⟨fr, to, lt, rt, false, cn⟩), false⟩, ⟨false, false, false⟩, ⟨false, false, (ED L k u ⟨fr, to, lt, rt, false, cn⟩)⟩] : List R3).map R3.cells).flatten) (h := fun IZ hl => ⟨zt, ?_⟩)
  refine zA ?_
  have e : Ds L k u M ⟨fr, to, lt, rt, false, cn⟩ = [⟨true, false, false⟩, ⟨false, false, false⟩, ⟨false, (C6 L k u ⟨fr, to, lt, rt, false, cn⟩), false⟩, ⟨false, false, false⟩, ⟨false, false, (ED L k u ⟨fr, to, lt, rt, false, cn⟩)⟩] := by unfold Ds; simp only [EX, G0, Bool.true_and, Bool.false_and, Bool.not_false]
  exact ⟨rfl, _, rfl, sB, B7, rfl, by rw [e]; exact hl⟩
theorem AC2 (B3 B7 : Nat) (L : List It) (k : Int) (u : Nat) (M : List Int) (s : Se) {S S4 : St} (ZG : 0 ≤ s.cn.n.tmod 3 ∧ s.cn.n.tmod 3 < 3) (hl : AB S [S] S4 [(B7, .cells (((Ds L k u M s).map R3.cells).flatten) 265 false true []), (B3, .cells (Se.cells s) 248 false true [])] []) :
  XE Tryz.prog KK 86 none (pB (pB (pB (pB (cb Tryz.f159))))) [(7, ptrTo B7 0), (6, .int .i64 (s.cn.n.tmod 3)), (4, .slice none 0 0), (3, ptrTo B3 0)] S4 (Fm Tryz.prog Tryz.f159.results.toList (fun v S' => AG S S' ∧ ∃ av, v = .slice av (E8 L k u M s).length (E8 L k u M s).length ∧ AU S S' (gN av (E8 L k u M s)))) := by
 refine zS ?_; refine AV rfl ?_; refine zS ?_; refine BF rfl ?_
 have hl := hl.EP (g := gN none []) (.inl ⟨rfl, rfl, rfl⟩)
 have hT5 : (Ds L k u M s).length = 5 := rfl
 refine AK (L' := [(65, .int .i64 (0 : Int)), (64, AM (((Ds L k u M s).map R3.cells).flatten)), (8, .slice none ([] : List Int).length ([] : List Int).length), (6, .int .i64 (s.cn.n.tmod 3)), (4, .slice none 0 0), (3, ptrTo B3 0)]) sE ?_
 refine Au rfl (fun m Le S' => ∃ (i : Nat) (av : Option Addr) (O : List Int), i ≤ 5 ∧ m = 5 - i ∧ O.length ≤ i ∧ O ++ Mq (s.cn.n.tmod 3) s.free i ((Ds L k u M s).drop i) = E8 L k u M s ∧ Af [(65, .int .i64 (i : Int)), (64, AM (((Ds L k u M s).map R3.cells).flatten)), (8, .slice av O.length O.length), (6, .int .i64 (s.cn.n.tmod 3)), (4, .slice none 0 0), (3, ptrTo B3 0)] Le ∧ AB S [S] S' [(B3, .cells (Se.cells s) 248 false true [])] [gN av O]) ?_ (m := 5) ⟨0, none, [], Q1, Q1, Nat.zero_le _, rfl, sE, hl.tail⟩
 clear hl; rintro m Le S5 ⟨i, av, O, hi, rfl, hO, A8, AL, hl⟩; refine AK AL ?_
 refine zg ?_
 constructor <;> intro P2
 ·
  have AJ : i < 5 := dT P2
  obtain ⟨x, hx⟩ := Ac (l := Ds L k u M s) (i := i) Q1
  rw [D4 hx] at A8
  have A8 : O ++ ((bif x.at_ (s.cn.n.tmod 3) || (decide ((i : Int) = 0) && s.free) then [(i : Int)] else []) ++ Mq (s.cn.n.tmod 3) s.free (i + 1) ((Ds L k u M s).drop (i + 1))) = E8 L k u M s := A8
  refine zg ?_; refine rr rfl (Ql rfl rfl rfl (kW (f := R3.cells) (x := x) (C := Ds L k u M s) (i := (i : Int)) (z := 3) (len := 5) Tryz.underlying265 aP aP (fun _ => rfl) ⟨Q1, Q1⟩ hx)) ?_; refine aL hl [.bool false, .bool false, .bool false] fun Hn S6 hl => ?_; refine zg ?_; refine sL hl 0 x.cells fun S7 hl => ?_; refine zA ?_; refine AV rfl (Bz hl 79 (.bool (x.at_ (s.cn.n.tmod 3) || (decide ((i : Int) = 0) && s.free))) ?_ rfl ?_)
  ·
   refine zg ?_; refine rr rfl (Qm rfl rfl rfl (kU (z := 1) Tryz.underlying263 aP ⟨Q1, Q1⟩)) ?_; refine rr rfl (Ba rfl rfl (l1 (hl.get 0 rfl) (R3.nth ZG))) ?_; refine zg ?_; refine BH (d := 72) rfl (fun U9 => ?_) (fun U9 => ?_)
   ·
    refine zg ?_
    exact ⟨rfl, bl (by rw [U9]; rfl), sB, hl⟩
   refine zg ?_; refine BH (d := 75) rfl (fun KD => ?_) (fun KD => ?_)
   ·
    have KD : decide ((i : Int) = 0) = true := KD
    refine zg ?_
    exact ⟨rfl, bl (by rw [U9, KD]; rfl), sB, hl⟩
   have KD : decide ((i : Int) = 0) = false := KD
   refine zg ?_
   exact ⟨rfl, bl (by rw [U9, KD]; rfl), sB, hl⟩
  intro S8 hl
  refine zg ?_
  constructor <;> intro YO
  ·
   rw [YO] at A8
   refine zg ?_; refine dL hl (ic (i : Int)) Tryz.underlying22 fun B82 S9 xk hl => ?_; refine DX hl 0 rfl rfl (by simp) rfl rfl rfl rfl rfl rfl rfl Tryz.underlying22 Tryz.underlying22 rfl rfl aP (Bf (new := ic (i : Int)) xk rfl) rfl rfl aP (by show O.length + 1 ≤ AQ; unfold AQ; omega) ?_; intro v83 Co hl
   obtain ⟨AT, rfl⟩ : ∃ x, v83 = .slice x (O.length + 1) (O.length + 1) := AU.is (hl.gr _ aQ)
   refine zg ?_
   refine ⟨5 - (i + 1), Q1, i + 1, AT, O ++ [(i : Int)], Q1, rfl, by rw [ay]; show O.length + 1 ≤ _; omega, by rw [← A8, List.append_assoc]; rfl, ⟨rfl, rfl, congrArg some (congrArg (fun n => Value.slice AT n n) (by rw [ay]; rfl)), rfl, rfl, rfl, trivial⟩, ?_⟩
   rw [gN, EH]
   exact hl.tail
  rw [YO] at A8
  refine zg ?_
  exact ⟨5 - (i + 1), Q1, i + 1, av, O, Q1, rfl, Q1, by rw [← A8]; rfl, sE, hl.tail⟩
 rw [List.drop_eq_nil_of_le (dF P2)] at A8
 have A8 : O = E8 L k u M s := by rw [← A8]; exact (List.append_nil _).symm
 subst A8
 refine zg ?_
 refine y1 rfl ⟨hl.AA, av, rfl, hl.gr _ aQ⟩
theorem n8 (BR BM : Nat) (a : Option Addr) (cap : Nat) (L : List It) (k : Int) (u : Nat) (M : List Int) (s : Se) (hF : Ad S) (Bl : 0 ≤ k ∧ k ≤ 10) (hs : JI L s) (hc : 0 ≤ s.cn.n) (hR : Rn S BR BM a cap L k u M) : CC Tryz.prog KK 159 [ptrTo BR 0, AM s.cells] S (fun v S' => AG S S' ∧ ∃ av, v = .slice av (E8 L k u M s).length (E8 L k u M s).length ∧ AU S S' (gN av (E8 L k u M s))) := by
 refine ce 86 Tryz.func159 fun hl => ?_; refine zg ?_; refine bL hl fun B3 S3 hl => ?_; refine zA ?_; iterate 2 refine zS ?_
 have ZG := Mb (a := s.cn.n) (b := 3) Q1 hc
 obtain ⟨fr, to, lt, rt, U6, cn⟩ := s
 refine AK (L' := [(6, .int .i64 (cn.n.tmod 3)), (5, .bool (decide (cn.d = 1))), (4, .slice none 0 0), (3, ptrTo B3 0), (0, ptrTo BR 0)]) sE ?_; refine AV rfl (W5 7 (fun v S' => ∃ B7, v = ptrTo B7 0 ∧ AB S [S] S' [(B7, .cells (((Ds L k u M ⟨fr, to, lt, rt, U6, cn⟩).map R3.cells).flatten) 265 false true []), (B3, .cells (Se.cells (⟨fr, to, lt, rt, U6, cn⟩ : Se)) 248 false true [])] []) ?_ ?_)
 ·
  cases hw : decide (cn.d = 1) <;> cases U6
  ·exact AC0 BR BM a cap L k u M fr to lt rt cn B3 hw hF Bl hs hR hl
  ·exact AC3 BR BM a cap L k u M fr to lt rt cn B3 hw hF Bl hs hR hl
  ·exact AC1 BR BM a cap L k u M fr to lt rt cn B3 hw hF Bl hs hR hl
  exact AC4 BR BM a cap L k u M fr to lt rt cn B3 hw hF Bl hs hR hl
 clear hl; rintro v S4 ⟨B7, rfl, hl⟩
 refine AK (L' := [(7, ptrTo B7 0), (6, .int .i64 (cn.n.tmod 3)), (4, .slice none 0 0), (3, ptrTo B3 0)]) sE ?_
 exact AC2 B3 B7 L k u M ⟨fr, to, lt, rt, U6, cn⟩ ZG hl
theorem WO {P : Program} {ih : Bo} {full : List Oper} {AE : List Nat} : ∀ (r : List (Oper × Nat)) (AX Fv : List (Nat × CZ)) (a : Ca) (S : St), (r.all fun x => !(kindOf x.1.op == .Ed)) = true → Ce P ih full AE r AX a S = Ce P ih full AE r Fv a S
 | [], _, _, _, _, _ => rfl
 | (o, i) :: r, AX, Fv, a, S, h => by
  simp only [List.all_cons, Bool.and_eq_true] at h
  unfold Ce
  cases CY full a o with
  | false =>
   simp only [cond_false]
   cases a.put o.dst undef with
   | none => rfl
   | some a' => exact WO r _ _ a' S h.2
  | true =>
   simp only [cond_true]
   cases hk : kindOf o.op with
   | Ed => rw [hk] at h; exact absurd h.1 (by decide)
   | read =>
    simp only
    cases Cl P a.ev o.op S with
    | none => rfl
    | some v =>
     simp only
     cases a.put o.dst v with
     | none => rfl
     | some a' => exact WO r _ _ a' S h.2
   | fresh =>
    simp only
    cases C1 P a.ev o.op S with
    | none => rfl
    | some x =>
     obtain ⟨v, S'⟩ := x
     simp only
     cases a.put o.dst v with
     | none => rfl
     | some a' =>
      cases J7 S' S.size with
      | none => rfl
      | some c =>
       cases S.get S.size with
       | none => exact WO r _ _ a' S' h.2
       | some _ => rfl
theorem AB8 {κ : Type} [DecidableEq κ] {P : Program} {K : A1} {n : Nat} {ops : List Oper} {AE : List Nat} {pl : List (Oper × Nat)} {k : Nat} {E : List Cb} {L : Env} {S S0 : St} {Ts : List St} {l : List (Nat × AD)} {gs : List Gr} {Q : Bi} {t : TypeId} {o1 o2 o3 : Oper} {j1 j2 j3 d1 d2 d3 : Nat} {v2 : Value} {x : Operand} {ar : Array Operand} {ts : Array TypeId} {f : FuncId} {fi ca : Array Value} {vs : List Value} {R : St → Value → St → Prop} (kc : κ → Value) (hF : Ad S0) (hl : AB S0 Ts S l gs)
  (xB : nth pl k = some (o1, j1)) (js : o1.op = .makeMap t none) (Ja : As ops L o1 = some true) (KE : o1.dst = some d1) (H6 : Nat.blt d1 n = true)
  (xC : nth pl (k + 1) = some (o2, j2)) (KP : ∀ B, As ops ((d1, .map (some B)) :: L) o2 = some true) (Fy : o2.dst = some d2) (FH : Nat.blt d2 n = true) (NT : looks o2.op = false) (QM : ∀ B T, Rd P n ((d1, .map (some B)) :: L) T o2 v2)
  (xD : nth pl (k + 2) = some (o3, j3)) (jt : o3.op = .call ⟨.value x, ar, ts⟩) (QR : ∀ B, As ops ((d2, v2) :: (d1, .map (some B)) :: L) o3 = some true) (vi : o3.dst = some d3) (Sc : Nat.blt d3 n = true) (hx : ∀ B, Cm.Ae ((d2, v2) :: (d1, .map (some B)) :: L) x = some (.func (.func f) fi ca)) (hv : ∀ B, Cm.DE ((d2, v2) :: (d1, .map (some B)) :: L) ar.toList = some vs)
  (hc : ∀ T, AG S T → CC P K f ((fi.toList ++ vs) ++ ca.toList) T fun v S' => AG T S' ∧ R T v S')
  (Ag : ∀ S', AG S S' → E7 P n S' ((nth AE j3).getD 0) E)
  (Dx : ((pl.drop (k + 3)).all fun x => !(kindOf x.1.op == .Ed)) = true)
  (h : ∀ B v T S', R T v S' → AB S0 Ts T ((B, D7 kc []) :: l) gs → AG T S' → AB S0 Ts S' ((B, D7 kc []) :: l) gs → RP P K n ops AE pl (k + 3) [] ((d3, v) :: (d2, v2) :: (d1, .map (some B)) :: L) S' Q) : RP P K n ops AE pl k E L S Q := by
 intro AX HW a ha
 obtain ⟨a1, KN, Cc⟩ := ha.put H6 (.map (some S.size))
 obtain ⟨a2, H7, Eb⟩ := Cc.put FH v2
 have Al := AG.new S (.map [] 0)
 obtain ⟨m, v, S', h1, h2, h3⟩ := hc _ Al
 obtain ⟨a3, Sj, SB⟩ := Eb.put Sc v
 have QH : AB S0 Ts (S.new (.map [] 0)).2 ((S.size, D7 kc []) :: l) gs := hl.new (.map [] 0)
 have Bu := QH.call h2
 obtain ⟨m2, e, a', S2, L', q1, q2, q3⟩ := h S.size v _ S' h3 QH h2 Bu [] trivial a3 SB
 obtain ⟨s1, s2⟩ := T7 HW (Ag S' (Al.trans h2))
 refine ⟨max (m + 1) m2, e, a', S2, L', ?_, q2, q3⟩
 have wQ : kindOf o1.op = .fresh := by rw [js]; rfl
 have Bq : C1 P a.ev o1.op S = some (.map (some S.size), (S.new (.map [] 0)).2) := by rw [js]; rfl
 have HY : J7 (S.new (.map [] 0)).2 S.size = some (.map S.size) := by
  unfold J7
  rw [JQ]
  rfl
 have hf : S.get S.size = none := hl.AA.3 hF _ (Nat.le_refl _)
 have wR : kindOf o3.op = .Ed := by rw [jt]; rfl
 have NZ : CF P (fns P K (m + 1)) a2.ev o3.op (S.new (.map [] 0)).2 = some (.val v, S') := by
  rw [jt]
  unfold CF
  simp only [kindOf, Kw, Eb.ev (hx _), Ii Eb (hv _)]
  have : (fns P K (m + 1)).call (.fn (.func f) ca) (fi.toList ++ vs) (S.new (.map [] 0)).2 = some (.returned v, S') := h1
  rw [this]
 have Dm : (((j1, CZ.map S.size) :: AX).filter fun x => !((nth AE j3).getD 0).testBit x.1).all (fun x => x.2.ok P S') = true := by
  rw [List.filter_cons]
  split
  ·rw [List.all_cons, s1, Bool.and_true]
   show (match S'.get S.size with | some (.map [] 0) => true | _ => false) = true
   rw [(Bu.at_ S.size _ aQ).1]
   rfl
  exact s1
 rw [EU _ _ _ xB]
 unfold Ce
 rw [E3 ha Ja, wQ, Bq]
 simp only [cond_true, KE, KN, HY, hf]
 rw [EU _ _ _ xC]
 unfold Ce
 rw [E3 Cc (KP _), (QM S.size (S.new (.map [] 0)).2).1, (QM S.size (S.new (.map [] 0)).2).2 _ Cc]
 simp only [cond_true, Fy, H7, NT, cond_false]
 rw [EU _ _ _ xD]
 unfold Ce
 rw [E3 Eb (QR _), wR, Jr (EV (Nat.le_max_left (m + 1) m2)) NZ]
 simp only [cond_true, vi, Sj, Dm]
 rw [WO _ _ [] _ _ Dx]
 exact Me (EV (Nat.le_max_right (m + 1) m2)) _ q1
theorem AB5 {P : Program} {K : A1} {n : Nat} {L : Env} {S S0 : St} {Q : Bi} {ops : List Oper} {o : Oper} {Ts : List St} {l : List (Nat × AD)} {gs : List Gr} {AE : List Nat} {pl : List (Oper × Nat)} {q j d : Nat} {E : List Cb} (hF : Ad S0) (hl : AB S0 Ts S l gs) {e : TypeId} {x : Operand} {v : Value} (ho : nth pl q = some (o, j)) (AH : o.op = .box e x) (hw : As ops L o = some true) (hd : o.dst = some d) (hn : Nat.blt d n = true) (hx : Cm.Ae L x = some v)
  (h : ∀ B S', AB S0 Ts S' ((B, .cells (AP v) e false true []) :: l) gs → RP P K n ops AE pl (q + 1) (⟨j, o.op, undef, L, some (B, AP v, e, false)⟩ :: E) ((d, ptrTo B 0) :: L) S' Q) : RP P K n ops AE pl q E L S Q :=
 WK ho (by rw [AH]; rfl) hw hd hn (fun a ha => by rw [AH]; simp only [C1, ha.ev hx]; rfl) (hl.AA.3 hF _ (Nat.le_refl _)) (h _ _ (hl.new _))
abbrev DL (v : Value) (C : List It) (fr : List (Nat × AD)) : Prop := OW v 183 12 ((C.map It.cells).flatten) C.length fr
theorem uB (C : List It) : ((C.map It.cells).flatten).all E' = true := K6 (f := It.cells) (fun _ => rfl) _
theorem AC6 (a : Option Addr) (cap : Nat) (L : List It) (hn : L.length ≤ 400) (hv : E4 S (.slice a L.length cap) L) : CC Tryz.prog KK 160 [.slice a L.length cap] S (fun v S' => AG S S' ∧ ∃ av fr, v = .slice av L.length L.length ∧ DL (.slice av L.length L.length) L fr ∧ AB S [S] S' fr []) := by
 refine ce 8 Tryz.func160 fun hl => ?_; refine zg ?_; refine rr rfl (Ff rfl rfl rfl (eq_nil Tryz.underlying157)) ?_; refine zg ?_
 constructor <;> intro h4
 ·
  obtain rfl := Vs hv h4
  refine zg ?_
  exact (z1 rfl ⟨hl.AA, none, [], rfl, .inl ⟨rfl, rfl, rfl, rfl⟩, hl⟩)
 refine zg ?_; refine bG hl rfl rfl rfl rfl rfl Tryz.underlying157 rfl (c := []) aP ?_; intro B5 S1 hl; refine zg ?_
 obtain ⟨aw, tl, S2, h1, h2, h3⟩ := en (P := Tryz.prog) hl (ts := #[157, 157]) (x := .slice a L.length cap) rfl Tryz.underlying157 Tryz.underlying157 rfl rfl aP (hv.move (hl.since 0 rfl)).cells (Da (f := It.cells) (z := 12) (fun _ => rfl) _) (uB _) aP (by show L.length ≤ AQ; unfold AQ; omega)
 refine Kf rfl rfl rfl rfl rfl rfl rfl h1 ?_; refine zg ?_
 have hO : DL (.slice aw L.length L.length) L tl := by
  rcases h2 with ⟨B0, e1, e2, rfl, rfl⟩ | ⟨B, B0, _, rfl, rfl⟩
  ·unfold DL; rw [e2, e1]; exact .inr ⟨B0, [], rfl, (Nat.zero_mul _).symm, rfl, fun _ h => (List.not_mem_nil h).elim⟩
  exact .inr ⟨B, [(B0, .cells [] 183 true false [])], rfl, Da (f := It.cells) (z := 12) (fun _ => rfl) _, rfl, fun p hp => by rw [List.mem_singleton.1 hp]; exact ⟨_, _, _, rfl⟩⟩
 refine y1 rfl ⟨h3.AA, aw, tl, rfl, hO, ?_⟩
 rw [← List.append_nil tl]
 exact h3
theorem OW.at_ {{α : Type}} {{f : α → List Value}} {{C : List α}} {{v : Value}} {{e : TypeId}} {{z : Nat}} {{fr l : List (Nat × AD)}} {{S0 T : St}} {{Ts : List St}} {{gs : List Gr}} (hz : ∀ x, (f x).length = z) (h : OW v e z ((C.map f).flatten) C.length fr) (hl : AB S0 Ts T l gs) (hm : ∀ p, p ∈ fr → p ∈ l) : AZ e z f T v C := by
 rcases h with ⟨rfl, _, h3, _⟩ | ⟨b, dd, rfl, _, rfl, _⟩
 ·have : C = [] := List.length_eq_zero_iff.1 h3
  subst this
  exact AZ.nil
 obtain ⟨h1, _, h2⟩ := hl.at_ b _ (hm _ aQ)
 exact AZ.row hz ⟨h2, _, _, h1⟩ rfl
abbrev kI : Int → Value := fun i => .int .i64 i
abbrev E5 (BR BM : Nat) (av : Option Addr) (n : Nat) (k : Int) (u : Nat) (M : List Int) (fr fS : List (Nat × AD)) : List (Nat × AD) := [(BR, Nv (.slice av n n) k u (.map (some BM))), (BM, D7 kI (Gq M))] ++ (fr ++ fS)
theorem n5 (a : Option Addr) (cap : Nat) (L : List It) (p q r t : Int) (k : Int) (u : Nat) (hu : u = Bc [p, q, r, t] (k.toNat + 1)) (hm : Ap p q r t = 0) (hk : k ∈ BK [p, q, r, t] 4) (hF : Ad S) (hn : L.length ≤ 27) (Db : 0 < u ∧ u ≤ 1000) (A3 : ∀ x, x ∈ L → Jw x) (Sp : (Ah L).sum ≤ 50000) (hv : E4 S (.slice a L.length cap) L) : CC Tryz.prog KK 131 [mV [p, q, r, t], .int .i64 k, .slice a L.length cap] S (fun v S' => match Dr k u L with
  | none => AG S S' ∧ ∃ w, v = AN [w, .slice none 0 0, .int .i64 14]
  | some N => ∃ BR BM av fr aS fS, v = AN [ptrTo BR 0, .slice aS N.length N.length, .int .i64 0] ∧ DL (.slice av L.length L.length) L fr ∧ HE aS N fS ∧ AB S [S] S' (E5 BR BM av L.length k u [] fr fS) []) := by
 refine ce 38 Tryz.func131 fun hl => ?_; refine zg ?_; refine bL hl fun B3 S3 hl => ?_; refine zg ?_; refine Ct rfl rfl rfl rfl rfl rfl rfl (Bp (nz a cap L p q r t k u hu hm hk (hl.AA.3 hF) hn Db A3 Sp (hv.move (hl.since 0 rfl))) ?_); intro v S4 CM
 cases hE : Dr k u L with
 | none =>
  rw [hE] at CM
  obtain ⟨GD, rfl⟩ := CM
  have hl := hl.call GD
  refine zg ?_
  refine Cw (CK (A7 rfl (A7 rfl (A7 rfl rfl))) ⟨hl.AA, _, rfl⟩)
 | some N =>
  rw [hE] at CM
  obtain ⟨aS, fS, rfl, K8, hb⟩ := CM
  have hl := hl.join hb
  refine zg ?_
  refine zc hl rfl (kg hm hk) ?_; rintro v S5 FZ rfl hl
  rw [← hu]
  refine zg ?_; refine aL hl [.int .i64 0, .int .i64 0] fun Dg S6 hl => ?_; refine sL hl 0 ((tw u).cells) fun S7 hl => ?_; refine zg ?_; refine A4 (idx := [0, 3, 4, 5, 8, 1, 2, 6, 7, 9, 10, 11]) rfl aP aP ?_; refine zg ?_; refine AB8 (κ := Int) kI hF hl rfl rfl rfl rfl rfl rfl (fun _ => rfl) rfl rfl rfl (fun B T => Tc rfl rfl) rfl rfl (fun _ => rfl) rfl rfl (fun _ => rfl) (fun _ => rfl) (fun T hT => AC6 a cap L Q1 ((hv.move (hl.since 0 rfl)).move hT.rk)) (fun S' hk => by have hl := hl.call hk; exact zt) rfl ?_
  rintro BM v T S8 ⟨av, fr, rfl, hO, CB⟩ QH hkT hl
  have hl := QH.join CB
  refine pr rfl (Ak rfl rfl (v := AM [.slice av L.length L.length]) (by rfl)) ?_; refine pr rfl (Ak rfl rfl (v := AM [.slice av L.length L.length, .int .i64 k, .int .i64 (tw u).n, .int .i64 (tw u).d, .map (some BM)]) (by rfl)) ?_; refine AB5 hF hl rfl rfl rfl rfl rfl rfl ?_; intro BR S9 hl; refine zg ?_
  refine CK (A7 rfl (A7 rfl (A7 rfl rfl))) ⟨BR, BM, av, fr, aS, fS, rfl, hO, K8, ?_⟩
  have hl : AB S [S] S9 ((BR, Nv (.slice av L.length L.length) k u (.map (some BM))) :: (BM, D7 kI (Gq [])) :: (Dg, .cells (tw u).cells 88 false true []) :: (B3, .cells (AP (mV [p, q, r, t])) 28 false true []) :: (fS ++ fr)) [] := hl
  have hl := hl.sub (l' := (BR, Nv (.slice av L.length L.length) k u (.map (some BM))) :: (BM, D7 kI (Gq [])) :: (fS ++ fr)) (((((List.Sublist.refl _).cons _).cons _).cons_cons _).cons_cons _)
  exact hl.perm ((List.perm_append_comm.cons _).cons _)
theorem WI {P : Program} {K : A1} {n : Nat} {L : Env} {S S' : St} {Q : Bi} {ops : List Oper} {o : Oper} {AE : List Nat} {pl : List (Oper × Nat)} {q j d : Nat} {E : List Cb} {bi : Builtin} {ar : Array Operand} {ts : Array TypeId} {vs : List Value} {v : Value} (ho : nth pl q = some (o, j)) (AH : o.op = .call ⟨.builtin bi, ar, ts⟩) (hw : As ops L o = some true) (hd : o.dst = some d) (hn : Nat.blt d n = true)
  (hb : kindOf (.call ⟨.builtin bi, ar, ts⟩) = .Ed) (hx : Cm.DE L ar.toList = some vs) (hv : Dj P bi ts.toList vs S = some (v, S')) (h : E7 P n S' ((nth AE j).getD 0) E ∧ RP P K n ops AE pl (q + 1) (left ((nth AE j).getD 0) E) ((d, v) :: L) S' Q) : RP P K n ops AE pl q E L S Q :=
 bU ho (by rw [AH]; exact hb) hw hd hn (fun a ha => ⟨0, by rw [AH]; unfold CF; rw [hb]; simp only [Ii ha hx, hv]⟩) h.1 h.2
theorem DL.set {b n i o : Nat} {L : List It} {q fr l : List (Nat × AD)} {Sb S : St} {x y : It} {v : Ti} (hO : DL (.slice (some ⟨b, 0, none⟩) n n) L fr) (hL : L.length = n) (hx : nth L i = some x) (hs : BJ o v.cells x.cells = some y.cells) (hl : AB Sb [Sb] S (q ++ (fr ++ l)) []) :
  ∃ S' AW, Gv Tryz.prog 88 (ptrTo b (0 + i * 12 + o)) v.v S = some S' ∧ DL (.slice (some ⟨b, 0, none⟩) n n) (L.set i y) AW ∧ AB Sb [Sb] S' (q ++ (AW ++ l)) [] := by
 have hn : 0 < n := by have := CS hx; omega
 subst hL
 obtain ⟨bx, S', AW, e1, DO, Aw, Bu⟩ := Q9 (P := Tryz.prog) (k := 0 + i * 12 + o) (t := 88) (u := v.v) hl hO hn rfl aP (by rw [Nat.zero_add]; exact Tu (f := It.cells) (z := 12) (fun _ => rfl) (j := o) hs _ i hx) ((Da (f := It.cells) (z := 12) (fun _ => rfl) _).trans ((congrArg (· * 12) List.length_set).trans (Da (f := It.cells) (z := 12) (fun _ => rfl) _).symm))
 cases e1
 refine ⟨S', AW, DO, ?_, Bu⟩
 unfold DL
 rw [List.length_set]
 exact Aw
theorem DL.ld {b n i : Nat} {L : List It} {fr l : List (Nat × AD)} {Sb S : St} {Ts : List St} {gs : List Gr} {x : It} (hO : DL (.slice (some ⟨b, 0, none⟩) n n) L fr) (hL : L.length = n) (hx : nth L i = some x) (hl : AB Sb Ts S l gs) (hm : ∀ p, p ∈ fr → p ∈ l) : ∃ cs, Di S b 183 cs ∧ takeN 12 (BW (0 + i * 12) cs) = some x.cells := by
 subst hL
 obtain ⟨b1, o1, Ai, ha, _, AY, Ab⟩ := (OW.at_ (f := It.cells) (fun _ => rfl) hO hl hm).elem hx
 cases ha
 exact ⟨_, AY, Ab⟩
theorem Ef {α : Type} {q fr l : List α} : ∀ p, p ∈ fr → p ∈ q ++ (fr ++ l) := fun _ hp => List.mem_append.2 (.inr (List.mem_append.2 (.inl hp)))
theorem Wk {Sb S : St} (B3 B4 BR BM b n i o w : Nat) (L : List It) (k : Int) (u : Nat) (M : List Int) (s : Se) (x y : It) {fr rest : List (Nat × AD)} (hF : Ad Sb) (hL : L.length = n) (hx : nth L i = some x) (hu : u ≤ x.AS) (hd : x.AS ≤ 50000) (hw : w ≤ 40000) (H' : u ≤ 1000) (_ : takeN 2 (BW o x.cells) = some (tw w).cells) (xp : takeN 2 (BW o ({ x with AS := x.AS - u } : It).cells) = some (tw w).cells) (Ag : BJ o (tw (w + u)).cells ({ x with AS := x.AS - u } : It).cells = some y.cells)
  (hO : DL (.slice (some ⟨b, 0, none⟩) n n) L fr) (hl : AB Sb [Sb] S ([(B4, .cells s.cells 248 false true []), (B3, .cells [ptrTo BR 0] 226 false true []), (BR, Nv (.slice (some ⟨b, 0, none⟩) n n) k u (.map (some BM))), (BM, D7 kI (Gq M))] ++ (fr ++ rest)) []) :
  CC Tryz.prog KK 181 [ptrTo b (0 + i * 12), ptrTo b (0 + i * 12 + o), ptrTo B3 0] S (fun v S' => v = .int .i64 0 ∧ ∃ AW, DL (.slice (some ⟨b, 0, none⟩) n n) (L.set i y) AW ∧ AB Sb [Sb] S' ([(B4, .cells s.cells 248 false true []), (B3, .cells [ptrTo BR 0] 226 false true []), (BR, Nv (.slice (some ⟨b, 0, none⟩) n n) k u (.map (some BM))), (BM, D7 kI (Gq M))] ++ (AW ++ rest)) []) := by
 refine ce 39 Tryz.func181 fun _ => ?_
 obtain ⟨cs, AY, Ab⟩ := hO.ld hL hx hl Ef
 refine zg ?_; refine A4 (idx := [0, 1, 2, 3, 4, 5, 6, 7, 8, 9, 10, 11, 12, 13, 14, 15, 16]) rfl aP aP ?_; refine zg ?_; refine pk rfl (Ba rfl rfl (q4 (z := 2) (ks tt rfl) AY (PM (j := 6) Ab rfl))) ?_; refine pk rfl (Ba rfl rfl (l1 (hl.get 1 rfl) rfl)) ?_; refine zg ?_
 refine zp hl rfl (cU x.AS u (hl.AA.3 hF) Q1 Q1 hu) ?_; rintro v S1 Al rfl hl; refine ⟨zt, ?_⟩
 refine zg ?_
 obtain ⟨S2, BA, DO, Aw, Bu⟩ := hO.set hL hx (o := 6) (v := tw (x.AS - u)) (y := { x with AS := x.AS - u }) rfl hl
 refine I9 rfl rfl rfl rfl rfl rfl DO zt ?_; refine zg ?_
 clear AY Ab hl
 have hl := Bu
 have DU : nth (L.set i { x with AS := x.AS - u }) i = some { x with AS := x.AS - u } := by rw [CD, List.getElem?_set_self (CS hx)]
 have VC : (L.set i ({ x with AS := x.AS - u } : It)).length = n := by rw [List.length_set]; exact hL
 obtain ⟨cs, AY, Ab⟩ := Aw.ld VC DU hl Ef
 refine A4 (idx := [0, 1, 2, 3, 4, 5, 6, 7, 8, 9, 10, 11, 12, 13, 14]) rfl aP aP ?_; refine zg ?_; refine pk rfl (Ba rfl rfl (q4 (z := 2) (ks tt rfl) AY (PM (j := o) Ab xp))) ?_; refine pk rfl (Ba rfl rfl (l1 (hl.get 1 rfl) rfl)) ?_; refine zg ?_
 refine zp hl rfl (T3 w u (hl.AA.3 hF) Q1 Q1) ?_; rintro v S3 Ar rfl hl; refine ⟨zt, ?_⟩
 refine zg ?_
 obtain ⟨S4, Pu, DI, Ob, NS⟩ := Aw.set VC DU (o := o) (v := tw (w + u)) (y := y) Ag hl
 refine I9 rfl rfl rfl rfl rfl rfl DI zt ?_; refine zg ?_; refine Kf (v := .int .i64 0) rfl rfl rfl rfl rfl rfl rfl (by rfl) ?_; refine zg ?_
 rw [List.set_set] at Ob
 exact y1 rfl ⟨rfl, Pu, Ob, NS⟩
theorem nO {κ : Type} [DecidableEq κ] {kc : κ → Value} {P : Program} {K : A1} {n : Nat} {L : Env} {S S0 : St} {Q : Bi} {ops : List Oper} {o : Oper} {Ts : List St} {l : List (Nat × AD)} {gs : List Gr} {AE : List Nat} {pl : List (Oper × Nat)} {q j : Nat} {E : List Cb} (hl : AB S0 Ts S l gs) (j0 : Nat) {t kt et : TypeId} {x y z : Operand} {M : Nat} {D : List (κ × Value)} {k : κ} {v : Value} (hk : nth l j0 = some (M, D7 kc D)) (ho : nth pl q = some (o, j)) (AH : o.op = .mapUpdate t x y z) (hw : As ops L o = some true) (hd : o.dst = none)
  (hx : Cm.Ae L x = some (.map (some M))) (hy : Cm.Ae L y = some (kc k)) (hz : Cm.Ae L z = some v) (hu : P.underlying t = some (.map kt et)) (heq : ∀ a b, Ci P EF kt (kc a) (kc b) = some (decide (a = b)))
  (A3 : G9 P 20 kt (kc k) = true) (Cr : plainKey 20 (kc k) = true) (Iw : CO 1000 (kc k) (kc k) = true)
  (h : ∀ S', AB S0 Ts S' (Gt j0 (D7 kc (Eh D k v)) l) gs → E7 P n S' ((nth AE j).getD 0) E ∧ RP P K n ops AE pl (q + 1) (left ((nth AE j).getD 0) E) L S' Q) : RP P K n ops AE pl q E L S Q :=
 nN (v := undef) ho (by rw [AH]; rfl) hw hd (fun a ha => ⟨0, by rw [AH]; unfold CF; simp only [kindOf, JW]; rw [ha.ev hx, ha.ev hy, ha.ev hz, lL hu (hl.get j0 hk) heq A3 Cr Iw]⟩) (h _ (hl.put hk rfl _)).1 (h _ (hl.put hk rfl _)).2
def TF (M : List Int) (i : Int) : List Int := if i ∈ M then M else M ++ [i]
theorem mh : ∀ (M : List Int) (i : Int), Eh (Gq M) i (.bool true) = if i ∈ M then Gq M else Gq M ++ [(i, .bool true)]
 | [], i => by simp [Gq, Eh]
 | a :: M, i => by
  show Eh ((a, Value.bool true) :: Gq M) i (.bool true) = _
  unfold Eh
  by_cases h : i = a
  ·rw [if_pos h, if_pos (by rw [h]; exact aQ)]; rfl
  rw [if_neg h, mh M i]
  by_cases h2 : i ∈ M
  ·rw [if_pos h2, if_pos (cy h2)]; rfl
  rw [if_neg h2, if_neg (by simp [h, h2])]; rfl
theorem lH {M : List Int} {i : Int} : Gq (TF M i) = Eh (Gq M) i (.bool true) := by
 rw [mh]
 unfold TF
 split
 ·rfl
 exact mAp
theorem AC8 {Sb S : St} (BR BM n : Nat) (av : Option Addr) (L : List It) (k : Int) (u : Nat) (M : List Int) (s : Se) {fr rest : List (Nat × AD)} (_ : Ad Sb) (_ : L.length = n) (_ : n ≤ 27) (_ : u ≤ 1000) (hO : DL (.slice av n n) L fr) (hl : AB Sb [Sb] S (E5 BR BM av n k u M fr rest) []) :
  CC Tryz.prog KK 161 [ptrTo BR 0, AM s.cells, .int .i64 0] S (fun v S' => v = .int .i64 0 ∧ ∃ AW, DL (.slice av n n) L AW ∧ AB Sb [Sb] S' (E5 BR BM av n k u M AW rest) []) := by
 refine ce 98 Tryz.func161 fun _ => ?_; refine zg ?_; refine bL hl fun B3 S1 hl => ?_; refine bL hl fun B4 S2 hl => ?_; refine zg ?_; refine rr rfl (Fg rfl rfl rfl) ?_; refine zg ?_
 exact y1 rfl ⟨rfl, _, hO, hl.tail.tail⟩
theorem AC9 {Sb S : St} (BR BM b n : Nat) (L : List It) (k : Int) (u : Nat) (M : List Int) (s : Se) {fr rest : List (Nat × AD)} (hF : Ad Sb) (hL : L.length = n) (_ : n ≤ 27) (Fb : u ≤ 1000) (x : It) (AJ : 0 ≤ s.lt ∧ s.lt < n) (Ow : nth L s.lt.toNat = some x) (hx : Jw x) (TA : u ≤ x.AS) (hO : DL (.slice (some ⟨b, 0, none⟩) n n) L fr) (hl : AB Sb [Sb] S (E5 BR BM (some ⟨b, 0, none⟩) n k u M fr rest) []) :
  CC Tryz.prog KK 161 [ptrTo BR 0, AM s.cells, .int .i64 1] S (fun v S' => v = .int .i64 0 ∧ ∃ AW, DL (.slice (some ⟨b, 0, none⟩) n n) (L.set s.lt.toNat { x with AS := x.AS - u, BI := x.BI + u }) AW ∧ AB Sb [Sb] S' (E5 BR BM (some ⟨b, 0, none⟩) n k u M AW rest) []) := by
 refine ce 98 Tryz.func161 fun _ => ?_; refine zg ?_; refine bL hl fun B3 S1 hl => ?_; refine bL hl fun B4 S2 hl => ?_; refine zg ?_; refine rr rfl (Fg rfl rfl rfl) ?_; refine zg ?_; refine A4 (idx := [0, 1, 2, 3, 4, 5, 6, 7, 8, 9, 10, 11, 12, 13, 14, 15, 16, 17, 18, 19, 20, 21]) rfl aP aP ?_; refine zg ?_; refine pk rfl (Ba rfl rfl (l1 (hl.get 1 rfl) rfl)) ?_; refine zg ?_; refine pk rfl (Ba rfl rfl (l1 (hl.get 1 rfl) rfl)) ?_; refine zg ?_
 refine To rfl rfl rfl rfl rfl rfl rfl (Bp (Wk B3 B4 BR BM b n s.lt.toNat 10 x.BI L k u M s x { x with AS := x.AS - u, BI := x.BI + u } hF hL Ow TA (by have := hx.AS; omega) (by have := hx.BI; omega) Fb rfl rfl rfl hO hl) ?_); rintro v S3 ⟨rfl, Pu, hO, hl⟩; refine ⟨zt, ?_⟩
 refine WI (v := .int .i64 0) rfl rfl rfl rfl rfl rfl rfl (by rfl) ⟨zt, ?_⟩
 refine zg ?_
 exact y1 rfl ⟨rfl, _, hO, hl.tail.tail⟩
theorem AC' {Sb S : St} (BR BM b n : Nat) (L : List It) (k : Int) (u : Nat) (M : List Int) (s : Se) {fr rest : List (Nat × AD)} (hF : Ad Sb) (hL : L.length = n) (_ : n ≤ 27) (Fb : u ≤ 1000) (z : It) (xr : 0 ≤ s.rt ∧ s.rt < n) (Vl : nth L s.rt.toNat = some z) (hz : Jw z) (Zn : u ≤ z.AS) (hO : DL (.slice (some ⟨b, 0, none⟩) n n) L fr) (hl : AB Sb [Sb] S (E5 BR BM (some ⟨b, 0, none⟩) n k u M fr rest) []) :
  CC Tryz.prog KK 161 [ptrTo BR 0, AM s.cells, .int .i64 2] S (fun v S' => v = .int .i64 0 ∧ ∃ AW, DL (.slice (some ⟨b, 0, none⟩) n n) (L.set s.rt.toNat { z with AS := z.AS - u, AE := z.AE + u }) AW ∧ AB Sb [Sb] S' (E5 BR BM (some ⟨b, 0, none⟩) n k u (TF M s.rt) AW rest) []) := by
 refine ce 98 Tryz.func161 fun _ => ?_; refine zg ?_; refine bL hl fun B3 S1 hl => ?_; refine bL hl fun B4 S2 hl => ?_; refine zg ?_; refine rr rfl (Fg rfl rfl rfl) ?_; refine zg ?_; refine A4 (idx := [0, 1, 2, 3, 4, 5, 6, 7, 8, 9, 10, 11, 12, 13, 14, 15, 16, 17, 18, 19, 20, 21]) rfl aP aP ?_; refine zg ?_; refine pk rfl (Ba rfl rfl (l1 (hl.get 1 rfl) rfl)) ?_; refine zg ?_; refine pk rfl (Ba rfl rfl (l1 (hl.get 1 rfl) rfl)) ?_; refine zg ?_
 refine To rfl rfl rfl rfl rfl rfl rfl (Bp (Wk B3 B4 BR BM b n s.rt.toNat 8 z.AE L k u M s z { z with AS := z.AS - u, AE := z.AE + u } hF hL Vl Zn (by have := hz.AS; omega) (by have := hz.AE; omega) Fb rfl rfl rfl hO hl) ?_); rintro v S3 ⟨rfl, Pu, hO, hl⟩; refine ⟨zt, ?_⟩
 refine WI (v := .int .i64 0) rfl rfl rfl rfl rfl rfl rfl (by rfl) ⟨zt, ?_⟩
 refine zg ?_; refine A4 (idx := [0, 1, 2, 3, 4, 5, 6]) rfl aP aP ?_; refine zg ?_; refine pk rfl (Ba rfl rfl (l1 (hl.get 1 rfl) rfl)) ?_; refine zg ?_
 refine nO (κ := Int) hl 3 (kc := kI) (k := s.rt) (v := .bool true) rfl rfl rfl rfl rfl rfl rfl rfl Tryz.underlying232 QV (by rfl) rfl (by simp [CO]) ?_; intro S4 hl; refine ⟨zt, ?_⟩
 rw [← lH] at hl
 refine zg ?_
 exact y1 rfl ⟨rfl, _, hO, hl.tail.tail⟩
theorem ADA {Sb S : St} (BR BM b n : Nat) (L : List It) (k : Int) (u : Nat) (M : List Int) (s : Se) {fr rest : List (Nat × AD)} (hF : Ad Sb) (hL : L.length = n) (_ : n ≤ 27) (Fb : u ≤ 1000) (x : It) (AJ : 0 ≤ s.lt ∧ s.lt < n) (Ow : nth L s.lt.toNat = some x) (hx : Jw x) (TA : u ≤ x.AS) (z : It) (xr : 0 ≤ s.rt ∧ s.rt < n) (Vl : nth L s.rt.toNat = some z) (hz : Jw z) (Zn : u ≤ z.AS) (AR : s.lt.toNat ≠ s.rt.toNat) (hO : DL (.slice (some ⟨b, 0, none⟩) n n) L fr) (hl : AB Sb [Sb] S (E5 BR BM (some ⟨b, 0, none⟩) n k u M fr rest) []) :
  CC Tryz.prog KK 161 [ptrTo BR 0, AM s.cells, .int .i64 3] S (fun v S' => v = .int .i64 0 ∧ ∃ AW, DL (.slice (some ⟨b, 0, none⟩) n n) ((L.set s.lt.toNat { x with AS := x.AS - u, BI := x.BI + u }).set s.rt.toNat { z with AS := z.AS - u, AE := z.AE + u }) AW ∧ AB Sb [Sb] S' (E5 BR BM (some ⟨b, 0, none⟩) n k u (TF M s.rt) AW rest) []) := by
 refine ce 98 Tryz.func161 fun _ => ?_; refine zg ?_; refine bL hl fun B3 S1 hl => ?_; refine bL hl fun B4 S2 hl => ?_; refine zg ?_; refine rr rfl (Fg rfl rfl rfl) ?_; refine zg ?_; refine A4 (idx := [0, 1, 2, 3, 4, 5, 6, 7, 8, 9, 10, 11, 12, 13, 14, 15, 16, 17, 18, 19, 20, 21]) rfl aP aP ?_; refine zg ?_; refine pk rfl (Ba rfl rfl (l1 (hl.get 1 rfl) rfl)) ?_; refine zg ?_; refine pk rfl (Ba rfl rfl (l1 (hl.get 1 rfl) rfl)) ?_; refine zg ?_
 refine To rfl rfl rfl rfl rfl rfl rfl (Bp (Wk B3 B4 BR BM b n s.lt.toNat 10 x.BI L k u M s x { x with AS := x.AS - u, BI := x.BI + u } hF hL Ow TA (by have := hx.AS; omega) (by have := hx.BI; omega) Fb rfl rfl rfl hO hl) ?_); rintro v S3 ⟨rfl, Pu, hO, hl⟩; refine ⟨zt, ?_⟩
 refine WI (v := .int .i64 0) rfl rfl rfl rfl rfl rfl rfl (by rfl) ⟨zt, ?_⟩
 refine zg ?_
 have VC : (L.set s.lt.toNat ({ x with AS := x.AS - u, BI := x.BI + u } : It)).length = n := by rw [List.length_set]; exact hL
 have yS : nth (L.set s.lt.toNat ({ x with AS := x.AS - u, BI := x.BI + u } : It)) s.rt.toNat = some z := by
  rw [CD] at Vl ⊢
  rw [List.getElem?_set_ne AR]
  exact Vl
 refine A4 (idx := [0, 1, 2, 3, 4, 5, 6, 7, 8, 9, 10, 11, 12, 13, 14, 15, 16, 17, 18, 19, 20, 21]) rfl aP aP ?_; refine zg ?_; refine pk rfl (Ba rfl rfl (l1 (hl.get 1 rfl) rfl)) ?_; refine zg ?_; refine pk rfl (Ba rfl rfl (l1 (hl.get 1 rfl) rfl)) ?_; refine zg ?_
 refine To rfl rfl rfl rfl rfl rfl rfl (Bp (Wk B3 B4 BR BM b n s.rt.toNat 8 z.AE _ k u M s z { z with AS := z.AS - u, AE := z.AE + u } hF VC yS Zn (by have := hz.AS; omega) (by have := hz.AE; omega) Fb rfl rfl rfl hO hl) ?_); rintro v S4 ⟨rfl, fr4, hO, hl⟩; refine ⟨zt, ?_⟩
 refine WI (v := .int .i64 0) rfl rfl rfl rfl rfl rfl rfl (by rfl) ⟨zt, ?_⟩
 refine zg ?_; refine A4 (idx := [0, 1, 2, 3, 4, 5, 6]) rfl aP aP ?_; refine zg ?_; refine pk rfl (Ba rfl rfl (l1 (hl.get 1 rfl) rfl)) ?_; refine zg ?_
 refine nO (κ := Int) hl 3 (kc := kI) (k := s.rt) (v := .bool true) rfl rfl rfl rfl rfl rfl rfl rfl Tryz.underlying232 QV (by rfl) rfl (by simp [CO]) ?_; intro S5 hl; refine ⟨zt, ?_⟩
 rw [← lH] at hl
 refine zg ?_
 exact y1 rfl ⟨rfl, _, hO, hl.tail.tail⟩
theorem ADB {Sb S : St} (BR BM b n : Nat) (L : List It) (k : Int) (u : Nat) (M : List Int) (s : Se) {fr rest : List (Nat × AD)} (hF : Ad Sb) (hL : L.length = n) (hn : n ≤ 27) (_ : u ≤ 1000) (x : It) (hto : 0 < s.to ∧ s.to ≤ n) (Ow : nth L (s.to - 1) = some x) (hx : Jw x) (hO : DL (.slice (some ⟨b, 0, none⟩) n n) L fr) (hl : AB Sb [Sb] S (E5 BR BM (some ⟨b, 0, none⟩) n k u M fr rest) []) :
  CC Tryz.prog KK 161 [ptrTo BR 0, AM s.cells, .int .i64 4] S (fun v S' => v = .int .i64 0 ∧ ∃ AW, DL (.slice (some ⟨b, 0, none⟩) n n) (L.set (s.to - 1) { x with AS := x.AS + x.AS }) AW ∧ AB Sb [Sb] S' (E5 BR BM (some ⟨b, 0, none⟩) n k u M AW rest) []) := by
 refine ce 98 Tryz.func161 fun _ => ?_; refine zg ?_; refine bL hl fun B3 S1 hl => ?_; refine bL hl fun B4 S2 hl => ?_; refine zg ?_; refine rr rfl (Fg rfl rfl rfl) ?_; refine zg ?_; refine A4 (idx := [0, 1, 2, 3, 4, 5, 6, 7, 8, 9]) rfl aP aP ?_; refine zg ?_; refine pk rfl (Ba rfl rfl (l1 (hl.get 1 rfl) rfl)) ?_
 have ZU : ((s.to : Int) - 1).toNat = s.to - 1 := by omega
 refine zg ?_; refine A4 (idx := [0, 1, 2, 3, 4, 5, 6, 7, 8, 9, 10, 11, 12, 13, 14, 15, 16]) rfl aP aP ?_
 obtain ⟨cs, AY, Ab⟩ := hO.ld hL Ow hl (Ef (q := [_, _, _, _]))
 rw [← ZU] at Ab
 refine zg ?_; refine pk rfl (Ba rfl rfl (q4 (z := 2) (ks tt rfl) AY (PM (j := 6) Ab rfl))) ?_; refine zg ?_; refine pk rfl (Ba rfl rfl (q4 (z := 2) (ks tt rfl) AY (PM (j := 6) Ab rfl))) ?_; refine zg ?_
 refine zp hl rfl (T3 x.AS x.AS (hl.AA.3 hF) (by have := hx.AS; omega) (by have := hx.AS; omega)) ?_; rintro v S3 Al rfl hl; refine ⟨zt, ?_⟩
 refine zg ?_
 rw [← ZU] at Ow
 obtain ⟨S4, BA, DO, hO, hl⟩ := hO.set hL Ow (o := 6) (q := [_, _, _, _]) (v := tw (x.AS + x.AS)) (y := { x with AS := x.AS + x.AS }) rfl hl
 refine I9 rfl rfl rfl rfl rfl rfl DO zt ?_
 rw [ZU] at hO
 refine zg ?_
 exact y1 rfl ⟨rfl, _, hO, hl.tail.tail⟩
theorem ACt (a : Option Addr) (cap : Nat) (K : List Int) (k : Int) (hn : K.length ≤ 400) (hv : A5 S (.slice a K.length cap) K) : CC Tryz.prog KK 145 [.slice a K.length cap, .int .i64 k] S (fun v S' => AG S S' ∧ ∃ r : Int, v = .int .i64 r ∧ (0 ≤ r ↔ k ∈ K)) := by
 refine ce 19 Tryz.func145 fun hl => ?_; refine zS ?_; refine AV rfl ?_; refine zS ?_; refine BF rfl ?_; refine AK (L' := [(8, .int .i64 0), (7, .int .i64 K.length), (0, .slice a K.length cap), (1, .int .i64 k)]) sE ?_
 refine Au rfl (fun m Le S' => ∃ i : Nat, i ≤ K.length ∧ m = K.length - i ∧ (¬ k ∈ K.take i) ∧ Af [(8, .int .i64 (i : Int)), (7, .int .i64 K.length), (0, .slice a K.length cap), (1, .int .i64 k)] Le ∧ AB S [S] S' [] []) ?_ (m := K.length) ⟨0, Q1, Q1, by simp, sE, hl⟩
 clear hl; rintro m Le S' ⟨i, hi, rfl, Dx, AL, hl⟩; refine AK AL ?_
 refine zg ?_
 constructor <;> intro h9
 ·
  have AJ : i < K.length := dT h9
  obtain ⟨x, hx⟩ := Ac AJ
  obtain ⟨b1, o1, Ai, ha, _, AY, Ab⟩ := hv.elem hx
  refine zg ?_
  constructor <;> intro Cj
  ·
   have e : k = x := oTr Cj
   refine zg ?_
   refine CG (Cw (GK (CG (z1 rfl ⟨hl.AA, _, rfl, ⟨fun _ => by rw [e]; exact Am hx, fun _ => by omega⟩⟩))))
  have e : ¬ k = x := oFa Cj
  refine zg ?_
  exact ⟨K.length - (i + 1), Q1, i + 1, Q1, rfl, by rw [CJ hx]; simp [Dx, e], sE, hl⟩
 obtain rfl : i = K.length := dF h9
 rw [List.take_length] at Dx
 refine zg ?_
 exact y1 rfl ⟨hl.AA, _, rfl, ⟨fun h => absurd h Q1, fun h => absurd h Dx⟩⟩
theorem nv (a : Option Addr) (cap : Nat) (K : List Int) (k : Int) (hn : K.length ≤ 400) (hv : A5 S (.slice a K.length cap) K) : CC Tryz.prog KK 115 [.slice a K.length cap, .int .i64 k] S (fun v S' => AG S S' ∧ v = .bool (decide (k ∈ K))) := by
 refine ce 9 Tryz.func115 fun hl => ?_; refine zg ?_
 refine zc hl rfl (ACt a cap K k hn (hv.move (hl.since 0 rfl))) ?_; rintro v S1 Al ⟨r, rfl, hr⟩ hl
 refine zg ?_
 exact y1 rfl ⟨hl.AA, by simp [← hr]⟩
theorem KX {α : Type} : ∀ {l : List α} {x : α}, x ∈ l → ∃ i, nth l i = some x
 | [], _, h => (List.not_mem_nil h).elim
 | y :: l, x, h => by
  rcases List.mem_cons.1 h with rfl | h
  ·exact ⟨0, rfl⟩
  obtain ⟨i, hi⟩ := KX h
  exact ⟨i + 1, hi⟩
def Cv (x : It) : Int × Int × Bool × Bool × Bool × Int := (x.sg, x.val, x.rest, x.Cz, x.fix, x.cut)
def Jx (k : Int) (u : Nat) (x : It) : Prop := x.AS + x.AE + x.BI ≤ 1000 + (if k + 1 < x.val then 324 else 0) ∨ (x.val = k + 1 ∧ x.AS = 2 * u ∧ x.AS + x.AE + x.BI ≤ 1000 + u)
structure Bg (k : Int) (u : Nat) (L0 L : List It) : Prop where
 sh : L.map Cv = L0.map Cv
 j : ∀ x, x ∈ L → Jx k u x
 g : ∀ x, x ∈ L0 → (1 ≤ x.val ∧ x.val ≤ 8) ∧ (0 ≤ x.cut ∧ x.cut ≤ 8) ∧ (x.rest && x.Cz) = false ∧ ((x.rest || x.Cz) && !x.fix) = false
theorem Bg.len {k : Int} {u : Nat} {L0 L : List It} (h : Bg k u L0 L) : L.length = L0.length := by
 have := congrArg List.length h.sh
 simpa using this
theorem We {L0 L : List It} (h : L.map Cv = L0.map Cv) {i : Nat} {x y : It} (hx : nth L i = some x) (hy : nth L0 i = some y) : Cv x = Cv y := by
 have h1 := Dc Cv hx
 have h2 := Dc Cv hy
 rw [h] at h1
 exact Option.some.inj (h1.symm.trans h2)
theorem Bg.ok {k : Int} {u : Nat} {L0 L : List It} (h : Bg k u L0 L) (hu : u ≤ 324) : ∀ x, x ∈ L → Jw x := fun x hx => by
 obtain ⟨i, hi⟩ := KX hx
 obtain ⟨y, hy⟩ := Ac (l := L0) (i := i) (by rw [← h.len]; exact CS hi)
 have e := We h.sh hi hy
 have hg := h.g y (Am hy)
 unfold Cv at e
 simp only [Prod.mk.injEq] at e
 obtain ⟨_, e2, e3, e4, e5, e6⟩ := e
 have hj : x.AS + x.AE + x.BI ≤ 1324 := by
  rcases h.j x hx with h1 | ⟨_, _, h1⟩
  ·split at h1 <;> omega
  omega
 exact ⟨by rw [e2]; exact hg.1, by rw [e6]; exact hg.2.1, Q1, Q1, Q1, by rw [e3, e4]; exact hg.2.2.1, by rw [e3, e4, e5]; exact hg.2.2.2⟩
theorem oZ (b : Nat) : ∀ L : List It, (∀ x, x ∈ L → x.AS ≤ b) → (Ah L).sum ≤ L.length * b
 | [], _ => by simp
 | x :: L, h => by
  have h1 := h x aQ
  have h2 := oZ b L fun y hy => h y (cy hy)
  show (x.AS :: Ah L).sum ≤ _
  rw [List.sum_cons, List.length_cons, Nat.add_mul]
  omega
theorem Bg.sum {k : Int} {u : Nat} {L0 L : List It} (h : Bg k u L0 L) (hu : u ≤ 324) (hn : L.length ≤ 27) : (Ah L).sum ≤ 50000 := by
 refine Nat.le_trans (oZ 1324 L fun x hx => ?_) ?_
 ·rcases h.j x hx with h1 | ⟨_, _, h1⟩
  ·split at h1 <;> omega
  omega
 have := Nat.mul_le_mul_right 1324 hn
 omega
theorem lP {r c : Int} {f : Bool} : ∀ (T : List R3) (i : Nat), c ∈ Mq r f i T → ∃ j x, nth T j = some x ∧ c = ((i + j : Nat) : Int) ∧ (x.at_ r || (decide (c = 0) && f)) = true
 | [], _, h => (List.not_mem_nil h).elim
 | x :: T, i, h => by
  rcases List.mem_append.1 (show c ∈ (bif x.at_ r || (decide ((i : Int) = 0) && f) then [(i : Int)] else []) ++ Mq r f (i + 1) T from h) with h | h
  ·cases hc : x.at_ r || (decide ((i : Int) = 0) && f) with
   | false => rw [hc] at h; exact (List.not_mem_nil h).elim
   | true =>
    rw [hc] at h
    obtain rfl := List.mem_singleton.1 h
    exact ⟨0, x, rfl, by rw [Nat.add_zero], hc⟩
  obtain ⟨j, y, h1, h2, h3⟩ := lP T (i + 1) h
  exact ⟨j + 1, y, h1, by rw [h2, show i + (j + 1) = i + 1 + j by omega], h3⟩
theorem R3.ey {r : Int} {p : Bool} (h : (R3.mk false p false).at_ r = true) : p = true := by
 unfold R3.at_ at h
 split at h
 ·cases h
 split at h
 ·exact h
 cases h
theorem R3.ez {r : Int} {p : Bool} (h : (R3.mk false false p).at_ r = true) : p = true := by
 unfold R3.at_ at h
 split at h
 ·cases h
 split at h
 ·cases h
 exact h
theorem Z8 {L : List It} {k : Int} {u : Nat} {M : List Int} {s : Se} {c : Int} (h : c ∈ E8 L k u M s) : c = 0 ∨ (c = 1 ∧ D8 L k u M s = true) ∨ (c = 2 ∧ C6 L k u s = true) ∨ (c = 3 ∧ D8 L k u M s = true ∧ C6 L k u s = true) ∨ (c = 4 ∧ ED L k u s = true) := by
 obtain ⟨j, x, h1, h2, h3⟩ := lP _ _ h
 rw [Nat.zero_add] at h2
 match j, h1 with
 | 0, _ => exact .inl h2
 | 1, h1 =>
  cases h1
  have e : c = 1 := h2
  rw [e] at h3
  have := R3.ey (by simpa using h3)
  rw [Bool.and_eq_true] at this
  exact .inr (.inl ⟨h2, this.2⟩)
 | 2, h1 =>
  cases h1
  have e : c = 2 := h2
  rw [e] at h3
  have := R3.ey (by simpa using h3)
  rw [Bool.and_eq_true] at this
  exact .inr (.inr (.inl ⟨h2, this.2⟩))
 | 3, h1 =>
  cases h1
  have e : c = 3 := h2
  rw [e] at h3
  have := R3.ez (by simpa using h3)
  rw [Bool.and_eq_true, Bool.and_eq_true] at this
  exact .inr (.inr (.inr (.inl ⟨h2, this.2.1, this.2.2⟩)))
 | 4, h1 =>
  cases h1
  have e : c = 4 := h2
  rw [e] at h3
  have := R3.ez (by simpa using h3)
  rw [Bool.and_eq_true] at this
  exact .inr (.inr (.inr (.inr ⟨h2, this.2⟩)))
 | j + 5, h1 => cases h1
def Mg (u : Nat) (L : List It) (i : Nat) : List It := match nth L i with
 | none => L
 | some x => L.set i { x with AS := x.AS - u, BI := x.BI + u }
def PQ (u : Nat) (L : List It) (i : Nat) : List It := match nth L i with
 | none => L
 | some x => L.set i { x with AS := x.AS - u, AE := x.AE + u }
def W0 (L : List It) (i : Nat) : List It := match nth L i with
 | none => L
 | some x => L.set i { x with AS := x.AS + x.AS }
def Ky (u : Nat) (s : Se) (L : List It) (c : Int) : List It := if c = 1 then Mg u L s.lt.toNat else if c = 2 then PQ u L s.rt.toNat else if c = 3 then PQ u (Mg u L s.lt.toNat) s.rt.toNat else if c = 4 then W0 L (s.to - 1) else L
def Uo (s : Se) (M : List Int) (c : Int) : List Int := if c = 2 ∨ c = 3 then TF M s.rt else M
theorem Qi {L : List It} {k : Int} {u : Nat} {M : List Int} {s : Se} (h : D8 L k u M s = true) : 0 ≤ s.lt ∧ ∃ x, nth L s.lt.toNat = some x ∧ u < x.AS := by
 unfold D8 at h
 cases hx : nth L s.lt.toNat with
 | none => rw [hx] at h; cases h
 | some x =>
  rw [hx] at h
  simp only [Bool.and_eq_true] at h
  exact ⟨oTr h.1.1.1, x, rfl, oTr h.1.2⟩
theorem Pb {L : List It} {k : Int} {u : Nat} {s : Se} (h : C6 L k u s = true) : 0 ≤ s.rt ∧ ∃ x, nth L s.rt.toNat = some x ∧ u < x.AS := by
 unfold C6 at h
 cases hx : nth L s.rt.toNat with
 | none => rw [hx] at h; cases h
 | some x =>
  rw [hx] at h
  simp only [Bool.and_eq_true] at h
  exact ⟨oTr h.1.1.1, x, rfl, oTr h.1.2⟩
theorem XT {L : List It} {k : Int} {u : Nat} {s : Se} (h : ED L k u s = true) : s.fr ≠ s.to ∧ ∃ x, nth L (s.to - 1) = some x ∧ x.val = k + 1 ∧ x.AS = u ∧ x.fix = false ∧ x.Cz = false ∧ x.rest = false := by
 unfold ED at h
 split at h
 ·cases h
 rename_i h0
 cases hx : nth L (s.to - 1) with
 | none => rw [hx] at h; cases h
 | some x =>
  rw [hx] at h
  simp only [Bool.and_eq_true] at h
  have h1 := h.1
  unfold MR at h1
  simp only [Bool.and_eq_true] at h1
  refine ⟨fun e => h0 (by rw [decide_eq_true e]; rfl), x, rfl, oTr h1.1.2, oTr h1.2, by simpa using h1.1.1.2, by simpa using h1.1.1.1.2, by simpa using h1.1.1.1.1⟩
theorem Bg.set {k : Int} {u : Nat} {L0 L : List It} (h : Bg k u L0 L) {i : Nat} {x y : It} (hx : nth L i = some x) (hs : Cv y = Cv x) (hj : Jx k u y) : Bg k u L0 (L.set i y) := by
 refine ⟨?_, fun z hz => ?_, h.g⟩
 ·rw [← h.sh, List.map_set, hs]
  refine List.ext_getElem? fun j => ?_
  rw [List.getElem?_set]
  split
  ·rename_i e
   subst e
   have h1 := Dc Cv hx
   rw [CD] at h1
   rw [if_pos (by rw [cw]; exact CS hx), h1]
  rfl
 rcases List.mem_or_eq_of_mem_set hz with hz | rfl
 ·exact h.j z hz
 exact hj
theorem Bg.head {k : Int} {u : Nat} {L0 L : List It} (h : Bg k u L0 L) {i : Nat} {x : It} (hx : nth L i = some x) (h0 : ∃ y, nth L0 i = some y ∧ y.fix = false ∧ y.Cz = false ∧ y.val ≤ k) : x.AS + x.AE + x.BI ≤ 1000 ∧ x.val ≤ k := by
 obtain ⟨y, hy, _, _, hv⟩ := h0
 have e := We h.sh hx hy
 unfold Cv at e
 simp only [Prod.mk.injEq] at e
 have e2 := e.2.1
 rcases h.j x (Am hx) with h1 | ⟨h1, _⟩
 ·rw [if_neg Q1] at h1
  exact ⟨h1, Q1⟩
 omega
theorem Nl {α : Type} {l : List α} {i j : Nat} {y : α} (h : i ≠ j) : nth (l.set i y) j = nth l j := by rw [CD, CD, List.getElem?_set_ne h]
theorem fb {u : Nat} {s : Se} {L : List It} : Ky u s L 1 = Mg u L s.lt.toNat := rfl
theorem fc {u : Nat} {s : Se} {L : List It} : Ky u s L 2 = PQ u L s.rt.toNat := rfl
theorem Xi {u : Nat} {s : Se} {L : List It} : Ky u s L 3 = PQ u (Mg u L s.lt.toNat) s.rt.toNat := rfl
theorem Xj {u : Nat} {s : Se} {L : List It} : Ky u s L 4 = W0 L (s.to - 1) := rfl
theorem PR {u : Nat} {L : List It} {i : Nat} {x : It} (h : nth L i = some x) : Mg u L i = L.set i { x with AS := x.AS - u, BI := x.BI + u } := by unfold Mg; rw [h]
theorem UE {u : Nat} {L : List It} {i : Nat} {x : It} (h : nth L i = some x) : PQ u L i = L.set i { x with AS := x.AS - u, AE := x.AE + u } := by unfold PQ; rw [h]
theorem dO {L : List It} {i : Nat} {x : It} (h : nth L i = some x) : W0 L i = L.set i { x with AS := x.AS + x.AS } := by unfold W0; rw [h]
section
variable {k : Int} {u : Nat} {L0 L : List It} {M : List Int} {s : Se} {c : Int}
theorem Ib.ne (hs : Ib L0 k s) (h1 : 0 ≤ s.lt) (h2 : 0 ≤ s.rt) : s.lt.toNat ≠ s.rt.toNat := by
 have := (hs.lh h1).1
 have := (hs.rh h2).1
 have := hs.ok.fr
 omega
theorem Bg.post (h : Bg k u L0 L) (hs : Ib L0 k s) (h0 : 0 ≤ s.lt) {x : It} (hx : nth L s.lt.toNat = some x) (hu : u < x.AS) : Bg k u L0 (Mg u L s.lt.toNat) := by
 rw [PR hx]
 have h1 := h.head hx (hs.lh h0).2
 exact h.set hx rfl (.inl (by show x.AS - u + x.AE + (x.BI + u) ≤ _; omega))
theorem Bg.ef (h : Bg k u L0 L) (hs : Ib L0 k s) (h0 : 0 ≤ s.rt) {x : It} (hx : nth L s.rt.toNat = some x) (hu : u < x.AS) : Bg k u L0 (PQ u L s.rt.toNat) := by
 rw [UE hx]
 have h1 := h.head hx (hs.rh h0).2
 exact h.set hx rfl (.inl (by show x.AS - u + (x.AE + u) + x.BI ≤ _; omega))
theorem Xk (h : Bg k u L0 L) (hs : Ib L0 k s) (hu : 0 < u ∧ u ≤ 324) (hc : c ∈ E8 L k u M s) : Bg k u L0 (Ky u s L c) := by
 rcases Z8 hc with rfl | ⟨rfl, h1⟩ | ⟨rfl, h1⟩ | ⟨rfl, h1, h2⟩ | ⟨rfl, h1⟩
 ·exact h
 ·obtain ⟨a1, x, a2, a3⟩ := Qi h1
  exact h.post hs a1 a2 a3
 ·obtain ⟨a1, x, a2, a3⟩ := Pb h1
  exact h.ef hs a1 a2 a3
 ·obtain ⟨a1, x, a2, a3⟩ := Qi h1
  obtain ⟨b1, z, b2, b3⟩ := Pb h2
  rw [Xi]
  have h3 := h.post hs a1 a2 a3
  have RT : nth (Mg u L s.lt.toNat) s.rt.toNat = some z := by rw [PR a2, Nl (hs.ne a1 b1)]; exact b2
  exact h3.ef hs b1 RT b3
 obtain ⟨a1, x, a2, a3, a4, _⟩ := XT h1
 rw [Xj, dO a2]
 refine h.set a2 rfl (.inr ⟨a3, by show x.AS + x.AS = _; omega, ?_⟩)
 show x.AS + x.AS + x.AE + x.BI ≤ _
 rcases h.j x (Am a2) with h2 | ⟨_, h2, _⟩
 ·rw [if_neg Q1] at h2; omega
 omega
end
def EG (k : Int) (u : Nat) : List It → List Int → List Se → List Int → Option (List It × List Int)
 | L, M, _, [] => some (L, M)
 | _, _, [], _ :: _ => none
 | L, M, s :: r, c :: cs => if c ∈ E8 L k u M s then EG k u (Ky u s L c) (Uo s M c) r cs else none
theorem ON {k : Int} {u : Nat} {L : List It} {M : List Int} : ∀ N : List Se, EG k u L M N [] = some (L, M)
 | [] => by unfold EG; rfl
 | _ :: _ => by unfold EG; rfl
theorem AC7 {Sb S : St} (BR BM n : Nat) (av : Option Addr) (L0 L : List It) (k : Int) (u : Nat) (M : List Int) (s : Se) (c : Int) {fr rest : List (Nat × AD)} (hF : Ad Sb) (D6 : L0.length = n) (hn : n ≤ 27) (hu : 0 < u ∧ u ≤ 324) (hI : Bg k u L0 L) (hs : Ib L0 k s) (hc : c ∈ E8 L k u M s) (hO : DL (.slice av n n) L fr) (hl : AB Sb [Sb] S (E5 BR BM av n k u M fr rest) []) :
  CC Tryz.prog KK 161 [ptrTo BR 0, AM s.cells, .int .i64 c] S (fun v S' => v = .int .i64 0 ∧ ∃ AW, DL (.slice av n n) (Ky u s L c) AW ∧ AB Sb [Sb] S' (E5 BR BM av n k u (Uo s M c) AW rest) []) := by
 have hL : L.length = n := hI.len.trans D6
 have A3 := hI.ok hu.2
 have ZR := hs.ok
 have ha : ∀ {i : Nat} {x : It}, nth L i = some x → ∃ b, av = some ⟨b, 0, none⟩ := fun hx => OW.ne (m := n) (by unfold DL at hO; rw [hL] at hO; exact hO) (by have := CS hx; omega)
 have h1 := ZR.lt
 have h2 := ZR.rt
 rcases Z8 hc with rfl | ⟨rfl, p1⟩ | ⟨rfl, p1⟩ | ⟨rfl, p1, p2⟩ | ⟨rfl, p1⟩
 ·exact AC8 BR BM n av L k u M s hF hL hn Q1 hO hl
 ·obtain ⟨a1, x, a2, a3⟩ := Qi p1
  obtain ⟨b, rfl⟩ := ha a2
  rw [fb, PR a2]
  exact AC9 BR BM b n L k u M s hF hL hn Q1 x ⟨a1, Q1⟩ a2 (A3 x (Am a2)) Q1 hO hl
 ·obtain ⟨b1, z, b2, b3⟩ := Pb p1
  obtain ⟨b, rfl⟩ := ha b2
  rw [fc, UE b2]
  exact AC' BR BM b n L k u M s hF hL hn Q1 z ⟨b1, Q1⟩ b2 (A3 z (Am b2)) Q1 hO hl
 ·obtain ⟨a1, x, a2, a3⟩ := Qi p1
  obtain ⟨b1, z, b2, b3⟩ := Pb p2
  obtain ⟨b, rfl⟩ := ha a2
  have RT : nth (L.set s.lt.toNat { x with AS := x.AS - u, BI := x.BI + u }) s.rt.toNat = some z := by rw [Nl (hs.ne a1 b1)]; exact b2
  rw [Xi, PR a2, UE RT]
  exact ADA BR BM b n L k u M s hF hL hn Q1 x ⟨a1, Q1⟩ a2 (A3 x (Am a2)) Q1 z ⟨b1, Q1⟩ b2 (A3 z (Am b2)) Q1 (hs.ne a1 b1) hO hl
 obtain ⟨a1, x, a2, _⟩ := XT p1
 obtain ⟨b, rfl⟩ := ha a2
 have := CS a2
 have := ZR.fr
 rw [Xj, dO a2]
 exact ADB BR BM b n L k u M s hF hL hn Q1 x ⟨Q1, Q1⟩ a2 (A3 x (Am a2)) hO hl
theorem eZ {r : Int} {f : Bool} : ∀ (T : List R3) (i : Nat), (Mq r f i T).length ≤ T.length
 | [], _ => Nat.le_refl _
 | x :: T, i => by
  have h := eZ (r := r) (f := f) T (i + 1)
  show ((bif x.at_ r || (decide ((i : Int) = 0) && f) then [(i : Int)] else []) ++ Mq r f (i + 1) T).length ≤ _
  rw [ay, List.length_cons]
  cases x.at_ r || (decide ((i : Int) = 0) && f)
  ·show 0 + _ ≤ _; omega
  show 1 + _ ≤ _; omega
theorem ee {L : List It} {k : Int} {u : Nat} {M : List Int} {s : Se} : (E8 L k u M s).length ≤ 5 := eZ (Ds L k u M s) 0
theorem nH {Sb S : St} {Ts : List St} {BR BM n : Nat} {av : Option Addr} {L0 L : List It} {k : Int} {u : Nat} {M : List Int} {fr rest : List (Nat × AD)} (hI : Bg k u L0 L) (D6 : L0.length = n) (hn : n ≤ 27) (hu : 0 < u ∧ u ≤ 324) (hO : DL (.slice av n n) L fr) (hl : AB Sb Ts S (E5 BR BM av n k u M fr rest) []) : Rn S BR BM av n L k u M := by
 have hL : L.length = n := hI.len.trans D6
 have h1 := hl.at_ BR _ aQ
 have h2 := hl.at_ BM _ (cy aQ)
 refine ⟨⟨fun g => ?_⟩, ⟨fun g => (g.2 BM h2.2.2).trans h2.1⟩, ?_, Q1, Q1, hI.ok hu.2, hI.sum hu.2 Q1⟩
 ·rw [hL]; exact (g.2 BR h1.2.2).trans h1.1
 have := OW.at_ (f := It.cells) (z := 12) (fun _ => rfl) hO hl (fun p hp => List.mem_append.2 (.inr (List.mem_append.2 (.inl hp))))
 rw [hL]; exact this
theorem na {L0 L : List It} {s : Se} (h : JI L0 s) (e : L.length = L0.length) : JI L s := ⟨h.fr, by rw [e]; exact h.to, by rw [e]; exact h.lt, by rw [e]; exact h.rt⟩
theorem n6 {Sb S : St} (BR BM n : Nat) (av : Option Addr) (L0 L : List It) (k : Int) (u : Nat) (M : List Int) (N : List Se) (aS aM : Option Addr) (JL : Nat) (C : List Int) {fr fS rest : List (Nat × AD)} (hF : Ad Sb) (Bl : 0 ≤ k ∧ k ≤ 10) (D6 : L0.length = n) (hn : n ≤ 27) (hu : 0 < u ∧ u ≤ 324) (hI : Bg k u L0 L) (hN : ∀ s, s ∈ N → Ib L0 k s ∧ 0 ≤ s.cn.n) (VD : N.length ≤ 60) (hCN : C.length ≤ N.length) (hv : A5 Sb (.slice aM C.length JL) C) (hO : DL (.slice av n n) L fr) (K8 : HE aS N fS) (hm : ∀ p, p ∈ fS → p ∈ rest) (hl : AB Sb [Sb] S (E5 BR BM av n k u M fr rest) []) :
  CC Tryz.prog KK 132 [ptrTo BR 0, .slice aS N.length N.length, .slice aM C.length JL] S (fun v S' => match EG k u L M N C with
   | none => v = .bool false ∧ AG Sb S'
   | some (L', M') => v = .bool true ∧ Bg k u L0 L' ∧ ∃ AW, DL (.slice av n n) L' AW ∧ AB Sb [Sb] S' (E5 BR BM av n k u M' AW rest) []) := by
 refine ce 36 Tryz.func132 fun _ => ?_; refine zg ?_; refine rr rfl (Fg rfl rfl rfl) ?_; refine zA ?_; refine AV rfl ?_; refine zS ?_; refine BF rfl ?_
 obtain ⟨R, hR⟩ : ∃ R, R = EG k u L M N C := ⟨_, rfl⟩
 rw [← hR]
 refine AK (L' := [(14, .int .i64 (0 : Int)), (13, .int .i64 C.length), (12, .slice aM C.length JL), (7, .func (.func 161) #[ptrTo BR 0] #[]), (6, .bool false), (0, ptrTo BR 0), (1, .slice aS N.length N.length)]) sE ?_
 refine Au rfl (fun m Le S' => ∃ (i : Nat) (L : List It) (M : List Int) (fr : List (Nat × AD)), i ≤ C.length ∧ m = C.length - i ∧ Bg k u L0 L ∧ R = EG k u L M (N.drop i) (C.drop i) ∧ DL (.slice av n n) L fr ∧ Af [(14, .int .i64 (i : Int)), (13, .int .i64 C.length), (12, .slice aM C.length JL), (7, .func (.func 161) #[ptrTo BR 0] #[]), (6, .bool false), (0, ptrTo BR 0), (1, .slice aS N.length N.length)] Le ∧ AB Sb [Sb] S' (E5 BR BM av n k u M fr rest) []) ?_ (m := C.length) ⟨0, L, M, fr, Q1, Q1, hI, hR, hO, sE, hl⟩
 clear hl hO hI hR; rintro m Le S1 ⟨i, L, M, fr, hi, rfl, hI, hR, hO, AL, hl⟩; refine AK AL ?_
 refine zg ?_
 constructor <;> intro H3
 ·
  have AJ : i < C.length := dT H3
  obtain ⟨c, hc⟩ := Ac AJ
  obtain ⟨s, hs⟩ := Ac (l := N) (i := i) Q1
  obtain ⟨b1, o1, Ai, ha, _, AY, Ab⟩ := hv.elem hc
  rw [D4 hs, D4 hc] at hR
  have hR : R = if c ∈ E8 L k u M s then EG k u (Ky u s L c) (Uo s M c) (N.drop (i + 1)) (C.drop (i + 1)) else none := hR
  have MH := hN s (Am hs)
  have hL : L.length = n := hI.len.trans D6
  have Ss : AZ 248 7 Se.cells S1 (.slice aS N.length N.length) N := OW.at_ (f := Se.cells) (fun _ => rfl) K8 hl (fun p hp => List.mem_append.2 (.inr (List.mem_append.2 (.inr (hm p hp)))))
  refine zg ?_
  clear ha AY Ab
  obtain ⟨b1, o1, Ai, ha, _, AY, Ab⟩ := Ss.elem hs
  refine zg ?_
  refine zc hl rfl (n8 BR BM av n L k u M s (hl.AA.3 hF) Bl (na MH.1.ok hI.len) MH.2 (nH hI D6 hn hu hO hl)) ?_; rintro v S2 Ar ⟨aw, rfl, hg⟩ hl
  refine zg ?_
  refine zc hl rfl (nv aw _ (E8 L k u M s) c (by have := ee (L := L) (k := k) (u := u) (M := M) (s := s); omega) (AU.ls (f := ic) (fun _ => rfl) hg)) ?_; rintro v S3 Bt rfl hl
  refine rr rfl (BC rfl rfl rfl) ?_; refine zg ?_
  constructor <;> intro Gd
  ·
   have Dx : ¬ c ∈ E8 L k u M s := by simpa using Gd
   rw [if_neg Dx] at hR
   rw [hR]
   refine zg ?_
   refine Cw (CG (Cw (GK (CG ((z1 rfl ⟨rfl, hl.AA⟩))))))
  have FE : c ∈ E8 L k u M s := by simpa using Gd
  rw [if_pos FE] at hR
  have Ss : AZ 248 7 Se.cells S3 (.slice aS N.length N.length) N := OW.at_ (f := Se.cells) (fun _ => rfl) K8 hl (fun p hp => List.mem_append.2 (.inr (List.mem_append.2 (.inr (hm p hp)))))
  clear ha AY Ab
  obtain ⟨b1, o1, Ai, ha, _, AY, Ab⟩ := Ss.elem hs
  refine zg ?_
  refine Ct rfl rfl rfl rfl rfl rfl rfl (Bp (AC7 BR BM n av L0 L k u M s c hF D6 hn hu hI MH.1 FE hO hl) ?_); rintro v S4 ⟨rfl, BA, Aw, Bu⟩
  refine zg ?_
  exact ⟨C.length - (i + 1), Q1, i + 1, _, _, BA, Q1, rfl, Xk hI MH.1 hu FE, hR, Aw, sE, Bu⟩
 rw [show C.drop i = [] from List.drop_eq_nil_of_le (dF H3), ON] at hR
 rw [hR]
 refine zg ?_
 refine CK (A7 rfl rfl) ⟨rfl, hI, fr, hO, hl⟩
theorem Tt {L : List It} {u : Nat} : ∀ {Q N : List Se}, GO L u Q = some N → N.length = Q.length ∧ ∀ s, s ∈ N → 0 ≤ s.cn.n ∧ ∃ s0, s0 ∈ Q ∧ s = { s0 with cn := s.cn }
 | [], N, h => by cases h; exact ⟨rfl, fun _ h => (List.not_mem_nil h).elim⟩
 | q :: Q, N, h => by
  unfold GO at h
  cases hc : Lo L u q with
  | none => rw [hc] at h; cases h
  | some c =>
   rw [hc] at h
   simp only at h
   cases hb : !q.free && !decide (c.d = 1) with
   | true => rw [hb] at h; cases h
   | false =>
    rw [hb] at h
    simp only [cond_false] at h
    cases hr : GO L u Q with
    | none => rw [hr] at h; cases h
    | some N' =>
     rw [hr] at h
     cases h
     obtain ⟨h1, h2⟩ := Tt hr
     refine ⟨by rw [List.length_cons, List.length_cons, h1], fun s hs => ?_⟩
     rcases List.mem_cons.1 hs with rfl | hs
     ·refine ⟨?_, q, aQ, rfl⟩
      unfold Lo at hc
      split at hc
      ·cases hc; exact Int.natCast_nonneg _
      cases hc
     obtain ⟨h3, s0, h4, h5⟩ := h2 s hs
     exact ⟨h3, s0, cy h4, h5⟩
theorem Qw {L : List It} {k : Int} {u : Nat} {N : List Se} (h : Dr k u L = some N) (hn : L.length ≤ 27) : (∀ s, s ∈ N → Ib L k s ∧ 0 ≤ s.cn.n) ∧ N.length ≤ 60 := by
 obtain ⟨h1, h2⟩ := Tt h
 refine ⟨fun s hs => ?_, by rw [h1]; have := nY k L; omega⟩
 obtain ⟨h3, s0, h4, h5⟩ := h2 s hs
 have h6 := nX h4
 refine ⟨?_, h3⟩
 rw [h5]
 exact ⟨⟨h6.ok.fr, h6.ok.to, h6.ok.lt, h6.ok.rt⟩, h6.lh, h6.rh⟩
def Mp (k : Int) (u : Nat) (L : List It) (C : List Int) : Option (List Int) := match Dr k u L with
 | none => none
 | some N => if N.length ≤ C.length then none else match EG k u L [] N C with
  | none => none
  | some (L', M') => match nth N C.length with
   | none => none
   | some s => some (E8 L' k u M' s)
def Ic (k : Int) (u : Nat) (L : List It) (C : List Int) : Option (List It) := match Dr k u L with
 | none => none
 | some N => if C.length ≠ N.length then none else match EG k u L [] N C with
  | none => none
  | some (L', _) => some L'
abbrev M5 (av : Option Addr) (L : List It) : Gr := Eu 183 12 It.cells (.slice av L.length L.length) L
theorem OW.gr {v : Value} {L : List It} {fr l : List (Nat × AD)} {S0 T : St} {Ts : List St} {gs : List Gr} (h : DL v L fr) (hl : AB S0 Ts T l gs) (hm : ∀ p, p ∈ fr → p ∈ l) : AU S0 T (Eu 183 12 It.cells v L) := by
 rcases h with ⟨h1, h2, h3, _⟩ | ⟨b, dd, h1, h2, rfl, _⟩
 ·exact .inl ⟨h1, h2, h3⟩
 obtain ⟨k1, k2, k3⟩ := hl.at_ b _ (hm _ aQ)
 exact .inr ⟨b, _, h1, k2, k3, k1, h2⟩
theorem ACm (a : Option Addr) (cap : Nat) (L : List It) (p q r t : Int) (k : Int) (u : Nat) (aM : Option Addr) (JL : Nat) (C : List Int) (hu : u = Bc [p, q, r, t] (k.toNat + 1)) (hm : Ap p q r t = 0) (hk : k ∈ BK [p, q, r, t] 4) (hF : Ad S) (hn : L.length ≤ 27) (Bl : 0 ≤ k ∧ k ≤ 10) (Db : 0 < u ∧ u ≤ 324) (hI : Bg k u L L) (hv : E4 S (.slice a L.length cap) L) (hC : A5 S (.slice aM C.length JL) C) : CC Tryz.prog KK 129 [mV [p, q, r, t], .int .i64 k, .slice a L.length cap, .slice aM C.length JL] S (fun v S' => AG S S' ∧ match Mp k u L C with
  | none => ∃ e, v = AN [.slice none 0 0, .int .i64 e]
  | some X => ∃ av, v = AN [.slice av X.length X.length, .int .i64 0] ∧ AU S S' (gN av X)) := by
 unfold Mp
 refine ce 43 Tryz.func129 fun hl => ?_; refine zg ?_; refine bL hl fun B4 S4 hl => ?_; refine zg ?_; refine Ct rfl rfl rfl rfl rfl rfl rfl (Bp (n5 a cap L p q r t k u hu hm hk (hl.AA.3 hF) hn ⟨Db.1, Q1⟩ (hI.ok Db.2) (hI.sum Db.2 hn) (hv.move (hl.since 0 rfl))) ?_); intro v S5 CM
 cases hE : Dr k u L with
 | none =>
  rw [hE] at CM
  obtain ⟨FZ, w, rfl⟩ := CM
  have hl := hl.call FZ
  refine zg ?_
  exact (z2 rfl rfl ⟨hl.AA, _, rfl⟩)
 | some N =>
  rw [hE] at CM
  obtain ⟨BR, BM, av, fr, aS, fS, rfl, hO, K8, hb⟩ := CM
  obtain ⟨hN, VD⟩ := Qw hE hn
  have hl : AB S [S] S5 (E5 BR BM av L.length k u [] fr (fS ++ [(B4, .cells (AP (mV [p, q, r, t])) 28 false true [])])) [] := (hl.join hb).perm (List.perm_append_comm.trans (.of_eq (by simp only [E5, List.append_assoc])))
  have Va : ∀ x, x ∈ fS → x ∈ fS ++ [(B4, AD.cells (AP (mV [p, q, r, t])) 28 false true [])] := fun x hx => List.mem_append.2 (.inl hx)
  refine zg ?_; refine BH (d := 29) rfl (fun DG => ?_) (fun DG => ?_)
  ·
   have hle : N.length ≤ C.length := dT DG
   simp only [if_pos hle]
   refine zg ?_
   exact (z2 rfl rfl ⟨hl.AA, _, rfl⟩)
  have Y3 : ¬ N.length ≤ C.length := dF DG
  have hle : C.length ≤ N.length := by omega
  simp only [if_neg Y3]
  refine zg ?_; refine Ct rfl rfl rfl rfl rfl rfl rfl (Bp (n6 BR BM L.length av L L k u [] N aS aM JL C hF Bl rfl hn Db hI hN VD hle hC hO K8 Va hl) ?_); intro v S6 CM
  cases hW : EG k u L [] N C with
  | none =>
   rw [hW] at CM
   obtain ⟨rfl, G6⟩ := CM
   refine rr rfl (BC rfl rfl rfl) ?_; refine zg ?_
   exact (z2 rfl rfl ⟨G6, _, rfl⟩)
  | some x =>
   obtain ⟨L', M'⟩ := x
   rw [hW] at CM
   obtain ⟨rfl, P5, BA, Aw, hl⟩ := CM
   refine rr rfl (BC rfl rfl rfl) ?_
   obtain ⟨s, hs⟩ := Ac (l := N) (i := C.length) Q1
   simp only [hs]
   have MH := hN s (Am hs)
   have Ss : AZ 248 7 Se.cells S6 (.slice aS N.length N.length) N := OW.at_ (f := Se.cells) (fun _ => rfl) K8 hl (fun p hp => List.mem_append.2 (.inr (List.mem_append.2 (.inr (Va p hp)))))
   obtain ⟨b1, o1, Ai, ha, _, AY, Ab⟩ := Ss.elem hs
   refine zg ?_
   refine zc hl rfl (n8 BR BM av L.length L' k u M' s (hl.AA.3 hF) Bl (na MH.1.ok P5.len) MH.2 (nH P5 rfl hn Db Aw hl)) ?_; rintro v S7 NQ ⟨aw, rfl, hg⟩ wX
   refine zg ?_
   exact y2 rfl rfl ⟨wX.AA, aw, rfl, AU.base hg hl.AA.1⟩
theorem ACc (a : Option Addr) (cap : Nat) (L : List It) (p q r t : Int) (k : Int) (u : Nat) (aM : Option Addr) (JL : Nat) (C : List Int) (hu : u = Bc [p, q, r, t] (k.toNat + 1)) (hm : Ap p q r t = 0) (hk : k ∈ BK [p, q, r, t] 4) (hF : Ad S) (hn : L.length ≤ 27) (Bl : 0 ≤ k ∧ k ≤ 10) (Db : 0 < u ∧ u ≤ 324) (hI : Bg k u L L) (hv : E4 S (.slice a L.length cap) L) (hC : A5 S (.slice aM C.length JL) C) : CC Tryz.prog KK 106 [mV [p, q, r, t], .int .i64 k, .slice a L.length cap, .slice aM C.length JL] S (fun v S' => AG S S' ∧ match Ic k u L C with
  | none => ∃ e, v = AN [.slice none 0 0, .int .i64 e]
  | some X => ∃ av, v = AN [.slice av X.length X.length, .int .i64 0] ∧ AU S S' (M5 av X)) := by
 unfold Ic
 refine ce 41 Tryz.func106 fun hl => ?_; refine zg ?_; refine bL hl fun B4 S4 hl => ?_; refine zg ?_; refine Ct rfl rfl rfl rfl rfl rfl rfl (Bp (n5 a cap L p q r t k u hu hm hk (hl.AA.3 hF) hn ⟨Db.1, Q1⟩ (hI.ok Db.2) (hI.sum Db.2 hn) (hv.move (hl.since 0 rfl))) ?_); intro v S5 CM
 cases hE : Dr k u L with
 | none =>
  rw [hE] at CM
  obtain ⟨FZ, w, rfl⟩ := CM
  have hl := hl.call FZ
  refine zg ?_
  exact (z2 rfl rfl ⟨hl.AA, _, rfl⟩)
 | some N =>
  rw [hE] at CM
  obtain ⟨BR, BM, av, fr, aS, fS, rfl, hO, K8, hb⟩ := CM
  obtain ⟨hN, VD⟩ := Qw hE hn
  have hl : AB S [S] S5 (E5 BR BM av L.length k u [] fr (fS ++ [(B4, .cells (AP (mV [p, q, r, t])) 28 false true [])])) [] := (hl.join hb).perm (List.perm_append_comm.trans (.of_eq (by simp only [E5, List.append_assoc])))
  have Va : ∀ x, x ∈ fS → x ∈ fS ++ [(B4, AD.cells (AP (mV [p, q, r, t])) 28 false true [])] := fun x hx => List.mem_append.2 (.inl hx)
  refine zg ?_; refine BH (d := 29) rfl (fun DG => ?_) (fun DG => ?_)
  ·
   have hle : C.length ≠ N.length := by have DG : (!((C.length : Int) == (N.length : Int))) = true := DG; intro e; rw [e] at DG; simp at DG
   simp only [if_pos hle]
   refine zg ?_
   exact (z2 rfl rfl ⟨hl.AA, _, rfl⟩)
  have Y3 : C.length = N.length := by
   have DG : (!((C.length : Int) == (N.length : Int))) = false := DG
   have : (C.length : Int) = N.length := by simpa using DG
   omega
  have hle : C.length ≤ N.length := by omega
  have wc : ¬ C.length ≠ N.length := fun h => h Y3
  simp only [if_neg wc]
  refine zg ?_; refine Ct rfl rfl rfl rfl rfl rfl rfl (Bp (n6 BR BM L.length av L L k u [] N aS aM JL C hF Bl rfl hn Db hI hN VD hle hC hO K8 Va hl) ?_); intro v S6 CM
  cases hW : EG k u L [] N C with
  | none =>
   rw [hW] at CM
   obtain ⟨rfl, G6⟩ := CM
   refine rr rfl (BC rfl rfl rfl) ?_; refine zg ?_
   exact (z2 rfl rfl ⟨G6, _, rfl⟩)
  | some x =>
   obtain ⟨L', M'⟩ := x
   rw [hW] at CM
   obtain ⟨rfl, P5, BA, Aw, hl⟩ := CM
   refine rr rfl (BC rfl rfl rfl) ?_; refine zg ?_
   have hg := Aw.gr hl (fun p hp => List.mem_append.2 (.inr (List.mem_append.2 (.inl hp))))
   have e := P5.len
   rw [← e] at hg
   rw [← e]
   exact y2 rfl rfl ⟨hl.AA, av, rfl, hg⟩
structure Pt where
 aL : Option Addr
 cL : Nat
 aC : Option Addr
 cC : Nat
 aD : Option Addr
 cD : Nat
 L : List It
 C : List Int
 D : List Int
def Pt.cells (x : Pt) : List Value := [.slice x.aL x.L.length x.cL, .slice x.aC x.C.length x.cC, .slice x.aD x.D.length x.cD]
structure Pt.Ok (S : St) (x : Pt) : Prop where
 l : E4 S (.slice x.aL x.L.length x.cL) x.L
 c : A5 S (.slice x.aC x.C.length x.cC) x.C
 d : A5 S (.slice x.aD x.D.length x.cD) x.D
theorem Pt.Ok.move {S T : St} {x : Pt} (h : x.Ok S) (hk : RK S T) : x.Ok T := ⟨h.l.move hk, h.c.move hk, h.d.move hk⟩
abbrev IY := AZ 162 3 Pt.cells
abbrev Jz (av : Option Addr) (O : List Pt) (fr : List (Nat × AD)) : Prop := OW (.slice av O.length O.length) 162 3 ((O.map Pt.cells).flatten) O.length fr
theorem ACo (x : Pt) (c : Int) (hn : x.C.length ≤ 300) (hx : x.Ok S) : CC Tryz.prog KK 130 [AM x.cells, .int .i64 c] S (fun v S' => AG S S' ∧ ∃ y : Pt, v = AM y.cells ∧ y.Ok S' ∧ y.L = x.L ∧ y.C = x.C ++ [c] ∧ y.D = x.D) := by
 refine ce 13 Tryz.func130 fun hl => ?_; refine zg ?_; refine bL hl fun B2 S2 hl => ?_; refine aL hl [.slice none 0 0, .slice none 0 0, .slice none 0 0] fun B4 S4 hl => ?_; refine zg ?_
 refine zc hl rfl (T4 x.aC x.cC x.C Q1 (hx.c.move (hl.since 0 rfl))) ?_; have DT := hl; rintro v S5 Al ⟨av, rfl, hg⟩ hl
 have hl := hl.EP (AU.base hg DT.AA.1)
 refine zg ?_; refine dL hl (ic c) Tryz.underlying22 fun B9 S6 Iv hl => ?_; refine DX hl 0 rfl rfl (by simp) rfl rfl rfl rfl rfl rfl rfl Tryz.underlying22 Tryz.underlying22 rfl rfl aP (Bf (new := ic c) Iv rfl) rfl rfl aP (by show x.C.length + 1 ≤ AQ; unfold AQ; omega) ?_; intro v10 S7 hl
 obtain ⟨AT, rfl⟩ : ∃ y, v10 = .slice y (x.C.length + 1) (x.C.length + 1) := AU.is (hl.gr _ aQ)
 refine zg ?_; refine sL hl 1 [.slice x.aL x.L.length x.cL, .slice AT (x.C.length + 1) (x.C.length + 1), .slice x.aD x.D.length x.cD] fun S8 hl => ?_; refine zg ?_; refine sL hl 0 [.slice x.aL x.L.length x.cL, .slice AT (x.C.length + 1) (x.C.length + 1), .slice x.aD x.D.length x.cD] fun S9 hl => ?_; refine zg ?_
 have e : (x.C ++ [c]).length = x.C.length + 1 := by rw [ay]; rfl
 have SQ := hl.gr _ aQ
 have hI : A5 S9 (.slice AT (x.C ++ [c]).length (x.C.length + 1)) (x.C ++ [c]) := by
  have h2 : AU S S9 (gN AT (x.C ++ [c])) := by rw [gN, EH]; exact SQ
  have := AU.ls (f := ic) (fun _ => rfl) h2
  rw [e] at this ⊢
  exact this
 refine CK (D9 rfl (lN (z := 3) (hl.get 0 rfl) rfl) rfl) ⟨hl.AA, ⟨x.aL, x.cL, AT, x.C.length + 1, x.aD, x.cD, x.L, x.C ++ [c], x.D⟩, ?_, ⟨hx.l.move (hl.since 0 rfl), hI, hx.d.move (hl.since 0 rfl)⟩, rfl, rfl, rfl⟩
 unfold Pt.cells
 simp only [e]
 rfl
def Jp (k : Int) (u : Nat) (x : Pt) : Bool := (Dr k u x.L).isSome
def KW (k : Int) (u : Nat) (P : List Pt) : Nat := P.foldl (fun m x => match Dr k u x.L with
 | some N => N.length
 | none => m) 0
theorem lK (k : Int) (u : Nat) (P : List Pt) (x : Pt) : KW k u (P ++ [x]) = match Dr k u x.L with
  | some N => N.length
  | none => KW k u P := by unfold KW; rw [List.foldl_append]; rfl
theorem ACZ (a : Option Addr) (cap : Nat) (P : List Pt) (p q r t : Int) (k : Int) (u : Nat) (hu : u = Bc [p, q, r, t] (k.toNat + 1)) (hm : Ap p q r t = 0) (hk : k ∈ BK [p, q, r, t] 4) (hF : Ad S) (Db : 0 < u ∧ u ≤ 324) (hP : P.length ≤ 5000) (hI : ∀ x, x ∈ P → Bg k u x.L x.L ∧ x.L.length ≤ 27) (hv : IY S (.slice a P.length cap) P) (A3 : ∀ x, x ∈ P → x.Ok S) : CC Tryz.prog KK 103 [mV [p, q, r, t], .int .i64 k, .slice a P.length cap] S (fun v S' => ∃ av fr, v = AN [.slice av (P.filter (Jp k u)).length (P.filter (Jp k u)).length, .int .i64 (KW k u P : Nat)] ∧ Jz av (P.filter (Jp k u)) fr ∧ AB S [S] S' fr []) := by
 refine ce 39 Tryz.func103 fun hl => ?_; refine zg ?_; refine bL hl fun B3 S3 hl => ?_; refine zA ?_; iterate 2 refine zS ?_
 refine AV rfl ?_; refine zS ?_; refine BF rfl ?_
 have hl : AB S [S] S3 ([(B3, .cells (AP (mV [p, q, r, t])) 28 false true [])] ++ ([] ++ [])) [] := hl
 refine AK (L' := [(16, .int .i64 (0 : Int)), (15, .int .i64 P.length), (14, .slice a P.length cap), (9, .int .i64 (0 : Nat)), (8, .slice none ([] : List Pt).length ([] : List Pt).length), (7, .int .i64 0), (6, .slice none 0 0), (3, ptrTo B3 0), (1, .int .i64 k)]) sE ?_
 refine Au rfl (fun m Le S' => ∃ (i : Nat) (av : Option Addr) (O : List Pt) (w : Nat) (fr : List (Nat × AD)), i ≤ P.length ∧ m = P.length - i ∧ O = (P.take i).filter (Jp k u) ∧ w = KW k u (P.take i) ∧ Jz av O fr ∧ Af [(16, .int .i64 (i : Int)), (15, .int .i64 P.length), (14, .slice a P.length cap), (9, .int .i64 (w : Nat)), (8, .slice av O.length O.length), (7, .int .i64 0), (6, .slice none 0 0), (3, ptrTo B3 0), (1, .int .i64 k)] Le ∧ AB S [S] S' ([(B3, .cells (AP (mV [p, q, r, t])) 28 false true [])] ++ (fr ++ [])) []) ?_ (m := P.length) ⟨0, none, [], 0, [], Q1, Q1, rfl, rfl, .inl ⟨rfl, rfl, rfl, rfl⟩, sE, hl⟩
 clear hl; rintro m Le S4 ⟨i, av, O, w, fr, hi, rfl, hO, hw, K9, AL, hl⟩; refine AK AL ?_
 refine zg ?_
 constructor <;> intro HR
 ·
  have AJ : i < P.length := dT HR
  obtain ⟨x, hx⟩ := Ac AJ
  have DN : O.length ≤ i := by rw [hO]; refine Nat.le_trans (List.length_filter_le ..) ?_; rw [List.length_take]; omega
  have KR := hI x (Am hx)
  obtain ⟨b1, o1, Ai, ha, _, AY, Ab⟩ := hv.elem hx
  refine zg ?_; refine aL hl [.slice none 0 0, .slice none 0 0, .slice none 0 0] fun Dg D3 hl => ?_; refine sL hl 0 x.cells fun Ep hl => ?_; refine zg ?_; refine Ct rfl rfl rfl rfl rfl rfl rfl (Bp (nz x.aL x.cL x.L p q r t k u hu hm hk (hl.AA.3 hF) KR.2 ⟨Db.1, Q1⟩ (KR.1.ok Db.2) (KR.1.sum Db.2 KR.2) ((A3 x (Am hx)).l.move (hl.since 0 rfl))) ?_); intro v S5 CM
  cases hE : Dr k u x.L with
  | none =>
   rw [hE] at CM
   obtain ⟨FZ, rfl⟩ := CM
   have hl := hl.call FZ
   have ZQ : Jp k u x = false := by unfold Jp; rw [hE]; rfl
   refine zg ?_
   refine ⟨P.length - (i + 1), Q1, i + 1, av, O, w, fr, Q1, rfl, ?_, ?_, K9, sE, hl.tail⟩
   ·rw [CJ hx, List.filter_append, ← hO, List.filter_cons_of_neg (by rw [ZQ]; decide)]; simp
   rw [CJ hx, lK, hE]; exact hw
  | some N =>
   rw [hE] at CM
   obtain ⟨aS, fS, rfl, K8, hb⟩ := CM
   have hl := hl.call hb.AA
   have ZQ : Jp k u x = true := by unfold Jp; rw [hE]; rfl
   have hl : AB S [S] S5 ([(Dg, .cells x.cells 162 false true []), (B3, .cells (AP (mV [p, q, r, t])) 28 false true [])] ++ (fr ++ [])) [] := hl
   refine zg ?_; refine dL hl x.cells Tryz.underlying163 fun Km EC xU hl => ?_; refine HB hl K9 rfl rfl rfl rfl rfl rfl rfl Tryz.underlying163 Tryz.underlying163 rfl rfl (by decide) aP (Bf (new := x.cells) xU rfl) rfl rfl aP (by show O.length + 1 ≤ AQ; unfold AQ; omega) ?_; intro v33 BA E6 Aw hl
   obtain ⟨AT, rfl⟩ := Aw.is
   refine zg ?_
   refine ⟨P.length - (i + 1), Q1, i + 1, AT, O ++ [x], N.length, BA, Q1, rfl, ?_, ?_, Aw.push, ⟨rfl, rfl, rfl, rfl, congrArg some (congrArg (fun n => Value.slice AT n n) (by rw [ay]; rfl)), rfl, rfl, rfl, rfl, trivial⟩, hl.tail⟩
   ·rw [CJ hx, List.filter_append, ← hO, List.filter_cons_of_pos ZQ]; rfl
   rw [CJ hx, lK, hE]
 obtain rfl : i = P.length := dF HR
 rw [List.take_length] at hO hw
 subst hO; subst hw
 refine zg ?_
 refine y2 rfl rfl ⟨av, fr, rfl, K9, ?_⟩
 rw [← List.append_nil fr]
 exact hl.tail
theorem ACb (a : Option Addr) (n cap : Nat) (p q r t : Int) (k : Int) : CC Tryz.prog KK 105 [mV [p, q, r, t], .int .i64 k, .slice a n cap] S (fun v S' => AG S S' ∧ ∃ e5 e3 e4, v = .func (.func 128) #[] #[ptrTo e5 0, ptrTo e3 0, ptrTo e4 0] ∧ At S' e5 (.cells [.slice a n cap] 163 false true []) ∧ At S' e3 (.cells (AP (mV [p, q, r, t])) 28 false true []) ∧ At S' e4 (.cells [.int .i64 k] 3 false true [])) := by
 refine ce 8 Tryz.func105 fun hl => ?_; refine zg ?_; refine bL hl fun B3 S3 hl => ?_; refine bL hl fun B4 S4 hl => ?_; refine bL hl fun B5 S5 hl => ?_; refine zg ?_; refine rr rfl (Fg rfl rfl rfl) ?_; refine zg ?_
 have h5 := hl.at_ _ _ (Am (k := 0) rfl)
 have h4 := hl.at_ _ _ (Am (k := 1) rfl)
 have h3 := hl.at_ _ _ (Am (k := 2) rfl)
 exact y1 rfl ⟨hl.AA, B5, B3, B4, rfl, ⟨fun g => (g.2 _ h5.2.2).trans h5.1⟩, ⟨fun g => (g.2 _ h3.2.2).trans h3.1⟩, ⟨fun g => (g.2 _ h4.2.2).trans h4.1⟩⟩
noncomputable def GM : Code := pA (pB (pA (pB (cb Tryz.f127))))
structure Fp where
 lb : Nat
 db : Nat
 b2 : Nat
 t : Tm
noncomputable def Fp.l (z : Fp) (av : Option Addr) (n : Nat) : List (Nat × AD) := [(z.b2, .cells [.slice av n n] 163 false true []), (z.lb, .loop .ready none 13 z.t (BO GM) (BL GM) (BN GM) z.db), (z.db, .defs false)]
theorem ABz {Sb S : St} {Ts : List St} (z : Fp) (hz : Has 13 ⟨13, z.t, []⟩ [(2, ptrTo z.b2 0)]) {own fr : List (Nat × AD)} {av : Option Addr} {O : List Pt} (x : Pt) (hn : O.length ≤ 30000) (hO : Jz av O fr) (hl : AB Sb Ts S (own ++ (z.l av O.length ++ fr)) []) :
  CT Tryz.prog KK (.fn (.yield z.lb) #[]) [AM x.cells] S fun v S' => v = .returned (.bool true) ∧ ∃ DR AW, Jz DR (O ++ [x]) AW ∧ AB Sb Ts S' (own ++ (z.l DR (O ++ [x]).length ++ AW)) [] := by
 have hl := hl.perm (List.perm_append_comm.trans (.of_eq (List.append_assoc ..)))
 refine Lq (hl.get 1 rfl) hz rfl rfl ?_; refine zg ?_; refine aL hl [.slice none 0 0, .slice none 0 0, .slice none 0 0] fun B5 S1 hl => ?_; refine sL hl 0 x.cells fun S2 hl => ?_; refine zg ?_
 refine ⟨rfl, _, _, _, _, _, _, _, hl.get 2 rfl, ?_⟩
 have hl := hl.put (k := 2) rfl rfl (.loop .busy none 13 z.t (BO GM) (BL GM) (BN GM) z.db)
 have hl : AB Sb Ts _ ([(B5, .cells x.cells 162 false true []), (z.b2, .cells [.slice av O.length O.length] 163 false true []), (z.lb, .loop .busy none 13 z.t (BO GM) (BL GM) (BN GM) z.db), (z.db, .defs false)] ++ (fr ++ own)) [] := hl
 refine zg ?_; refine dL hl x.cells Tryz.underlying163 fun Hn S3 Oj hl => ?_; refine HB hl hO rfl rfl rfl rfl rfl rfl rfl Tryz.underlying163 Tryz.underlying163 rfl rfl (by decide) aP (Bf (new := x.cells) Oj rfl) rfl rfl aP (by show O.length + 1 ≤ AQ; unfold AQ; omega) ?_; intro v11 BA S4 Aw hl
 obtain ⟨AT, rfl⟩ := Aw.is
 refine sL hl 1 [.slice AT (O.length + 1) (O.length + 1)] fun S5 hl => ?_; refine zg ?_
 refine ⟨_, _, _, _, _, _, _, _, hl.get 2 rfl, rfl, AT, BA, Aw.push, ?_⟩
 have hl := (hl.put (k := 2) rfl rfl (.loop .ready none 13 z.t (BO GM) (BL GM) (BN GM) z.db)).tail
 rw [show (O ++ [x]).length = O.length + 1 by rw [ay]; rfl]
 refine AB.perm ?_ (List.perm_append_comm (l₂ := own))
 refine AB.perm ?_ (.of_eq (List.append_assoc ..).symm)
 exact hl
abbrev Pt.Av (x : Pt) : List It × List Int × List Int := (x.L, x.C, x.D)
def GX (k : Int) (u : Nat) (d : List It × List Int × List Int) : List (List It × List Int × List Int) := ((Mp k u d.1 d.2.1).getD []).map fun c => (d.1, d.2.1 ++ [c], d.2.2)
theorem qB {k : Int} {u : Nat} {L : List It} {C : List Int} : ((Mp k u L C).getD []).length ≤ 5 := by
 unfold Mp
 split
 ·exact Nat.zero_le _
 split
 ·exact Nat.zero_le _
 split
 ·exact Nat.zero_le _
 split
 ·exact Nat.zero_le _
 exact ee
theorem ACl {Sb S : St} (z : Fp) (hz : Has 13 ⟨13, z.t, []⟩ [(2, ptrTo z.b2 0)]) (a : Option Addr) (cap : Nat) (P : List Pt) (p q r t : Int) (k : Int) (u : Nat) (hu : u = Bc [p, q, r, t] (k.toNat + 1)) (hm : Ap p q r t = 0) (hk : k ∈ BK [p, q, r, t] 4) (Bl : 0 ≤ k ∧ k ≤ 10) (Db : 0 < u ∧ u ≤ 324) (hP : P.length ≤ 5000) (hI : ∀ x, x ∈ P → (Bg k u x.L x.L ∧ x.L.length ≤ 27) ∧ x.C.length ≤ 200) (e5 e3 e4 : Nat) (h5 : At Sb e5 (.cells [.slice a P.length cap] 163 false true [])) (h3 : At Sb e3 (.cells (AP (mV [p, q, r, t])) 28 false true [])) (h4 : At Sb e4 (.cells [.int .i64 k] 3 false true [])) (hF : Ad Sb) (hv : IY Sb (.slice a P.length cap) P) (A3 : ∀ x, x ∈ P → x.Ok Sb) (hl : AB Sb [Sb] S (z.l none ([] : List Pt).length ++ []) []) :
  CC Tryz.prog KK 128 [.func (.yield z.lb) #[] #[], ptrTo e5 0, ptrTo e3 0, ptrTo e4 0] S (fun v S' => v = AN [] ∧ ∃ av O fr, Jz av O fr ∧ O.map Pt.Av = (P.map Pt.Av).flatMap (GX k u) ∧ O.length ≤ 5 * P.length ∧ (∀ y, y ∈ O → y.Ok S') ∧ AB Sb [Sb] S' (z.l av O.length ++ fr) []) := by
 refine ce 41 Tryz.func128 fun _ => ?_
 have hd := h5
 refine zS ?_
 clear hd
 refine BF rfl ?_; refine AK (L' := [(13, .int .i64 (0 : Int)), (12, .int .i64 P.length), (11, .slice a P.length cap), (0, .func (.yield z.lb) #[] #[]), (1, ptrTo e5 0), (2, ptrTo e3 0), (3, ptrTo e4 0)]) sE ?_
 refine Au rfl (fun m Le S' => ∃ (i : Nat) (av : Option Addr) (O : List Pt) (fr : List (Nat × AD)), i ≤ P.length ∧ m = P.length - i ∧ O.map Pt.Av = ((P.take i).map Pt.Av).flatMap (GX k u) ∧ O.length ≤ 5 * i ∧ (∀ y, y ∈ O → y.Ok S') ∧ Jz av O fr ∧ Af [(13, .int .i64 (i : Int)), (12, .int .i64 P.length), (11, .slice a P.length cap), (0, .func (.yield z.lb) #[] #[]), (1, ptrTo e5 0), (2, ptrTo e3 0), (3, ptrTo e4 0)] Le ∧ AB Sb [Sb] S' (z.l av O.length ++ fr) []) ?_ (m := P.length) ⟨0, none, [], [], Q1, Q1, rfl, by show 0 ≤ _; omega, fun _ h => (List.not_mem_nil h).elim, .inl ⟨rfl, rfl, rfl, rfl⟩, sE, hl⟩
 clear hl; rintro m Le S1 ⟨i, av, O, fr, hi, rfl, hO, DN, JU, K9, AL, hl⟩; refine AK AL ?_
 refine zg ?_
 constructor <;> intro EI
 ·
  have AJ : i < P.length := dT EI
  obtain ⟨x, hx⟩ := Ac AJ
  have KR := hI x (Am hx)
  have Nc := A3 x (Am hx)
  obtain ⟨b1, o1, Ai, ha, _, AY, Ab⟩ := hv.elem hx
  have hl := hl.mark
  refine zg ?_; refine aL hl [.slice none 0 0, .slice none 0 0, .slice none 0 0] fun B6 S2 hl => ?_; refine sL hl 0 x.cells fun S3 hl => ?_
  have hd := h3
  refine zg ?_
  clear hd; have hd := h4
  refine zg ?_
  clear hd
  refine zc hl rfl (ACm x.aL x.cL x.L p q r t k u x.aC x.cC x.C hu hm hk (hl.AA.3 hF) KR.1.2 Bl Db KR.1.1 (Nc.l.move (hl.since 1 rfl)) (Nc.c.move (hl.since 1 rfl))) ?_; rintro v S5 FZ CM hl
  obtain ⟨aw, Pl, X, e, rfl, OY, hX⟩ : ∃ aw Pl X e, v = AN [.slice aw X.length Pl, .int .i64 e] ∧ A5 S5 (.slice aw X.length Pl) X ∧ X = (Mp k u x.L x.C).getD [] := by
   cases hA : Mp k u x.L x.C with
   | none => rw [hA] at CM; obtain ⟨e, rfl⟩ := CM; exact ⟨none, 0, [], e, rfl, AZ.nil, rfl⟩
   | some X => rw [hA] at CM; obtain ⟨aw, rfl, hg⟩ := CM; exact ⟨aw, X.length, X, 0, rfl, AU.ls (f := ic) (fun _ => rfl) hg, rfl⟩
  have hX5 : X.length ≤ 5 := by rw [hX]; exact qB
  have im : ∀ y, y ∈ O → y.Ok S5 := fun y hy => (JU y hy).move (hl.since 0 rfl)
  have hl := hl.marks (Us := [Sb]) fun T hT => cy hT
  clear ha AY Ab
  refine zA ?_; refine zS ?_; refine BF rfl ?_
  have hl : AB Sb [Sb] S5 ([(B6, .cells x.cells 162 false true [])] ++ (z.l av O.length ++ fr)) [] := hl
  refine AK (L' := [(29, .int .i64 (0 : Int)), (28, .int .i64 X.length), (27, .slice aw X.length Pl), (6, ptrTo B6 0), (13, .int .i64 (i : Int)), (12, .int .i64 P.length), (11, .slice a P.length cap), (0, .func (.yield z.lb) #[] #[]), (1, ptrTo e5 0), (2, ptrTo e3 0), (3, ptrTo e4 0)]) sE ?_
  refine Au rfl (fun m Le S' => ∃ (j : Nat) (av : Option Addr) (O2 : List Pt) (fr : List (Nat × AD)), j ≤ X.length ∧ m = X.length - j ∧ O2.map Pt.Av = O.map Pt.Av ++ (X.take j).map (fun c => (x.L, x.C ++ [c], x.D)) ∧ O2.length ≤ O.length + j ∧ (∀ y, y ∈ O2 → y.Ok S') ∧ A5 S' (.slice aw X.length Pl) X ∧ Jz av O2 fr ∧ Af [(29, .int .i64 (j : Int)), (28, .int .i64 X.length), (27, .slice aw X.length Pl), (6, ptrTo B6 0), (13, .int .i64 (i : Int)), (12, .int .i64 P.length), (11, .slice a P.length cap), (0, .func (.yield z.lb) #[] #[]), (1, ptrTo e5 0), (2, ptrTo e3 0), (3, ptrTo e4 0)] Le ∧ AB Sb [Sb] S' ([(B6, .cells x.cells 162 false true [])] ++ (z.l av O2.length ++ fr)) []) ?_ (m := X.length) ⟨0, av, O, fr, Q1, Q1, by simp, Q1, im, OY, K9, sE, hl⟩
  clear hl OY im; clear K9 JU; rintro m Le S6 ⟨j, av, O2, fr, hj, rfl, Aw, AFq, JU, OY, K9, AL, hl⟩; refine AK AL ?_
  refine zg ?_
  constructor <;> intro FU
  ·
   have Y5 : j < X.length := dT FU
   obtain ⟨c, hc⟩ := Ac Y5
   obtain ⟨b1, o1, Ai, ha, _, AY, Ab⟩ := OY.elem hc
   have hl := hl.mark
   refine zg ?_
   refine zc hl rfl (ACo x c Q1 (Nc.move (hl.since 1 rfl))) ?_; rintro v S7 NQ ⟨y, rfl, hy, yO, Zi, yP⟩ hl
   have hl := hl.mark
   refine I8 rfl rfl rfl rfl rfl rfl rfl (Es (ABz z hz (own := [(B6, .cells x.cells 162 false true [])]) y Q1 K9 hl) ?_)
   rintro w S8 ⟨rfl, AT, BA, uz, hl⟩
   show RE Tryz.prog KK 41 _ _ _ S8 _
   refine rr rfl (BC rfl rfl rfl) ?_; refine zg ?_
   refine ⟨X.length - (j + 1), Q1, j + 1, AT, O2 ++ [y], BA, Q1, rfl, ?_, by rw [ay]; show O2.length + 1 ≤ _; omega, fun y' IB => ?_, OY.move (hl.since 1 rfl), uz, sE, hl.marks (Us := [Sb]) fun T hT => cy (cy hT)⟩
   ·rw [mAp, Aw, CJ hc, mAp, List.append_assoc]
    show _ ++ (_ ++ [(y.L, y.C, y.D)]) = _
    rw [yO, Zi, yP]
    rfl
   rcases List.mem_append.1 IB with h | h
   ·exact (JU y' h).move (hl.since 1 rfl)
   rw [List.mem_singleton.1 h]; exact hy.move (hl.since 0 rfl)
  obtain rfl : j = X.length := dF FU
  rw [List.take_length] at Aw
  refine zg ?_
  refine ⟨P.length - (i + 1), Q1, i + 1, av, O2, fr, Q1, rfl, ?_, Q1, JU, K9, sE, hl.tail⟩
  rw [Aw, hO, CJ hx, mAp, List.flatMap_append]
  congr 1
  show _ = GX k u x.Av ++ []
  rw [List.append_nil, hX]
  rfl
 obtain rfl : i = P.length := dF EI
 rw [List.take_length] at hO
 refine zg ?_
 show Fm Tryz.prog Tryz.f128.results.toList (fun v S' => v = AN [] ∧ ∃ av O fr, Jz av O fr ∧ O.map Pt.Av = (P.map Pt.Av).flatMap (GX k u) ∧ O.length ≤ 5 * P.length ∧ (∀ y, y ∈ O → y.Ok S') ∧ AB Sb [Sb] S' (z.l av O.length ++ fr) []) .normal _ S1
 exact Gy rfl ⟨rfl, av, O, fr, K9, hO, DN, JU, hl⟩
theorem ACk (a : Option Addr) (cap : Nat) (P : List Pt) (p q r t : Int) (k : Int) (u : Nat) (hu : u = Bc [p, q, r, t] (k.toNat + 1)) (hm : Ap p q r t = 0) (hk : k ∈ BK [p, q, r, t] 4) (Bl : 0 ≤ k ∧ k ≤ 10) (Db : 0 < u ∧ u ≤ 324) (hP : P.length ≤ 5000) (hI : ∀ x, x ∈ P → (Bg k u x.L x.L ∧ x.L.length ≤ 27) ∧ x.C.length ≤ 200) (e5 e3 e4 : Nat) (h5 : At S e5 (.cells [.slice a P.length cap] 163 false true [])) (h3 : At S e3 (.cells (AP (mV [p, q, r, t])) 28 false true [])) (h4 : At S e4 (.cells [.int .i64 k] 3 false true [])) (hF : Ad S) (hv : IY S (.slice a P.length cap) P) (A3 : ∀ x, x ∈ P → x.Ok S) : CC Tryz.prog KK 127 [.slice none 0 0, .func (.func 128) #[] #[ptrTo e5 0, ptrTo e3 0, ptrTo e4 0]] S (fun v S' => ∃ av O fr, v = .slice av O.length O.length ∧ Jz av O fr ∧ O.map Pt.Av = (P.map Pt.Av).flatMap (GX k u) ∧ O.length ≤ 5 * P.length ∧ (∀ y, y ∈ O → y.Ok S') ∧ AB S [S] S' fr []) := by
 refine cm 13 Tryz.func127 fun hl => ?_; refine BX rfl (BE ?_); refine zg ?_; refine bL hl fun B2 S2 hl => ?_; refine zg ?_; refine BX rfl ?_; refine BX rfl (BE ?_); refine zg ?_; refine Kl rfl (Mh rfl rfl rfl aP ?_)
 intro t1 ht
 have ht := ht.sub (L' := [(2, ptrTo B2 0)]) sE
 have hl := (hl.new (.defs false)).new (.loop .ready none 13 t1 (BO GM) (BL GM) (BN GM) S2.size)
 let z : Fp := ⟨S2.size + 1, S2.size, B2, t1⟩
 have hl := hl.perm (l' := z.l none 0 ++ []) (by
  show List.Perm [_, _, _] [_, _, _]
  exact List.perm_append_comm (l₁ := [_, _]) (l₂ := [_]))
 refine Es (Lp (Mu (ACl z ht a cap P p q r t k u hu hm hk Bl Db hP hI e5 e3 e4 h5 h3 h4 hF hv A3 hl))) ?_
 clear hl
 rintro w S8 ⟨v, rfl, rfl, av, O, fr, hO, hD, DN, JU, hl⟩
 refine ⟨_, _, _, _, _, _, _, _, hl.get 1 rfl, rfl, ?_⟩
 have hl := (hl.mark).put (k := 1) rfl rfl (.loop .exhausted none 13 t1 (BO GM) (BL GM) (BN GM) S2.size)
 refine BX rfl (BE ?_); refine zg ?_; refine BE (Mi rfl ?_)
 have Fy := hl.get 2 rfl
 have hl := hl.put (k := 2) rfl rfl (.defs true)
 exact ⟨_, _, PN Fy, A7 rfl rfl, av, O, fr, rfl, hO, hD, DN, fun y hy => (JU y hy).move (hl.since 0 rfl), (hl.marks (Us := [S]) fun T hT => cy hT).tail.tail.tail⟩
theorem ACa (a : Option Addr) (cap : Nat) (P : List Pt) (p q r t : Int) (k : Int) (u : Nat) (hu : u = Bc [p, q, r, t] (k.toNat + 1)) (hm : Ap p q r t = 0) (hk : k ∈ BK [p, q, r, t] 4) (Bl : 0 ≤ k ∧ k ≤ 10) (Db : 0 < u ∧ u ≤ 324) (hP : P.length ≤ 5000) (hI : ∀ x, x ∈ P → (Bg k u x.L x.L ∧ x.L.length ≤ 27) ∧ x.C.length ≤ 200) (e5 e3 e4 : Nat) (h5 : At S e5 (.cells [.slice a P.length cap] 163 false true [])) (h3 : At S e3 (.cells (AP (mV [p, q, r, t])) 28 false true [])) (h4 : At S e4 (.cells [.int .i64 k] 3 false true [])) (hF : Ad S) (hv : IY S (.slice a P.length cap) P) (A3 : ∀ x, x ∈ P → x.Ok S) : CC Tryz.prog KK 104 [.func (.func 128) #[] #[ptrTo e5 0, ptrTo e3 0, ptrTo e4 0]] S (fun v S' => ∃ av O fr, v = .slice av O.length O.length ∧ Jz av O fr ∧ O.map Pt.Av = (P.map Pt.Av).flatMap (GX k u) ∧ O.length ≤ 5 * P.length ∧ (∀ y, y ∈ O → y.Ok S') ∧ AB S [S] S' fr []) := by
 refine ce 5 Tryz.func104 fun hl => ?_; refine zg ?_
 refine Ct rfl rfl rfl rfl rfl rfl rfl (Bp (ACk a cap P p q r t k u hu hm hk Bl Db hP hI e5 e3 e4 h5 h3 h4 hF hv A3) ?_); rintro v S1 ⟨av, O, fr, rfl, hO, hD, DN, JU, hl⟩
 refine zg ?_
 exact y1 rfl ⟨av, O, fr, rfl, hO, hD, DN, JU, hl⟩
abbrev Du (av : Option Addr) (C : List Int) (fr : List (Nat × AD)) : Prop := OW (.slice av C.length C.length) 3 1 ((C.map ic).flatten) C.length fr
theorem oO (a : Option Addr) (cap : Nat) (L : List Int) (hn : L.length ≤ 400) (hv : A5 S (.slice a L.length cap) L) : CC Tryz.prog KK 87 [.slice a L.length cap] S (fun v S' => AG S S' ∧ ∃ av fr, v = .slice av L.length L.length ∧ Du av L fr ∧ AB S [S] S' fr []) := by
 refine ce 8 Tryz.func87 fun hl => ?_; refine zg ?_; refine rr rfl (Ff rfl rfl rfl (eq_nil Tryz.underlying22)) ?_; refine zg ?_
 constructor <;> intro h4
 ·
  obtain rfl := Vs hv h4
  refine zg ?_
  exact (z1 rfl ⟨hl.AA, none, [], rfl, .inl ⟨rfl, rfl, rfl, rfl⟩, hl⟩)
 refine zg ?_; refine bG hl rfl rfl rfl rfl rfl Tryz.underlying22 rfl (c := []) aP ?_; intro B5 S1 hl; refine zg ?_
 obtain ⟨aw, tl, S2, h1, h2, h3⟩ := en (P := Tryz.prog) hl (ts := #[22, 22]) (x := .slice a L.length cap) rfl Tryz.underlying22 Tryz.underlying22 rfl rfl aP (hv.move (hl.since 0 rfl)).cells (Da (f := ic) (z := 1) (fun _ => rfl) _) (K6 (f := ic) (fun _ => rfl) _) aP (by show L.length ≤ AQ; unfold AQ; omega)
 refine Kf rfl rfl rfl rfl rfl rfl rfl h1 ?_; refine zg ?_
 have hO : Du aw L tl := by
  rcases h2 with ⟨B0, e1, e2, rfl, rfl⟩ | ⟨B, B0, _, rfl, rfl⟩
  ·unfold Du; rw [e2, e1]; exact .inr ⟨B0, [], rfl, (Nat.zero_mul _).symm, rfl, fun _ h => (List.not_mem_nil h).elim⟩
  exact .inr ⟨B, [(B0, .cells [] 3 true false [])], rfl, Da (f := ic) (z := 1) (fun _ => rfl) _, rfl, fun p hp => by rw [List.mem_singleton.1 hp]; exact ⟨_, _, _, rfl⟩⟩
 refine y1 rfl ⟨h3.AA, aw, tl, rfl, hO, ?_⟩
 rw [← List.append_nil tl]
 exact h3
end Go.Proofs.YtnhalpkekpehpaaGreatDoor
