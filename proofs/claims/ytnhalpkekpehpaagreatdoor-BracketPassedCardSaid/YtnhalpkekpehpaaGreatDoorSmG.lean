/-
  slices.Grow, Concat.
-/
import Derived.Test.YtnhalpkekpehpaaGreatDoorSmF
import Derived.Test.YtnhalpkekpehpaaGreatDoorSy2
import Derived.Test.YtnhalpkekpehpaaGreatDoorSmA
namespace Go.Proofs.YtnhalpkekpehpaaGreatDoor
open Go.Cm Go
set_option maxRecDepth 100000
variable {S : St}
theorem bz {α : Type} : ∀ (p a b r : List α), a.length = b.length → BJ p.length a (p ++ (b ++ r)) = some (p ++ (a ++ r))
 | [], [], [], r, _ => by unfold BJ; rfl
 | [], x :: a, y :: b, r, h => by
  have ih := bz [] a b r (by simpa using h)
  rw [List.length_nil, List.nil_append, List.nil_append] at ih
  show BJ 0 (x :: a) (y :: (b ++ r)) = some (x :: (a ++ r))
  unfold BJ
  rw [ih]
 | [], [], _ :: _, _, h => by cases h
 | [], _ :: _, [], _, h => by cases h
 | z :: p, [], b, r, h => by
  obtain rfl : b = [] := List.length_eq_zero_iff.1 h.symm
  unfold BJ
  rfl
 | z :: p, x :: a, b, r, h => by
  have ih := bz p (x :: a) b r h
  show BJ (p.length + 1) (x :: a) (z :: (p ++ (b ++ r))) = some (z :: (p ++ ((x :: a) ++ r)))
  unfold BJ
  rw [ih]
theorem sH {b n : Nat} {c : List Value} {ks : List Nat} (hg : S.get b = some (.cells c 4 true true ks)) : Fi Tryz.prog 44 (.slice (some ⟨b, 0, none⟩) n n) none (some (.int .i64 0)) none S = some (.slice (some ⟨b, 0, none⟩) 0 n) := by
 unfold Fi
 have hz : A0 Tryz.prog 4 = some 1 := by kernel_rfl
 simp only [Tryz.underlying44, hz, Jn, hg]
 simp [GV, Hj]
theorem qM {n : Nat} (hn : 0 < n) (FH : n ≤ 1000) {ts : Array TypeId} (Bv : ts.toList = [44, 3]) : Dj Tryz.prog .append ts.toList [.slice none 0 0, .int .i64 (n : Int)] S = some (.slice (some ⟨S.size, 0, none⟩) n n, (S.new (.cells (Dp n [.bool false]) 4 true true [])).2) := by
 unfold Dj
 simp only
 have h1 : E9 Tryz.prog ts.toList (.slice none 0 0) (.int .i64 (n : Int)) S = none := by
  unfold E9
  rw [Bv]
  simp only [Tryz.underlying44, Tryz.underlying3]
  rfl
 rw [h1]
 unfold Ub
 rw [Bv]
 have hz : A0 Tryz.prog 4 = some 1 := by kernel_rfl
 have KS : zeroV Tryz.prog 4 = some (.bool false) := by kernel_rfl
 have hg : KB Tryz.prog 4 1 n = true := Rv aP (by unfold AQ; omega)
 have hb : Nat.blt 0 n = true := by rw [Nat.blt_eq]; exact hn
 show (match Tryz.prog.underlying 44, Tryz.prog.underlying 3 with
  | some (.slice elem), some (.int _) => match A0 Tryz.prog elem, zeroV Tryz.prog elem with
   | some size, some z => bif Nat.blt 0 n && KB Tryz.prog elem size n then some (LQ S (Dp n (AP z)) elem n n) else none
   | _, _ => none
  | _, _ => none) = _
 simp only [Tryz.underlying44, Tryz.underlying3, hz, KS, hg, hb]
 rfl
theorem ADs (n : Nat) (hn : n ≤ 1000) : CC Tryz.prog KK 42 [.slice none 0 0, .int .i64 (n : Int)] S (fun v S' => (n = 0 ∧ v = .slice none 0 0 ∧ AB S [S] S' [] []) ∨ ∃ B, v = .slice (some ⟨B, 0, none⟩) 0 n ∧ AB S [S] S' [(B, .cells (((fs n).map bc).flatten) 4 true true [])] []) := by
 refine ce 27 Tryz.func42 fun hl => ?_; refine zg ?_; refine Kf (v := .int .i64 0) rfl rfl rfl rfl rfl rfl rfl rfl ?_; refine zg ?_
 constructor <;> intro Cj
 ·
  have D6 : 0 < n := dT Cj
  refine zg ?_; refine Kf (v := .int .i64 0) rfl rfl rfl rfl rfl rfl rfl rfl ?_; refine zg ?_; refine rr rfl (LX (v := .slice none 0 0) rfl rfl rfl rfl rfl rfl) ?_; refine zg ?_
  rw [show (n : Int) - (0 - ((0 : Nat) : Int)) = (n : Int) by omega]
  refine Kf rfl rfl rfl rfl rfl rfl rfl (qM D6 hn rfl) ?_
  have hl := hl.new (.cells (Dp n [.bool false]) 4 true true [])
  refine zg ?_; refine rr rfl (LX rfl rfl rfl rfl rfl (sH (hl.get 0 rfl))) ?_; refine zg ?_
  refine y1 rfl (.inr ⟨_, rfl, ?_⟩)
  rw [YF]
  exact hl
 have D6 : n = 0 := dF Cj
 refine zg ?_
 exact y1 rfl (.inl ⟨D6, rfl, hl⟩)
structure Bs where
 aB : Option Addr
 D : List Bool
 aH : Option Addr
 H : List Int
def Bs.c1 (w : Bs) : List Value := [.slice w.aB w.D.length w.D.length]
def Bs.c2 (w : Bs) : List Value := [.slice w.aH w.H.length w.H.length]
def Bs.Av (w : Bs) : List Bool × List Int := (w.D, w.H)
def Bs.Ok (S : St) (w : Bs) : Prop := Kp S (.slice w.aB w.D.length w.D.length) w.D ∧ A5 S (.slice w.aH w.H.length w.H.length) w.H
theorem Bs.Ok.move {S T : St} {w : Bs} (h : w.Ok S) (hk : RK S T) : w.Ok T := ⟨AZ.move hk h.1, AZ.move hk h.2⟩
abbrev dk := AZ 44 1 Bs.c1
abbrev dm := AZ 22 1 Bs.c2
def En (W : List Bs) : Nat := (W.map fun w => w.D.length).sum
def FR (W : List Bs) : List Bool := W.flatMap Bs.D
theorem fX (W : List Bs) : (FR W).length = En W := by unfold FR En; rw [List.length_flatMap]
theorem RA (W : List Bs) (i : Nat) : En (W.take i) ≤ En W := by
 unfold En
 rw [List.map_take]
 conv => rhs; rw [← List.take_append_drop i (W.map fun w => w.D.length)]
 rw [List.sum_append]
 exact Nat.le_add_right ..
theorem dE {W : List Bs} {i : Nat} {w : Bs} (h : nth W i = some w) : En (W.take (i + 1)) = En (W.take i) + w.D.length := by
 unfold En
 rw [CJ h, mAp, List.sum_append]
 simp
theorem sX {W : List Bs} {i : Nat} {w : Bs} (h : nth W i = some w) : FR (W.take (i + 1)) = FR (W.take i) ++ w.D := by
 unfold FR
 rw [CJ h, List.flatMap_append]
 simp
theorem uL (m n : Nat) : fs (m + n) = fs m ++ fs n := by unfold fs; rw [List.replicate_append_replicate]
theorem qO {B cap : Nat} {C E : List Bool} {x : Value} {ts : Array TypeId} {l : List (Nat × AD)} {S0 : St} (Bv : ts.toList = [44, 44]) (hl : AB S0 [S0] S ((B, .cells (((C ++ fs (cap - C.length)).map bc).flatten) 4 true true []) :: l) []) (hlen : Gp x = some E.length) (hs : El S 1 E.length x = some ((E.map bc).flatten)) (hc : C.length + E.length ≤ cap) :
  ∃ S', Dj Tryz.prog .append ts.toList [.slice (some ⟨B, 0, none⟩) C.length cap, x] S = some (.slice (some ⟨B, 0, none⟩) (C ++ E).length cap, S') ∧ AB S0 [S0] S' ((B, .cells ((((C ++ E) ++ fs (cap - (C ++ E).length)).map bc).flatten) 4 true true []) :: l) [] := by
 have hz : A0 Tryz.prog 4 = some 1 := by kernel_rfl
 have hb : Nat.ble (C.length + E.length) cap = true := Nat.ble_eq_true_of_le hc
 have CI : ((E.map bc).flatten).length = E.length := (Da (f := bc) (z := 1) (fun _ => rfl) E).trans (Nat.mul_one _)
 have Cd : ((C.map bc).flatten).length = C.length := (Da (f := bc) (z := 1) (fun _ => rfl) C).trans (Nat.mul_one _)
 have hg := hl.get 0 rfl
 have e1 : C ++ fs (cap - C.length) = C ++ (fs E.length ++ fs (cap - (C ++ E).length)) := by
  rw [← uL, ay]
  congr 2
  omega
 have jd : E9 Tryz.prog ts.toList (.slice (some ⟨B, 0, none⟩) C.length cap) x S = OD Tryz.prog (some ⟨B, 0, none⟩) C.length E.length cap 1 ((E.map bc).flatten) S := by
  unfold E9
  rw [Bv]
  have hi : F3 (.slice 4) = false := rfl
  simp only [Tryz.underlying44, hlen, hi, hz, hs, cond_false]
  unfold F9
  rw [hb]
  rfl
 cases E with
 | nil =>
  refine ⟨S, ?_, by rw [List.append_nil]; exact hl⟩
  unfold Dj
  simp only
  rw [jd, List.append_nil]
  rfl
 | cons x0 E0 =>
  generalize hE : x0 :: E0 = E at *
  have Oi : 0 < E.length := by rw [← hE]; show 0 < E0.length + 1; omega
  obtain ⟨r, hr⟩ : ∃ r, r = cap - (C ++ E).length := ⟨_, rfl⟩
  rw [← hr] at e1 ⊢
  have hm : AB S0 [S0] (S.set B (.cells ((((C ++ E) ++ fs r).map bc).flatten) 4 true true [])) ((B, .cells ((((C ++ E) ++ fs r).map bc).flatten) 4 true true []) :: l) [] := hl.Qk (k := 0) rfl (hl.old (k := 0) rfl) _
  refine ⟨_, ?_, hm⟩
  have GF : BJ (0 + C.length * 1) ((E.map bc).flatten) (((C ++ fs (cap - C.length)).map bc).flatten) = some ((((C ++ E) ++ fs r).map bc).flatten) := by
   rw [e1, Nat.zero_add, Nat.mul_one, mAp, mAp, List.flatten_append, List.flatten_append, List.append_assoc C E, mAp, mAp, List.flatten_append, List.flatten_append]
   have h := bz ((C.map bc).flatten) ((E.map bc).flatten) (((fs E.length).map bc).flatten) (((fs r).map bc).flatten) (by rw [CI, Da (f := bc) (z := 1) (fun _ => rfl), U7, Nat.mul_one])
   rw [Cd] at h
   exact h
  have Dm : (((E.map bc).flatten).all E') = true := K6 (fun _ => rfl) _
  have hw : JE S B (0 + C.length * 1) ((E.map bc).flatten) = some (S.set B (.cells ((((C ++ E) ++ fs r).map bc).flatten) 4 true true [])) := by
   unfold JE
   rw [hg]
   have CB : Nat.blt 0 ((E.map bc).flatten).length = true := by rw [Nat.blt_eq, CI]; exact Oi
   simp only [Dm, CB, GF, Bool.and_self, cond_true]
   rfl
  have F2 : Nat.beq ((E.map bc).flatten).length 0 = false := by
   rw [CI]
   cases h : Nat.beq E.length 0 with
   | false => rfl
   | true => have := Nat.eq_of_beq_eq_true h; omega
  unfold Dj
  simp only
  rw [jd]
  unfold OD
  simp only [F2, hw, cond_false]
  rw [ay]
theorem ADf (aS : Option Addr) (cS : Nat) (W : List Bs) (hW : W.length ≤ 400) (ht : En W ≤ 1000) (hv : dk S (.slice aS W.length cS) W) (A3 : ∀ w, w ∈ W → w.Ok S) : CC Tryz.prog KK 25 [.slice aS W.length cS] S (fun v S' => AG S S' ∧ ∃ av, v = .slice av (FR W).length (FR W).length ∧ Kp S' (.slice av (FR W).length (FR W).length) (FR W)) := by
 refine ce 36 Tryz.func25 fun hl => ?_; refine zg ?_; refine AK (L' := [(11, .int .i64 (0 : Int)), (10, .int .i64 W.length), (9, .slice aS W.length cS), (3, .int .i64 (0 : Nat)), (2, .slice none 0 0), (0, .slice aS W.length cS)]) sE ?_
 refine Au rfl (fun m Le S' => ∃ i : Nat, i ≤ W.length ∧ m = W.length - i ∧ Af [(11, .int .i64 (i : Int)), (10, .int .i64 W.length), (9, .slice aS W.length cS), (3, .int .i64 (En (W.take i) : Nat)), (2, .slice none 0 0), (0, .slice aS W.length cS)] Le ∧ AB S [S] S' [] []) ?_ (m := W.length) ⟨0, Q1, Q1, sE, hl⟩
 clear hl; rintro m Le S' ⟨i, hi, rfl, AL, hl⟩; refine AK AL ?_
 have ZT := RA W i
 refine zg ?_
 constructor <;> intro CL
 ·
  have AJ : i < W.length := dT CL
  obtain ⟨w, hw⟩ := Ac AJ
  obtain ⟨b1, o1, Ai, ha, _, AY, Ab⟩ := hv.elem hw
  have e := dE hw
  have x8 := RA W (i + 1)
  refine zg ?_
  exact ⟨W.length - (i + 1), Q1, i + 1, Q1, rfl, ⟨rfl, rfl, rfl, (by rw [e]; rfl), rfl, rfl, trivial⟩, hl⟩
 obtain rfl : i = W.length := dF CL
 rw [List.take_length]
 refine zg ?_
 refine Ct rfl rfl rfl rfl rfl rfl rfl (Bp (ADs (En W) ht) ?_); rintro v S2 BY
 have Ag : ((En W = 0 ∧ v = .slice none 0 0 ∧ AB S [S] S2 [] []) ∨ ∃ B, v = .slice (some ⟨B, 0, none⟩) ([] : List Bool).length (En W) ∧ AB S [S] S2 [(B, .cells (((([] : List Bool) ++ fs (En W - (([] : List Bool)).length)).map bc).flatten) 4 true true [])] []) := by
  rcases BY with ⟨h1, h2, h3⟩ | ⟨B, h2, h3⟩
  ·exact .inl ⟨h1, h2, hl.join h3⟩
  exact .inr ⟨B, h2, hl.join h3⟩
 clear BY hl
 refine zg ?_; refine AK (L' := [(27, .int .i64 (0 : Int)), (26, .int .i64 W.length), (25, .slice aS W.length cS), (6, v), (2, .slice none 0 0)]) sE ?_
 refine Au rfl (fun m Le S' => ∃ (i : Nat) (v : Value), i ≤ W.length ∧ m = W.length - i ∧ ((En W = 0 ∧ v = .slice none 0 0 ∧ AB S [S] S' [] []) ∨ ∃ B, v = .slice (some ⟨B, 0, none⟩) (FR (W.take i)).length (En W) ∧ AB S [S] S' [(B, .cells (((FR (W.take i) ++ fs (En W - (FR (W.take i)).length)).map bc).flatten) 4 true true [])] []) ∧ Af [(27, .int .i64 (i : Int)), (26, .int .i64 W.length), (25, .slice aS W.length cS), (6, v), (2, .slice none 0 0)] Le) ?_ (m := W.length) ⟨0, v, Q1, Q1, Ag, sE⟩
 clear Ag; rintro m Le S3 ⟨i, v, hi, rfl, Ag, AL⟩; refine AK AL ?_
 have ZT := RA W i
 refine zg ?_
 constructor <;> intro M9
 ·
  have AJ : i < W.length := dT M9
  obtain ⟨w, hw⟩ := Ac AJ
  obtain ⟨b1, o1, Ai, ha, _, AY, Ab⟩ := hv.elem hw
  have e := dE hw
  have x8 := RA W (i + 1)
  have ec := sX hw
  have KQ := (A3 w (Am hw)).1
  rcases Ag with ⟨h0, rfl, hl⟩ | ⟨B, rfl, hl⟩
  ·
   have hD : w.D = [] := List.length_eq_zero_iff.1 Q1
   refine zg ?_
   have Cd := (AZ.move (hl.since 0 rfl) KQ).cells
   rw [hD] at Cd
   rw [show w.D.length = 0 by rw [hD]; rfl]
   refine Kf rfl rfl rfl rfl rfl rfl rfl (eg (.inl rfl) rfl Tryz.underlying44 Tryz.underlying44 rfl rfl aP Cd) ?_; refine zg ?_
   exact ⟨W.length - (i + 1), Q1, i + 1, .slice none 0 0, Q1, rfl, .inl ⟨h0, rfl, hl⟩, sE⟩
  refine zg ?_
  obtain ⟨S4, vL, Of⟩ := qO (C := FR (W.take i)) (E := w.D) (cap := En W) (x := .slice w.aB w.D.length w.D.length) (ts := #[44, 44]) rfl hl rfl (AZ.move (hl.since 0 rfl) KQ).cells (by rw [fX]; omega)
  refine Kf rfl rfl rfl rfl rfl rfl rfl vL ?_; refine zg ?_
  rw [← ec] at Of ⊢
  exact ⟨W.length - (i + 1), Q1, i + 1, _, Q1, rfl, .inr ⟨B, rfl, Of⟩, sE⟩
 obtain rfl : i = W.length := dF M9
 rw [List.take_length] at Ag
 have Cd := fX W
 rcases Ag with ⟨h0, rfl, hl⟩ | ⟨B, rfl, hl⟩
 ·
  have hD : FR W = [] := List.length_eq_zero_iff.1 Q1
  rw [hD]
  refine zg ?_
  exact y1 rfl ⟨hl.AA, none, rfl, AZ.nil⟩
 rw [← Cd, Nat.sub_self] at hl
 have hl : AB S [S] S3 [(B, .cells (((FR W).map bc).flatten) 4 true true [])] [] := by
  have e : FR W ++ fs 0 = FR W := List.append_nil _
  rw [e] at hl
  exact hl
 have hb := hl.at_ B _ aQ
 rw [← Cd]
 refine zg ?_
 exact y1 rfl ⟨hl.AA, _, rfl, AZ.row (f := bc) (fun _ => rfl) ⟨hb.2.2, true, [], hb.1⟩ rfl⟩
end Go.Proofs.YtnhalpkekpehpaaGreatDoor
namespace Go.Proofs.YtnhalpkekpehpaaGreatDoor
open Go.Cm Go
set_option maxRecDepth 100000
variable {S : St}
variable {nm : ByteArray} [Nonempty (GR nm)]
theorem uP (av : Option Addr) (E : List Nt) : gE av E = gR av (E.map Prod.snd) := by
 unfold gE gR Eu
 rw [cw, List.map_map]
 rfl
theorem uQ (av : Option Addr) (E : List Nt) : gF av E = gN av (E.map DV) := by
 unfold gF gN Eu
 rw [cw, List.map_map]
 rfl
theorem WW : ∀ (C : List Sg) (i : Nat) (cur : List Nt), ((Bw C i cur).map List.length).sum = cur.length + C7 C
 | [], i, cur => by
  cases cur with
  | nil => rfl
  | cons e l => rfl
 | s :: r, i, cur => by
  have h1 := WW r (i + 1) (cur ++ [(i, s)])
  have h2 := WW r (i + 1) []
  have h3 := WW r (i + 1) cur
  have hc : C7 (s :: r) = (if nd s then 1 else 0) + C7 r := by
   unfold C7
   rw [List.filter_cons]
   show (if nd s = true then _ else _ : List Sg).length = _
   cases nd s
   ·show (r.filter _).length = 0 + _; omega
   show (r.filter _).length + 1 = 1 + _; omega
  rw [hc]
  unfold Bw
  cases nd s
  ·cases CV s.kind == 3
   ·show ((Bw r (i + 1) cur).map List.length).sum = cur.length + (0 + C7 r)
    omega
   show (((bif cur.isEmpty then [] else [cur]) ++ Bw r (i + 1) []).map List.length).sum = cur.length + (0 + C7 r)
   rw [mAp, List.sum_append, h2]
   cases cur with
   | nil => show 0 + (0 + C7 r) = 0 + (0 + C7 r); omega
   | cons e l => show ((e :: l).length + 0) + (0 + C7 r) = _; omega
  show ((Bw r (i + 1) (cur ++ [(i, s)])).map List.length).sum = cur.length + (1 + C7 r)
  rw [h1, ay]
  show cur.length + 1 + _ = _
  omega
theorem Wa (C : List Sg) : ((A2 C).map List.length).sum = C7 C := by
 have h := WW C 0 []
 rw [List.length_nil, Nat.zero_add] at h
 exact h
theorem oa : ∀ {L : List Nat} {x : Nat}, x ∈ L → x ≤ L.sum
 | y :: L, x, h => by
  rw [List.sum_cons]
  rcases List.mem_cons.1 h with rfl | h
  ·omega
  have := oa h; omega
theorem ft {C : List Sg} {cur : List Nt} (h : cur ∈ A2 C) : cur.length ≤ C7 C := by
 rw [← Wa C]
 exact oa (List.mem_map.2 ⟨cur, h, rfl⟩)
def FD (cur : List Nt) : List Int := (cur.filter fun e => !(e.2.kind == 3)).map DV
def Cu (M : List Int) (t : Int) : List (List Nt) → Option (List (List Bool × List Int))
 | [] => some []
 | cur :: P => match FA M t (cur.map Prod.snd) with
  | none => none
  | some D => (Cu M t P).map ((D, FD cur) :: ·)
theorem PF {M : List Int} {t : Int} {cur : List Nt} {P : List (List Nt)} (h : FA M t (cur.map Prod.snd) = none) : Cu M t (cur :: P) = none := by
 show (match FA M t (cur.map Prod.snd) with
  | none => none
  | some D => (Cu M t P).map ((D, FD cur) :: ·)) = _
 rw [h]
theorem PG {M : List Int} {t : Int} {cur : List Nt} {P : List (List Nt)} {D : List Bool} (h : FA M t (cur.map Prod.snd) = some D) : Cu M t (cur :: P) = (Cu M t P).map ((D, FD cur) :: ·) := by
 show (match FA M t (cur.map Prod.snd) with
  | none => none
  | some D => (Cu M t P).map ((D, FD cur) :: ·)) = _
 rw [h]
theorem vw {cur : List Nt} {j : Nat} {e : Nt} (h : nth cur j = some e) : FD (cur.take (j + 1)) = FD (cur.take j) ++ (bif e.2.kind == 3 then [] else [DV e]) := by
 unfold FD
 rw [CJ h, List.filter_append, mAp]
 congr 1
 rw [List.filter_cons]
 cases e.2.kind == 3 <;> rfl
theorem vu (cur : List Nt) : (FD cur).length ≤ cur.length := by
 unfold FD
 rw [cw]
 exact List.length_filter_le ..
abbrev Rs (av : Option Addr) (W : List Bs) : Gr := Eu 44 1 Bs.c1 (.slice av W.length W.length) W
abbrev Rt (av : Option Addr) (W : List Bs) : Gr := Eu 22 1 Bs.c2 (.slice av W.length W.length) W
theorem oH (a : Option Addr) (cap : Nat) (C : List Sg) (p q r t : Int) (hn : C.length ≤ 60) (hm : Ap p q r t = 0) (hX : CA p q r t C) (hG : Gl S) (Cq : Gc S) (Dk : Gh S) (hF : Ad S) (hv : Bh S (.slice a C.length cap) C) (CL : C7 C ≤ 12) : CC Tryz.prog KK 24 [AM [.string nm, .slice a C.length cap]] S (fun v S' => AG S S' ∧ match Cu [p, q, r, t] t (A2 C) with
  | none => v = AN [.slice none 0 0, .slice none 0 0, .int .i64 14]
  | some L => ∃ aS aA W, v = AN [.slice aS W.length W.length, .slice aA W.length W.length, .int .i64 0] ∧ W.map Bs.Av = L ∧ dk S' (.slice aS W.length W.length) W ∧ dm S' (.slice aA W.length W.length) W ∧ ∀ w, w ∈ W → w.Ok S') := by
 refine ce 82 Tryz.func24 fun hl => ?_; refine zg ?_; refine bL hl fun B1 S1 hl => ?_; refine zg ?_
 refine zc hl rfl (cc a cap C p q r t hn hm hX (hG.AA hl.AA) (Cq.AA hl.AA) (hl.AA.3 hF) (hv.move (hl.since 0 rfl))) ?_; rintro v S2 Al ⟨av, rfl, wD⟩ hl
 have QP : AZ 90 8 (IN p q r t) S2 (.slice av (A2 C).length (A2 C).length) (A2 C) := AU.ls (f := IN p q r t) (fun _ => rfl) wD
 have So := Wb C
 have hl := hl.mark
 obtain ⟨L9, iY⟩ : ∃ L9, L9 = Cu [p, q, r, t] t (A2 C) := ⟨_, rfl⟩
 rw [← iY]
 refine zg ?_
 have hl := (hl.EP (g := Rs none []) (.inl ⟨rfl, rfl, rfl⟩)).EP (g := Rt none []) (.inl ⟨rfl, rfl, rfl⟩)
 refine AK (L' := [(28, .int .i64 (0 : Int)), (27, .int .i64 (A2 C).length), (26, .slice av (A2 C).length (A2 C).length), (8, .slice none ([] : List Bs).length ([] : List Bs).length), (7, .slice none ([] : List Bs).length ([] : List Bs).length), (1, ptrTo B1 0), (2, .slice none 0 0), (3, .slice none 0 0), (4, .int .i64 0)]) sE ?_
 refine Au rfl (fun m Le S' => ∃ (k : Nat) (aS aA : Option Addr) (W : List Bs), k ≤ (A2 C).length ∧ m = (A2 C).length - k ∧ W.length = k ∧ L9 = (Cu [p, q, r, t] t ((A2 C).drop k)).map (W.map Bs.Av ++ ·) ∧ (∀ w, w ∈ W → w.Ok S') ∧ Af [(28, .int .i64 (k : Int)), (27, .int .i64 (A2 C).length), (26, .slice av (A2 C).length (A2 C).length), (8, .slice aA W.length W.length), (7, .slice aS W.length W.length), (1, ptrTo B1 0), (2, .slice none 0 0), (3, .slice none 0 0), (4, .int .i64 0)] Le ∧ AB S [S2, S] S' [(B1, .cells [.string nm, .slice a C.length cap] 25 false true [])] [Rt aA W, Rs aS W]) ?_ (m := (A2 C).length) ⟨0, none, none, [], Q1, Q1, rfl, by rw [iY, List.drop_zero]; cases Cu [p, q, r, t] t (A2 C) <;> rfl, (fun w hw => (List.not_mem_nil hw).elim), sE, hl⟩
 clear hl; rintro m Le Sk ⟨k, aS, aA, W, hk, rfl, hW, Lz, A3, AL, hl⟩; refine AK AL ?_
 refine zg ?_
 constructor <;> intro DG
 ·
  have AJ : k < (A2 C).length := dT DG
  obtain ⟨cur, LA⟩ := Ac AJ
  rw [D4 LA] at Lz
  have SK := bn hX cur (Am LA)
  have Cd : cur.length ≤ 12 := Nat.le_trans (ft (Am LA)) CL
  obtain ⟨b1, o1, Ai, ha, _, AY, Ab⟩ := QP.elem LA
  have hl := hl.mark
  refine zg ?_; refine aL hl [.int .i64 0, .int .i64 0, .int .i64 0, .int .i64 0, .int .i64 0, .int .i64 0, .int .i64 0, .int .i64 0] fun Hn S4 hl => ?_; refine zg ?_; refine sL hl 0 (IN p q r t cur) fun S5 hl => ?_; refine zg ?_
  refine zc hl rfl (ADq a cap C p q r t hn hm hX (hG.AA hl.AA) (Cq.AA hl.AA) (hl.AA.3 hF) (hv.move (hl.since 2 rfl)) k cur LA) ?_; rintro v S6 G6 ⟨ar, an, rfl, VS, jS⟩ hl
  rw [uP] at VS
  rw [uQ] at jS
  have Y8 : (cur.map Prod.snd).length = cur.length := List.length_map _
  have wm : (cur.map DV).length = cur.length := List.length_map _
  have ZX : Bh S6 (.slice ar (cur.map Prod.snd).length (cur.map Prod.snd).length) (cur.map Prod.snd) := AU.ls (f := Sg.cells) (fun _ => rfl) VS
  have kK : A5 S6 (.slice an (cur.map DV).length (cur.map DV).length) (cur.map DV) := AU.ls (f := ic) (fun _ => rfl) jS
  have hl := hl.mark
  refine zg ?_
  have JV := ADr (S := S6) ar (cur.map Prod.snd).length (cur.map Prod.snd) p q r t hm (hl.AA.3 hF) (by rw [Y8]; omega) SK.run ZX (Dk.AA hl.AA)
  rw [Y8] at JV
  rw [Y8] at ZX
  rw [wm] at kK
  refine zc hl rfl JV ?_; rintro v S7 NQ IA hl
  cases hD : FA [p, q, r, t] t (cur.map Prod.snd) with
  | none =>
   rw [hD] at IA
   have IA : v = AN [.slice none 0 0, .int .i64 14] := IA
   subst IA
   rw [PF hD] at Lz
   subst Lz
   refine zg ?_
   exact Cw (CG (Cw (GK (CG (Cw (CK (A7 rfl (A7 rfl (A7 rfl rfl))) ⟨hl.AA, rfl⟩))))))
  | some D =>
   rw [hD] at IA
   obtain ⟨bS, rfl, ua⟩ := IA
   rw [PG hD] at Lz
   have hl := hl.mark
   refine zg ?_
   have hl := hl.EP (g := gN none []) (.inl ⟨rfl, rfl, rfl⟩)
   refine AK (L' := [(55, .int .i64 (0 : Int)), (54, .int .i64 cur.length), (53, .slice an cur.length cur.length), (15, .slice none ([] : List Int).length ([] : List Int).length), (14, .slice (some ⟨bS, 0, none⟩) D.length D.length), (11, .slice ar cur.length cur.length), (28, .int .i64 (k : Int)), (27, .int .i64 (A2 C).length), (26, .slice av (A2 C).length (A2 C).length), (8, .slice aA W.length W.length), (7, .slice aS W.length W.length), (1, ptrTo B1 0), (2, .slice none 0 0), (3, .slice none 0 0), (4, .int .i64 0)]) sE ?_
   refine Au rfl (fun m Le S' => ∃ (j : Nat) (aH : Option Addr) (H : List Int), j ≤ cur.length ∧ m = cur.length - j ∧ H = FD (cur.take j) ∧ Af [(55, .int .i64 (j : Int)), (54, .int .i64 cur.length), (53, .slice an cur.length cur.length), (15, .slice aH H.length H.length), (14, .slice (some ⟨bS, 0, none⟩) D.length D.length), (11, .slice ar cur.length cur.length), (28, .int .i64 (k : Int)), (27, .int .i64 (A2 C).length), (26, .slice av (A2 C).length (A2 C).length), (8, .slice aA W.length W.length), (7, .slice aS W.length W.length), (1, ptrTo B1 0), (2, .slice none 0 0), (3, .slice none 0 0), (4, .int .i64 0)] Le ∧ AB S [S7, S6, Sk, S2, S] S' [(Hn, .cells (IN p q r t cur) 90 false true []), (B1, .cells [.string nm, .slice a C.length cap] 25 false true [])] (gN aH H :: [Rt aA W, Rs aS W])) ?_ (m := cur.length) ⟨0, none, [], Q1, Q1, rfl, sE, hl⟩
   clear hl; rintro m Le S' ⟨j, aH, H, hj, rfl, hH, AL, hl⟩; refine AK AL ?_
   have YX : H.length ≤ 12 := by
    have h1 := vu (cur.take j)
    rw [List.length_take] at h1
    rw [hH]
    omega
   refine zg ?_
   constructor <;> intro G1
   ·
    have Y0 : j < cur.length := dT G1
    obtain ⟨e, he⟩ := Ac Y0
    obtain ⟨b2, o2, Hy, Eb, _, LH, LJ⟩ := kK.elem (Dc DV he)
    obtain ⟨b3, o3, Po, SB, _, ZN, Sq⟩ := ZX.elem (Dc Prod.snd he)
    have Iu := vw he
    refine zg ?_
    constructor <;> intro Il
    ·
     have Bt : (e.2.kind == 3) = false := by simpa using Il
     rw [Bt] at Iu
     refine zg ?_; refine dL hl (ic (DV e)) Tryz.underlying22 fun B68 S8 xe hl => ?_; refine DX hl 0 rfl rfl (show ([3, 22, 44] : List TypeId).Nodup by decide) rfl rfl rfl rfl rfl rfl rfl Tryz.underlying22 Tryz.underlying22 rfl rfl aP (Bf (new := ic (DV e)) xe rfl) rfl rfl aP (by show H.length + 1 ≤ AQ; unfold AQ; omega) ?_; intro v69 S9 hl
     obtain ⟨eQ, rfl⟩ : ∃ x, v69 = .slice x (H.length + 1) (H.length + 1) := AU.is (hl.gr _ aQ)
     refine zg ?_
     refine ⟨cur.length - (j + 1), Q1, j + 1, eQ, H ++ [DV e], Q1, rfl, by rw [Iu, hH]; rfl, ⟨rfl, rfl, rfl, congrArg some (congrArg (fun n => Value.slice eQ n n) (by rw [ay]; rfl)), rfl, rfl, rfl, rfl, rfl, rfl, rfl, rfl, rfl, rfl, rfl, trivial⟩, ?_⟩
     rw [gN, EH]
     exact hl
    have Bt : (e.2.kind == 3) = true := by simpa using Il
    rw [Bt] at Iu
    refine zg ?_
    exact ⟨cur.length - (j + 1), Q1, j + 1, aH, H, Q1, rfl, by rw [Iu, hH]; exact (List.append_nil _).symm, sE, hl⟩
   have FF : j = cur.length := dF G1
   rw [FF, List.take_length] at hH
   have ui : A5 S' (.slice aH H.length H.length) H := AU.ls (f := ic) (fun _ => rfl) (hl.gr _ aQ)
   have hl : AB S [S', S7, S6, Sk, S2, S] S' [(Hn, .cells (IN p q r t cur) 90 false true []), (B1, .cells [.string nm, .slice a C.length cap] 25 false true [])] (gN aH H :: [Rt aA W, Rs aS W]) := hl.mark
   obtain ⟨w, hw⟩ : ∃ w : Bs, w = ⟨some ⟨bS, 0, none⟩, D, aH, H⟩ := ⟨_, rfl⟩
   have Ja : [Value.slice (some ⟨bS, 0, none⟩) D.length D.length] = w.c1 := by rw [hw]; rfl
   have KP : [Value.slice aH H.length H.length] = w.c2 := by rw [hw]; rfl
   have yK : w.Av = (D, FD cur) := by rw [hw, ← hH]; rfl
   have KQ : w.Ok S' := by rw [hw]; exact ⟨AZ.move (hl.since 1 rfl) ua, ui⟩
   refine zg ?_; refine WD hl rfl rfl rfl rfl rfl Tryz.underlying63 rfl (c := w.c1) (by rw [← Ja]; kernel_rfl) ?_; intro B73 S8 xf hl; refine DX hl 2 rfl rfl (show ([3, 22, 44] : List TypeId).Nodup by decide) rfl rfl rfl rfl rfl rfl rfl Tryz.underlying63 Tryz.underlying63 rfl rfl aP (Bf (n := 1) (cap := 1) (new := w.c1) xf rfl) rfl rfl aP (by show W.length + 1 ≤ AQ; unfold AQ; omega) ?_; intro v74 S9 hl
   obtain ⟨eT, rfl⟩ : ∃ x, v74 = .slice x (W.length + 1) (W.length + 1) := AU.is (hl.gr _ (Am (k := 2) rfl))
   refine zg ?_; refine WD hl rfl rfl rfl rfl rfl Tryz.underlying64 rfl (c := w.c2) (by rw [← KP]; kernel_rfl) ?_; intro B77 Co xh hl; refine DX hl 1 rfl rfl (show ([3, 22, 44] : List TypeId).Nodup by decide) rfl rfl rfl rfl rfl rfl rfl Tryz.underlying64 Tryz.underlying64 rfl rfl aP (Bf (n := 1) (cap := 1) (new := w.c2) xh rfl) rfl rfl aP (by show W.length + 1 ≤ AQ; unfold AQ; omega) ?_; intro v78 D3 hl
   obtain ⟨eO, rfl⟩ : ∃ x, v78 = .slice x (W.length + 1) (W.length + 1) := AU.is (hl.gr _ (Am (k := 1) rfl))
   refine zg ?_
   refine ⟨(A2 C).length - (k + 1), Q1, k + 1, eT, eO, W ++ [w], Q1, rfl, by rw [ay, hW]; rfl, ?_, fun w' Sy => ?_, ⟨rfl, rfl, rfl, congrArg some (congrArg (fun n => Value.slice eO n n) (by rw [ay]; rfl)), congrArg some (congrArg (fun n => Value.slice eT n n) (by rw [ay]; rfl)), rfl, rfl, rfl, rfl, trivial⟩, ?_⟩
   ·rw [Lz, Option.map_map]
    congr 1
    funext x
    show W.map Bs.Av ++ ((D, FD cur) :: x) = (W ++ [w]).map Bs.Av ++ x
    rw [mAp, List.append_assoc, ← yK]
    rfl
   ·rcases List.mem_append.1 Sy with h | h
    ·exact (A3 w' h).move (hl.since 3 rfl)
    rw [List.mem_singleton.1 h]
    exact KQ.move (hl.since 0 rfl)
   rw [Rs, Rt, EH, EH]
   exact ⟨hl.AA, hl.tail.nd, hl.tail.at_, fun T hT => hl.rk T (by simp only [List.mem_cons, List.not_mem_nil, or_false] at hT ⊢; rcases hT with h | h <;> simp [h]), fun g hg => hl.gr g (cy hg)⟩
 have Ar : k = (A2 C).length := dF DG
 rw [Ar, List.drop_length] at Lz
 have Lz : L9 = some (W.map Bs.Av) := by rw [Lz]; show some (W.map Bs.Av ++ []) = _; rw [List.append_nil]
 rw [Lz]
 refine zg ?_
 exact CK (A7 rfl (A7 rfl (A7 rfl rfl))) ⟨hl.AA, aS, aA, W, rfl, rfl, AU.ls (f := Bs.c1) (fun _ => rfl) (hl.gr _ (cy aQ)), AU.ls (f := Bs.c2) (fun _ => rfl) (hl.gr _ aQ), A3⟩
theorem jO (cur : List Nt) : (FD cur).length = ct (cur.map Prod.snd) := by
 unfold FD ct
 rw [cw, List.filter_map, cw]
 rfl
theorem Nx {M : List Int} {t : Int} : ∀ (P : List (List Nt)) {L : List (List Bool × List Int)}, Cu M t P = some L → (L.map fun e => e.1.length).sum ≤ (P.map List.length).sum ∧ ∀ e, e ∈ L → e.1.length = e.2.length
 | [], L, h => by
  cases h
  exact ⟨Nat.le_refl 0, fun e he => (List.not_mem_nil he).elim⟩
 | cur :: P, L, h => by
  cases hD : FA M t (cur.map Prod.snd) with
  | none => rw [PF hD] at h; cases h
  | some D =>
   rw [PG hD] at h
   obtain ⟨L2, h2, rfl⟩ := Option.map_eq_some_iff.1 h
   obtain ⟨h3, h4⟩ := Nx P h2
   have h5 := fZ hD
   have h6 := Mw (cur.map Prod.snd)
   rw [cw] at h6
   refine ⟨?_, fun e he => ?_⟩
   ·rw [List.map_cons, List.sum_cons, List.map_cons, List.sum_cons]
    show D.length + _ ≤ _
    omega
   rcases List.mem_cons.1 he with rfl | he
   ·show D.length = (FD cur).length
    rw [jO, h5]
   exact h4 e he
theorem bh {M : List Int} {t : Int} : ∀ (P : List (List Nt)) {L : List (List Bool × List Int)}, Cu M t P = some L → L.length = P.length
 | [], L, h => by cases h; rfl
 | cur :: P, L, h => by
  cases hD : FA M t (cur.map Prod.snd) with
  | none => rw [PF hD] at h; cases h
  | some D =>
   rw [PG hD] at h
   obtain ⟨L2, h2, rfl⟩ := Option.map_eq_some_iff.1 h
   exact congrArg (· + 1) (bh P h2)
theorem ox {W : List Bs} {L : List (List Bool × List Int)} (h : W.map Bs.Av = L) : En W = (L.map fun e => e.1.length).sum ∧ FR W = L.flatMap Prod.fst := by
 subst h
 refine ⟨?_, ?_⟩
 ·unfold En
  rw [List.map_map]
  rfl
 unfold FR
 rw [List.flatMap_map]
 rfl
theorem ACd (a : Option Addr) (cap : Nat) (C : List Sg) (p q r t : Int) (hn : C.length ≤ 60) (hm : Ap p q r t = 0) (hX : CA p q r t C) (hG : Gl S) (Cq : Gc S) (Dk : Gh S) (hF : Ad S) (hv : Bh S (.slice a C.length cap) C) (CL : C7 C ≤ 12) : CC Tryz.prog KK 11 [AM [.string nm, .slice a C.length cap]] S (fun v S' => AG S S' ∧ match Cu [p, q, r, t] t (A2 C) with
  | none => v = AN [.slice none 0 0, .int .i64 14]
  | some L => ∃ av, v = AN [.slice av (L.flatMap Prod.fst).length (L.flatMap Prod.fst).length, .int .i64 0] ∧ Kp S' (.slice av (L.flatMap Prod.fst).length (L.flatMap Prod.fst).length) (L.flatMap Prod.fst)) := by
 refine ce 18 Tryz.func11 fun hl => ?_; refine zg ?_; refine bL hl fun B1 S1 hl => ?_; refine zg ?_
 refine zc hl rfl (oH a cap C p q r t hn hm hX (hG.AA hl.AA) (Cq.AA hl.AA) (Dk.AA hl.AA) (hl.AA.3 hF) (hv.move (hl.since 0 rfl)) CL) ?_; rintro v S2 Al BY hl
 cases hL : Cu [p, q, r, t] t (A2 C) with
 | none =>
  rw [hL] at BY
  have BY : v = AN [.slice none 0 0, .slice none 0 0, .int .i64 14] := BY
  subst BY
  refine zg ?_
  exact z2 rfl rfl ⟨hl.AA, rfl⟩
 | some L =>
  rw [hL] at BY
  obtain ⟨aS, aA, W, rfl, hW, h1, h2, A3⟩ := BY
  obtain ⟨Vf, Ot⟩ := ox hW
  obtain ⟨h5, h6⟩ := Nx _ hL
  rw [Wa] at h5
  have iy : W.length = (A2 C).length := by rw [← bh _ hL, ← hW, cw]
  have So := Wb C
  refine zg ?_
  refine zc hl rfl (ADf aS W.length W Q1 Q1 h1 A3) ?_; rintro v S3 Ar ⟨av, rfl, hB⟩ hl
  rw [Ot] at hB ⊢
  refine zg ?_
  exact y2 rfl rfl ⟨hl.AA, av, rfl, hB⟩
end Go.Proofs.YtnhalpkekpehpaaGreatDoor
namespace Go.Proofs.YtnhalpkekpehpaaGreatDoor
open Go.Cm Go
set_option maxRecDepth 100000
variable {S : St}
structure Bk where
 k : Int
 f : Int
 t : Int
def E2 (a b : Int) : Int := if a < b then -1 else if b < a then 1 else 0
def RU (a b : Bk) : Int := if E2 a.f b.f ≠ 0 then E2 a.f b.f else if E2 b.t a.t ≠ 0 then E2 b.t a.t else E2 a.k b.k
def Hv (a b : Bk) : Bool := decide (RU a b < 0)
theorem fG {a b : Bk} : Hv a b = true ↔ a.f < b.f ∨ (a.f = b.f ∧ (b.t < a.t ∨ (a.t = b.t ∧ a.k < b.k))) := by
 unfold Hv RU E2
 rw [decide_eq_true_eq]
 repeat' split
 all_goals omega
def FJ (x : Bk) : List Bk → List Bk
 | [] => [x]
 | y :: r => bif Hv x y then y :: FJ x r else x :: y :: r
def EO (l : List Bk) : List Bk := (l.foldl (fun a x => FJ x a) []).reverse
theorem Vm (x : Bk) : ∀ l, (FJ x l).Perm (x :: l)
 | [] => .refl _
 | y :: r => by
  unfold FJ
  cases Hv x y with
  | false => exact .refl _
  | true => exact ((Vm x r).cons y).trans (.swap x y r)
theorem Wl (l : List Bk) : (EO l).Perm l := by
 have key : ∀ (l a : List Bk), (l.foldl (fun a x => FJ x a) a).Perm (l ++ a) := by
  intro l
  induction l with
  | nil => exact fun a => .refl _
  | cons x l ih => exact fun a => (ih _).trans (((Vm x a).append_left l).trans List.perm_middle)
 refine (List.reverse_perm _).trans ?_
 have := key l []
 rwa [List.append_nil] at this
theorem kY {g : Bk → Bk} {x : Bk} : ∀ {l : List Bk}, (∀ y, y ∈ l → Hv (g x) (g y) = Hv x y) → FJ (g x) (l.map g) = (FJ x l).map g
 | [], _ => rfl
 | y :: r, h => by
  show (bif Hv (g x) (g y) then g y :: FJ (g x) (r.map g) else g x :: g y :: r.map g) = (bif Hv x y then y :: FJ x r else x :: y :: r).map g
  rw [h y aQ, kY fun z hz => h z (cy hz)]
  cases Hv x y <;> rfl
theorem AEH {g : Bk → Bk} {l : List Bk} (h : ∀ x, x ∈ l → ∀ y, y ∈ l → Hv (g x) (g y) = Hv x y) : EO (l.map g) = (EO l).map g := by
 have key : ∀ (m a : List Bk), (∀ x, x ∈ m → x ∈ l) → (∀ x, x ∈ a → x ∈ l) → (m.map g).foldl (fun a x => FJ x a) (a.map g) = (m.foldl (fun a x => FJ x a) a).map g := by
  intro m
  induction m with
  | nil => exact fun a _ _ => rfl
  | cons x m ih =>
   intro a h1 h2
   rw [List.map_cons, List.foldl_cons, List.foldl_cons, kY fun y hy => h x (h1 x aQ) y (h2 y hy)]
   refine ih _ (fun z hz => h1 z (cy hz)) fun z hz => ?_
   rcases List.mem_cons.1 ((Vm x a).mem_iff.1 hz) with rfl | hz
   ·exact h1 z aQ
   exact h2 z hz
 unfold EO
 rw [List.map_reverse]
 exact congrArg List.reverse (key l [] (fun _ h => h) fun _ h => (List.not_mem_nil h).elim)
abbrev PB := Int × Bool
def EE : List PB → Option (Int × Int) → List (Int × Int)
 | [], none => []
 | [], some w => [w]
 | (x, true) :: r, none => EE r (some (x, x))
 | (x, true) :: r, some w => EE r (some (w.1, x))
 | (_, false) :: r, none => EE r none
 | (_, false) :: r, some w => w :: EE r none
def PW (E : List PB) : Prop := E.Pairwise fun a b => a.1 < b.1
def N5 (E : List PB) (o : Option (Int × Int)) : Prop := ∀ w, o = some w → w.1 ≤ w.2 ∧ ∀ e, e ∈ E → w.2 < e.1
theorem N5.nil {E : List PB} : N5 E none := fun _ h => by cases h
theorem Pf : ∀ {E : List PB} {o : Option (Int × Int)} {w : Int × Int}, PW E → N5 E o → w ∈ EE E o → w.1 ≤ w.2 ∧ ((w.1, true) ∈ E ∨ ∃ v, o = some v ∧ w.1 = v.1) ∧ ((w.2, true) ∈ E ∨ ∃ v, o = some v ∧ w.2 = v.2)
 | [], none, w, _, _, h => (List.not_mem_nil h).elim
 | [], some v, w, _, hb, h => by
  obtain rfl := List.mem_singleton.1 h
  exact ⟨(hb _ rfl).1, .inr ⟨_, rfl, rfl⟩, .inr ⟨_, rfl, rfl⟩⟩
 | (y, true) :: r, none, w, ha, hb, h => by
  obtain ⟨h1, h2⟩ := List.pairwise_cons.1 ha
  obtain ⟨h3, h4, h5⟩ := Pf h2 (o := some (y, y)) (fun w hw => by cases hw; exact ⟨Int.le_refl _, fun e he => h1 e he⟩) h
  refine ⟨h3, .inl ?_, .inl ?_⟩
  ·rcases h4 with h4 | ⟨v, hv, h4⟩
   ·exact cy h4
   cases hv; rw [h4]; exact aQ
  rcases h5 with h4 | ⟨v, hv, h4⟩
  ·exact cy h4
  cases hv; rw [h4]; exact aQ
 | (y, true) :: r, some v, w, ha, hb, h => by
  obtain ⟨h1, h2⟩ := List.pairwise_cons.1 ha
  obtain ⟨Ja, KP⟩ := hb v rfl
  have hwy : v.2 < y := KP _ aQ
  obtain ⟨h3, h4, h5⟩ := Pf h2 (o := some (v.1, y)) (fun w hw => by cases hw; exact ⟨by show v.1 ≤ y; omega, fun e he => h1 e he⟩) h
  refine ⟨h3, ?_, .inl ?_⟩
  ·rcases h4 with h4 | ⟨v2, hv, h4⟩
   ·exact .inl (cy h4)
   cases hv; exact .inr ⟨v, rfl, h4⟩
  rcases h5 with h4 | ⟨v2, hv, h4⟩
  ·exact cy h4
  cases hv; rw [h4]; exact aQ
 | (y, false) :: r, none, w, ha, hb, h => by
  obtain ⟨h1, h2⟩ := List.pairwise_cons.1 ha
  obtain ⟨h3, h4, h5⟩ := Pf h2 (o := none) N5.nil h
  refine ⟨h3, .inl ?_, .inl ?_⟩
  ·rcases h4 with h4 | ⟨v, hv, h4⟩
   ·exact cy h4
   cases hv
  rcases h5 with h4 | ⟨v, hv, h4⟩
  ·exact cy h4
  cases hv
 | (y, false) :: r, some v, w, ha, hb, h => by
  obtain ⟨h1, h2⟩ := List.pairwise_cons.1 ha
  rcases List.mem_cons.1 (show w ∈ v :: EE r none from h) with rfl | h
  ·exact ⟨(hb _ rfl).1, .inr ⟨_, rfl, rfl⟩, .inr ⟨_, rfl, rfl⟩⟩
  obtain ⟨h3, h4, h5⟩ := Pf h2 (o := none) N5.nil h
  refine ⟨h3, .inl ?_, .inl ?_⟩
  ·rcases h4 with h4 | ⟨v, hv, h4⟩
   ·exact cy h4
   cases hv
  rcases h5 with h4 | ⟨v, hv, h4⟩
  ·exact cy h4
  cases hv
theorem ACJ {E : List (List PB)} {w : Int × Int} (ha : PW E.flatten) (h : w ∈ E.flatMap (EE · none)) : w.1 ≤ w.2 ∧ (w.1, true) ∈ E.flatten ∧ (w.2, true) ∈ E.flatten := by
 obtain ⟨e, he, hw⟩ := List.mem_flatMap.1 h
 have vJ : PW e := (List.pairwise_flatten.1 ha).1 e he
 obtain ⟨h1, h2, h3⟩ := Pf vJ N5.nil hw
 refine ⟨h1, ?_, ?_⟩
 ·rcases h2 with h2 | ⟨_, h, _⟩
  ·exact List.mem_flatten.2 ⟨e, he, h2⟩
  cases h
 rcases h3 with h2 | ⟨_, h, _⟩
 ·exact List.mem_flatten.2 ⟨e, he, h2⟩
 cases h
def MN (k : Int) (w : Int × Int) : Bk := ⟨k, w.1, w.2⟩
def ns : List (Bool × Bool) → Bool → Bool → Nat
 | [], _, _ => 0
 | (b, c) :: r, p, q => (bif b && !p then 1 else 0) + (bif c && !q then 1 else 0) + ns r b c
def TS : List (Bool × Bool) → Bool → Bool → Bool
 | [], _, _ => false
 | [(b, c)], p, q => b && !p && c && !q
 | (b, c) :: e :: r, _, _ => TS (e :: r) b c
theorem lx : ∀ (Z : List (Bool × Bool)) (p q : Bool), ns Z p q ≤ Z.length + 1 ∧ (p = true → q = true → ns Z p q ≤ Z.length)
 | [], _, _ => ⟨Nat.zero_le _, fun _ _ => Nat.le_refl 0⟩
 | (b, c) :: r, p, q => by
  obtain ⟨h1, h2⟩ := lx r b c
  have e : ns ((b, c) :: r) p q = (bif b && !p then 1 else 0) + (bif c && !q then 1 else 0) + ns r b c := rfl
  rw [e, List.length_cons]
  cases b <;> cases c <;> cases p <;> cases q <;> simp at h1 h2 ⊢ <;> omega
theorem ly : ∀ (Z : List (Bool × Bool)) (p q : Bool), TS Z p q = false → ns Z p q ≤ Z.length ∧ (p = true → q = true → Z ≠ [] → ns Z p q + 1 ≤ Z.length)
 | [], _, _, _ => ⟨Nat.le_refl 0, fun _ _ h => (h rfl).elim⟩
 | [(b, c)], p, q, h => by
  have e : ns [(b, c)] p q = (bif b && !p then 1 else 0) + (bif c && !q then 1 else 0) + 0 := rfl
  have h : (b && !p && c && !q) = false := h
  rw [e]
  cases b <;> cases c <;> cases p <;> cases q <;> simp at h ⊢
 | (b, c) :: x :: r, p, q, h => by
  obtain ⟨h1, h2⟩ := ly (x :: r) b c h
  have e : ns ((b, c) :: x :: r) p q = (bif b && !p then 1 else 0) + (bif c && !q then 1 else 0) + ns (x :: r) b c := rfl
  rw [e, List.length_cons]
  rw [List.length_cons] at h1 h2 ⊢
  cases b <;> cases c <;> cases p <;> cases q <;> simp at h1 h2 ⊢ <;> omega
def n1 : List Bool → Bool → Nat
 | [], _ => 0
 | b :: r, p => (bif b && !p then 1 else 0) + n1 r b
theorem Pg : ∀ (E : List PB) (o : Option (Int × Int)), (EE E o).length = n1 (E.map Prod.snd) o.isSome + (bif o.isSome then 1 else 0)
 | [], none => rfl
 | [], some _ => rfl
 | (_, true) :: r, none => by show (EE r _).length = _; rw [Pg r]; show n1 (r.map Prod.snd) true + 1 = 1 + n1 (r.map Prod.snd) true + 0; omega
 | (_, true) :: r, some _ => by show (EE r _).length = _; rw [Pg r]; show n1 (r.map Prod.snd) true + 1 = 0 + n1 (r.map Prod.snd) true + 1; omega
 | (_, false) :: r, none => by show (EE r _).length = _; rw [Pg r]; show n1 (r.map Prod.snd) false + 0 = 0 + n1 (r.map Prod.snd) false + 0; omega
 | (_, false) :: r, some _ => by show (EE r none).length + 1 = _; rw [Pg r]; show n1 (r.map Prod.snd) false + 0 + 1 = 0 + n1 (r.map Prod.snd) false + 1; omega
theorem AAW (p : Bool) : ∀ B : List Bool, n1 B p ≤ n1 B false
 | [] => Nat.le_refl 0
 | b :: r => by
  show (bif b && !p then 1 else 0) + n1 r b ≤ (bif b && true then 1 else 0) + n1 r b
  cases b <;> cases p <;> simp
theorem lY : ∀ (A B : List Bool) (p : Bool), n1 (A ++ B) p ≤ n1 A p + n1 B false
 | [], B, p => by have := AAW p B; show n1 B p ≤ 0 + n1 B false; omega
 | a :: A, B, p => by
  have := lY A B a
  show _ + n1 (A ++ B) a ≤ _ + n1 A a + n1 B false
  omega
theorem lZ : ∀ (L : List (List Bool)), n1 L.flatten false ≤ (L.map fun B => n1 B false).sum
 | [] => Nat.le_refl 0
 | B :: L => by
  have h1 := lY B L.flatten false
  have h2 := lZ L
  rw [List.flatten_cons, List.map_cons, List.sum_cons]
  omega
theorem lz : ∀ (Z : List (Bool × Bool)) (p q : Bool), ns Z p q = n1 (Z.map Prod.fst) p + n1 (Z.map Prod.snd) q
 | [], _, _ => rfl
 | (b, c) :: r, p, q => by
  show (bif b && !p then 1 else 0) + (bif c && !q then 1 else 0) + ns r b c = (bif b && !p then 1 else 0) + n1 (r.map Prod.fst) b + ((bif c && !q then 1 else 0) + n1 (r.map Prod.snd) c)
  rw [lz r b c]
  omega
def Bk.cells (b : Bk) : List Value := [.int .i64 b.k, .int .i64 b.f, .int .i64 b.t]
def Bk.v (b : Bk) : Value := AM b.cells
theorem cf (x y : Int) : CC Tryz.prog KK 38 [.int .i64 x, .int .i64 y] S (fun v S' => AG S S' ∧ v = .int .i64 (E2 x y)) := by
 refine ce 20 Tryz.func38 fun hl => ?_; refine zg ?_
 refine zc hl rfl (cg x) ?_; rintro v S1 Al rfl hl
 refine zg ?_
 refine zc hl rfl (cg y) ?_; rintro v S2 Ar rfl hl
 refine zg ?_
 constructor <;> intro Cj
 ·
  refine zg ?_
  exact z1 rfl ⟨hl.AA, congrArg (Value.int .i64) (by unfold E2; rw [if_pos (oTr Cj)])⟩
 refine zg ?_
 constructor <;> intro Dw
 ·
  refine zg ?_
  exact z1 rfl ⟨hl.AA, congrArg (Value.int .i64) (by unfold E2; rw [if_neg (oFa Cj), if_pos (oTr Dw)])⟩
 refine zg ?_
 refine y1 rfl ⟨hl.AA, congrArg (Value.int .i64) (by unfold E2; rw [if_neg (oFa Cj), if_neg (oFa Dw)])⟩
def Kb : List Int → Int
 | [] => 0
 | x :: r => if x ≠ 0 then x else Kb r
theorem ADo (a : Option Addr) (cap : Nat) (L : List Int) (hn : L.length ≤ 400) (hv : A5 S (.slice a L.length cap) L) : CC Tryz.prog KK 37 [.slice a L.length cap] S (fun v S' => AG S S' ∧ v = .int .i64 (Kb L)) := by
 refine ce 18 Tryz.func37 fun hl => ?_; iterate 2 refine zS ?_
 refine AV rfl ?_; refine zS ?_; refine BF rfl ?_; refine AK (L' := [(8, .int .i64 (0 : Int)), (7, .int .i64 L.length), (6, .slice a L.length cap), (3, .int .i64 0), (2, .int .i64 0)]) sE ?_
 refine Au rfl (fun m Le S' => ∃ i : Nat, i ≤ L.length ∧ m = L.length - i ∧ Kb L = Kb (L.drop i) ∧ Af [(8, .int .i64 (i : Int)), (7, .int .i64 L.length), (6, .slice a L.length cap), (3, .int .i64 0), (2, .int .i64 0)] Le ∧ AB S [S] S' [] []) ?_ (m := L.length) ⟨0, Q1, Q1, rfl, sE, hl⟩
 clear hl; rintro m Le S' ⟨i, hi, rfl, KM, AL, hl⟩; refine AK AL ?_
 refine zg ?_
 constructor <;> intro h9
 ·
  have AJ : i < L.length := dT h9
  obtain ⟨x, hx⟩ := Ac AJ
  obtain ⟨b1, o1, Ai, ha, _, AY, Ab⟩ := hv.elem hx
  rw [D4 hx] at KM
  have KM : Kb L = if x ≠ 0 then x else Kb (L.drop (i + 1)) := KM
  refine zg ?_
  constructor <;> intro EI
  ·
   have Jb : x ≠ 0 := by simpa using EI
   rw [if_pos Jb] at KM
   refine zg ?_
   refine CG (Cw (GK (CG (z1 rfl ⟨hl.AA, congrArg (Value.int .i64) KM.symm⟩))))
  have Jb : ¬ x ≠ 0 := by simpa using EI
  rw [if_neg Jb] at KM
  refine zg ?_
  exact ⟨L.length - (i + 1), Q1, i + 1, Q1, rfl, KM, sE, hl⟩
 obtain rfl : i = L.length := dF h9
 rw [List.drop_length] at KM
 refine zg ?_
 refine y1 rfl ⟨hl.AA, congrArg (Value.int .i64) KM.symm⟩
theorem AAn (x y : Bk) : Kb [E2 x.f y.f, E2 y.t x.t, E2 x.k y.k] = RU x y := by
 unfold RU Kb Kb Kb Kb
 by_cases h1 : E2 x.f y.f ≠ 0
 ·rw [if_pos h1, if_pos h1]
 rw [if_neg h1, if_neg h1]
 by_cases h2 : E2 y.t x.t ≠ 0
 ·rw [if_pos h2, if_pos h2]
 rw [if_neg h2, if_neg h2]
 by_cases h3 : E2 x.k y.k ≠ 0
 ·rw [if_pos h3]
 rw [if_neg h3]; omega
theorem ADV (x y : Bk) (hF : Ad S) : CC Tryz.prog KK 19 [x.v, y.v] S (fun v S' => AG S S' ∧ v = .int .i64 (RU x y)) := by
 refine ce 22 Tryz.func19 fun hl => ?_; refine zg ?_; refine bL hl fun B2 S2 hl => ?_; refine bL hl fun B3 S3 hl => ?_; refine zg ?_; refine A4 (idx := [0, 1, 2, 3, 5, 6, 7, 8, 10, 11, 12, 13, 4, 9, 14, 15, 16, 17]) rfl aP aP ?_; refine zg ?_
 refine zp hl rfl (cf _ _) ?_; rintro v S4 GD rfl hl; refine ⟨zt, ?_⟩
 refine zp hl rfl (cf _ _) ?_; rintro v S5 FZ rfl hl; refine ⟨zt, ?_⟩
 refine zp hl rfl (cf _ _) ?_; rintro v S6 G6 rfl hl; refine ⟨zt, ?_⟩
 refine PC hF hl rfl rfl rfl rfl rfl Tryz.underlying22 rfl (c := [.int .i64 (E2 x.f y.f), .int .i64 (E2 y.t x.t), .int .i64 (E2 x.k y.k)]) aP ?_; intro B20 S7 AFw xP hl
 refine zp hl rfl (ADo _ 3 [E2 x.f y.f, E2 y.t x.t, E2 x.k y.k] (by show 3 ≤ 400; omega) (AZ.row (f := ic) (fun _ => rfl) xP rfl)) ?_; rintro v S8 VX rfl hl; refine ⟨zt, ?_⟩
 rw [AAn]
 refine zg ?_
 refine y1 rfl ⟨hl.AA, rfl⟩
abbrev GS (av : Option Addr) (O : List Bk) (fr : List (Nat × AD)) : Prop := OW (.slice av O.length O.length) 40 3 ((O.map Bk.cells).flatten) O.length fr
def Ei : List Bool → Nat → Option Nat → List (Nat × Nat)
 | [], _, none => []
 | [], i, some f => [(f, i)]
 | true :: r, i, none => Ei r (i + 1) (some i)
 | true :: r, i, some f => Ei r (i + 1) (some f)
 | false :: r, i, none => Ei r (i + 1) none
 | false :: r, i, some f => (f, i) :: Ei r (i + 1) none
def U5 : Option Nat → Int
 | none => -1
 | some f => (f : Int)
theorem ADi (x : Bool) : CC Tryz.prog KK 30 [.bool x] S (fun v S' => AG S S' ∧ v = .bool (!x)) := by
 refine ce 5 Tryz.func30 fun hl => ?_; refine zg ?_; refine rr rfl (BC rfl rfl rfl) ?_; refine zg ?_
 exact y1 rfl ⟨hl.AA, rfl⟩
theorem LD {S0 S : St} {Ts : List St} {l r : List (Nat × AD)} {gs : List Gr} {b : Nat} {x : AD} (hl : AB S0 Ts S (l ++ r) gs) (h : (b, x) ∈ l) : S.get b = some x := (hl.at_ b x (List.mem_append.2 (.inl h))).1
theorem ADg (a : Option Addr) (n cap : Nat) (g : FuncId) (ca : Array Value) : CC Tryz.prog KK 29 [.slice a n cap, .func (.func g) #[] ca] S (fun v S' => ∃ B3 B2, v = .func (.func 46) #[] #[ptrTo B2 0, ptrTo B3 0] ∧ AB S [S] S' [(B3, .cells [.func (.func g) #[] ca] 76 false true []), (B2, .cells [.slice a n cap] 44 false true [])] []) := by
 refine ce 6 Tryz.func29 fun hl => ?_; refine zg ?_; refine bL hl fun B2 S1 hl => ?_; refine bL hl fun B3 S2 hl => ?_; refine zg ?_; refine rr rfl (Fg rfl rfl rfl) ?_; refine zg ?_
 exact y1 rfl ⟨B3, B2, rfl, hl⟩
theorem ADu {Sb S T : St} {Us : List St} {l OO : List (Nat × AD)} (lb B2 B3 : Nat) (lf : Option Addr → Nat → List (Nat × AD)) (br : Nat × Nat → Bk) (a : Option Addr) (cap : Nat) (X : List Bool) (is : Bool → Bool) (hn : X.length ≤ 100) (hv : Kp T (.slice a X.length cap) X)
  (CB : ∀ av n, (B2, AD.cells [.slice a X.length cap] 44 false true []) ∈ lf av n) (Io : ∀ av n, (B3, AD.cells [.func (.func 30) #[] #[]] 76 false true []) ∈ lf av n)
  (Yz : ∀ (S : St) (av : Option Addr) (n j : Nat) (fr : List (Nat × AD)) (x : Bool), AB Sb (T :: Us) S (lf av n ++ (fr ++ l)) [] → nth X j = some x → CC Tryz.prog KK 30 [.bool x] S (fun v S' => AG S S' ∧ v = .bool (is x)))
  (Zl : ∀ (S : St) (av : Option Addr) (O : List Bk) (fr : List (Nat × AD)) (f t : Nat), f < t → t ≤ X.length → O.length ≤ 1000 → GS av O fr → AB Sb (T :: Us) S (lf av O.length ++ (fr ++ l)) [] → CT Tryz.prog KK (.fn (.yield lb) #[]) [.int .i64 (f : Int), .int .i64 (t : Int)] S fun v S' => v = .returned (.bool true) ∧ ∃ DR AW, GS DR (O ++ [br (f, t)]) AW ∧ AB Sb (T :: Us) S' (lf DR (O ++ [br (f, t)]).length ++ (AW ++ l)) [])
  (av0 : Option Addr) (O0 : List Bk) (Oa : O0.length ≤ 800) (hO : GS av0 O0 OO) (hl : AB Sb (T :: Us) S (lf av0 O0.length ++ (OO ++ l)) []) : CC Tryz.prog KK 46 [.func (.yield lb) #[] #[], ptrTo B2 0, ptrTo B3 0] S (fun v S' => v = AN [] ∧ ∃ av fr, GS av (O0 ++ (Ei (X.map is) 0 none).map br) fr ∧ AB Sb (T :: Us) S' (lf av (O0 ++ (Ei (X.map is) 0 none).map br).length ++ (fr ++ l)) []) := by
 refine ce 42 Tryz.func46 fun _ => ?_
 obtain ⟨R, hR⟩ : ∃ R, R = O0 ++ (Ei (X.map is) 0 none).map br := ⟨_, rfl⟩
 rw [← hR]
 have L4 : (X.map is).length = X.length := List.length_map _
 iterate 2 refine zS ?_
 refine BF rfl ?_; refine AK (L' := [(5, .int .i64 (0 : Int)), (4, .int .i64 (U5 none)), (0, .func (.yield lb) #[] #[]), (1, ptrTo B2 0), (2, ptrTo B3 0)]) sE ?_
 refine Au rfl (fun m Le S' => ∃ (i : Nat) (o : Option Nat) (av : Option Addr) (O : List Bk) (fr : List (Nat × AD)), i ≤ X.length + 1 ∧ m = X.length + 1 - i ∧ ((i ≤ X.length → R = O ++ (Ei ((X.map is).drop i) i o).map br) ∧ (i = X.length + 1 → R = O)) ∧ ((∀ f, o = some f → f < i) ∧ O.length ≤ O0.length + i) ∧ GS av O fr ∧ Af [(5, .int .i64 (i : Int)), (4, .int .i64 (U5 o)), (0, .func (.yield lb) #[] #[]), (1, ptrTo B2 0), (2, ptrTo B3 0)] Le ∧ AB Sb (T :: Us) S' (lf av O.length ++ (fr ++ l)) []) ?_ (m := X.length + 1) ⟨0, none, av0, O0, OO, Q1, Q1, ⟨fun _ => hR, fun h => by omega⟩, ⟨fun f h => (by cases h), Q1⟩, hO, sE, hl⟩
 clear hl hO; rintro m Le S1 ⟨i, o, av, O, fr, hi, rfl, ⟨Dl, P9⟩, ⟨Sh, DN⟩, hO, AL, hl⟩; refine AK AL ?_
 have g2 := LD hl (CB av O.length)
 have g3 := LD hl (Io av O.length)
 refine zg ?_; refine rr rfl (Ba rfl rfl (l1 g2 rfl)) ?_; refine zg ?_
 constructor <;> intro GZ
 ·
  have hle : i ≤ X.length := dT GZ
  have Dl := Dl hle
  obtain ⟨bb, EJ, G3⟩ : ∃ bb : Bool, (∀ x, nth X i = some x → bb = is x) ∧ (i = X.length → bb = false) := by
   cases hx : nth X i with
   | none => exact ⟨false, fun x h => (by cases h), fun _ => rfl⟩
   | some x => exact ⟨is x, fun y h => (by cases h; rfl), fun h => by have := CS hx; omega⟩
  have Ec : ((i < X.length ∧ (X.map is).drop i = bb :: (X.map is).drop (i + 1)) ∨ (i = X.length ∧ (X.map is).drop i = [])) := by
   by_cases h : i < X.length
   ·obtain ⟨x, hx⟩ := Ac h
    exact .inl ⟨h, by rw [EJ x hx]; exact D4 (Dc is hx)⟩
   exact .inr ⟨Q1, List.drop_eq_nil_of_le Q1⟩
  refine Fl rfl ?_; refine AV rfl ?_; refine BF rfl ?_; refine AV rfl (Bz hl 6 (.bool bb) ?_ rfl ?_)
  ·
   refine A4 (idx := [0, 1, 2, 3, 4, 5, 6, 7, 8, 9, 10, 11, 12]) rfl aP aP ?_; refine zg ?_; refine pk rfl (Ba rfl rfl (l1 g2 rfl)) ?_; refine zg ?_; refine Ej (d := 17) rfl (fun HR => ?_) (fun HR => ?_)
   ·
    have AJ : i < X.length := dT HR
    obtain ⟨x, hx⟩ := Ac AJ
    obtain ⟨b1, o1, Ai, ha, _, AY, Ab⟩ := (hv.move (hl.since 0 rfl)).elem hx
    rw [EJ x hx]
    refine zg ?_; refine pk rfl (Ba rfl rfl (l1 g3 rfl)) ?_; refine pk rfl (Ba rfl rfl (l1 g2 rfl)) ?_; refine zg ?_
    have DT := hl
    refine zp hl rfl (Yz _ av O.length i fr x hl hx) ?_; rintro v S4 GD rfl hl
    have YI := LD hl (CB av O.length)
    have YJ := LD hl (Io av O.length)
    refine ⟨by repeat (first| exact trivial| refine PK ?_| (refine ⟨by first| exact sZ| exact kl tt (HC rfl rfl (l1 YI rfl) aP rfl)| exact kl tt (HC rfl rfl (l1 YJ rfl) aP rfl)| exact kl tt (HC rfl rfl qL sQ rfl)| exact Wt rfl rfl rfl sQ rfl, ?_⟩)), ?_⟩
    refine zg ?_
    exact ⟨rfl, rfl, sB, hl⟩
   have L6 := G3 (dF HR)
   refine zg ?_
   exact ⟨rfl, bl (by rw [L6]), sB, hl⟩
  intro S3 hl
  clear g2 g3
  cases bb with
  | true =>
   have AJ : i < X.length := by
    rcases Ec with h | h
    ·exact h.1
    cases G3 h.1
   have QB : (X.map is).drop i = true :: (X.map is).drop (i + 1) := by
    rcases Ec with h | h
    ·exact h.2
    omega
   rw [QB] at Dl
   cases o with
   | none =>
    refine zg ?_; refine rr rfl (BC rfl rfl rfl) ?_; refine zg ?_
    exact ⟨X.length + 1 - (i + 1), Q1, i + 1, some i, av, O, fr, Q1, rfl, ⟨fun _ => Dl, fun h => by omega⟩, ⟨fun f h => (by cases h; omega), Q1⟩, hO, sE, hl⟩
   | some f =>
    have KG := Sh f rfl
    refine zg ?_; refine rr rfl (BC rfl rfl rfl) ?_; refine zg ?_
    exact ⟨X.length + 1 - (i + 1), Q1, i + 1, some f, av, O, fr, Q1, rfl, ⟨fun _ => Dl, fun h => by omega⟩, ⟨fun g h => (by cases h; omega), Q1⟩, hO, sE, hl⟩
  | false =>
   cases o with
   | none =>
    refine zg ?_; refine rr rfl (BC rfl rfl rfl) ?_; refine zg ?_
    refine ⟨X.length + 1 - (i + 1), Q1, i + 1, none, av, O, fr, Q1, rfl, ⟨fun h => ?_, fun h => ?_⟩, ⟨fun f h => (by cases h), Q1⟩, hO, sE, hl⟩
    ·rcases Ec with h2 | h2
     ·rw [h2.2] at Dl; exact Dl
     omega
    rcases Ec with h2 | h2
    ·omega
    rw [h2.2] at Dl
    rw [Dl]
    exact List.append_nil _
   | some f =>
    have KG := Sh f rfl
    refine zg ?_; refine rr rfl (BC rfl rfl rfl) ?_; refine zg ?_; refine I8 rfl rfl rfl rfl rfl rfl rfl (Es (Zl _ av O fr f i KG hle Q1 hO hl) ?_)
    rintro w S4 ⟨rfl, AT, BA, hO, hl⟩
    refine rr rfl (BC rfl rfl rfl) ?_; refine zg ?_
    refine ⟨X.length + 1 - (i + 1), Q1, i + 1, none, AT, O ++ [br (f, i)], BA, Q1, rfl, ⟨fun h => ?_, fun h => ?_⟩, ⟨fun f h => (by cases h), by rw [ay]; show O.length + 1 ≤ _; omega⟩, hO, sE, hl⟩
    ·rcases Ec with h2 | h2
     ·rw [h2.2] at Dl
      rw [Dl, List.append_assoc]
      rfl
     omega
    rcases Ec with h2 | h2
    ·omega
    rw [h2.2] at Dl
    exact Dl
 obtain rfl := P9 (dF GZ)
 refine zg ?_
 show Fm Tryz.prog Tryz.f46.results.toList (fun v S' => v = AN [] ∧ ∃ av fr, GS av R fr ∧ AB Sb (T :: Us) S' (lf av R.length ++ (fr ++ l)) []) .normal _ S1
 exact Gy rfl ⟨rfl, av, fr, hO, hl⟩
end Go.Proofs.YtnhalpkekpehpaaGreatDoor
namespace Go.Proofs.YtnhalpkekpehpaaGreatDoor
open Go.Cm Go
set_option maxRecDepth 100000
variable {S : St}
variable {nm : ByteArray} [Nonempty (GR nm)]
def F4 (s : Sg) : Bool := (s.kind == 1) || ((s.kind == 2) || (s.kind == 4))
theorem ADt (s : Sg) : CC Tryz.prog KK 44 [s.v] S (fun v S' => AG S S' ∧ v = .bool (F4 s)) := by
 refine ce 16 Tryz.func44 fun hl => ?_; refine zg ?_; refine bL hl fun B1 S1 hl => ?_; refine zA ?_; refine AK (L' := [(1, ptrTo B1 0)]) sE ?_; refine AV rfl (Bz hl 2 (.bool (F4 s)) ?_ rfl ?_)
 ·
  refine zg ?_; refine BH (d := 6) rfl (fun h6 => ?_) (fun h6 => ?_)
  ·
   have h6 : (s.kind == 1) = true := h6
   refine zg ?_
   exact ⟨rfl, bl (by unfold F4; rw [h6]; rfl), sB, hl⟩
  have h6 : (s.kind == 1) = false := h6
  refine zg ?_; refine BH (d := 11) rfl (fun Dv => ?_) (fun Dv => ?_)
  ·
   have Dv : (s.kind == 2) = true := Dv
   refine zg ?_
   exact ⟨rfl, bl (by unfold F4; rw [h6, Dv]; rfl), sB, hl⟩
  have Dv : (s.kind == 2) = false := Dv
  refine zg ?_
  exact ⟨rfl, bl (by unfold F4; rw [h6, Dv]; rfl), sB, hl⟩
 intro S2 hl
 refine zg ?_
 refine y1 rfl ⟨hl.AA, rfl⟩
def DW : List Sg → Nat → List Nt
 | [], _ => []
 | s :: r, i => (bif F4 s then [(i, s)] else []) ++ DW r (i + 1)
theorem l8 : ∀ (C : List Sg) (n : Nat) (s : Sg), DW (C ++ [s]) n = DW C n ++ (bif F4 s then [(n + C.length, s)] else [])
 | [], n, s => by show _ ++ [] = _; rw [List.append_nil]; rfl
 | x :: r, n, s => by
  show _ ++ DW (r ++ [s]) (n + 1) = (_ ++ DW r (n + 1)) ++ _
  rw [l8 r (n + 1) s, List.append_assoc, show n + 1 + r.length = n + (x :: r).length by show _ = n + (r.length + 1); omega]
theorem AAg {C : List Sg} {i : Nat} {s : Sg} (h : nth C i = some s) : DW (C.take (i + 1)) 0 = DW (C.take i) 0 ++ (bif F4 s then [(i, s)] else []) := by
 have hi := CS h
 rw [CJ h, l8, List.length_take, Nat.min_eq_left Q1, Nat.zero_add]
theorem aN : ∀ (C : List Sg) (n : Nat), (DW C n).length ≤ C.length
 | [], _ => Nat.le_refl 0
 | s :: r, n => by
  have := aN r (n + 1)
  unfold DW
  rw [ay]
  cases F4 s
  ·show 0 + _ ≤ _ + 1; omega
  show 1 + _ ≤ _ + 1; omega
def CN (C : List Sg) : List Int := (DW C 0).map DV
theorem ADk (a : Option Addr) (cap : Nat) (C : List Sg) (hn : C.length ≤ 60) (hv : Bh S (.slice a C.length cap) C) : CC Tryz.prog KK 32 [.slice a C.length cap] S (fun v S' => AG S S' ∧ ∃ av, v = .slice av (CN C).length (CN C).length ∧ A5 S' (.slice av (CN C).length (CN C).length) (CN C)) := by
 refine ce 21 Tryz.func32 fun hl => ?_; iterate 2 refine zS ?_
 refine AV rfl ?_; refine zS ?_; refine BF rfl ?_
 have hl := hl.EP (g := gN none []) (.inl ⟨rfl, rfl, rfl⟩)
 refine AK (L' := [(8, .int .i64 (0 : Int)), (7, .int .i64 C.length), (6, .slice a C.length cap), (3, .slice none ([] : List Int).length ([] : List Int).length), (2, .slice none 0 0)]) sE ?_
 refine Au rfl (fun m Le S' => ∃ (i : Nat) (av : Option Addr) (H : List Int), i ≤ C.length ∧ m = C.length - i ∧ H = (DW (C.take i) 0).map DV ∧ Af [(8, .int .i64 (i : Int)), (7, .int .i64 C.length), (6, .slice a C.length cap), (3, .slice av H.length H.length), (2, .slice none 0 0)] Le ∧ AB S [S] S' [] [gN av H]) ?_ (m := C.length) ⟨0, none, [], Q1, Q1, rfl, sE, hl⟩
 clear hl; rintro m Le S' ⟨i, av, H, hi, rfl, hH, AL, hl⟩; refine AK AL ?_
 have YX : H.length ≤ 60 := by
  have h1 := aN (C.take i) 0
  rw [List.length_take] at h1
  rw [hH, cw]
  omega
 refine zg ?_
 constructor <;> intro h9
 ·
  have AJ : i < C.length := dT h9
  obtain ⟨s, hs⟩ := Ac AJ
  obtain ⟨b1, o1, Ai, ha, _, AY, Ab⟩ := hv.elem hs
  have Iu := AAg hs
  refine zg ?_; refine aL hl ((FB.cells.set 0 (.int .i64 0))) fun B5 S2 hl => ?_; refine zg ?_; refine sL hl 0 s.cells fun S3 hl => ?_; refine zg ?_
  refine zc hl rfl (ADt s) ?_; rintro v S4 GD rfl hl
  refine zg ?_
  constructor <;> intro EI
  ·
   rw [EI] at Iu
   refine zg ?_; refine dL hl (ic (i : Int)) Tryz.underlying22 fun IU S5 xN hl => ?_; refine DX hl 0 rfl rfl (show ([3] : List TypeId).Nodup by decide) rfl rfl rfl rfl rfl rfl rfl Tryz.underlying22 Tryz.underlying22 rfl rfl aP (Bf (new := ic (i : Int)) xN rfl) rfl rfl aP (by show H.length + 1 ≤ AQ; unfold AQ; omega) ?_; intro v18 S6 hl
   obtain ⟨AT, rfl⟩ : ∃ x, v18 = .slice x (H.length + 1) (H.length + 1) := AU.is (hl.gr _ aQ)
   refine zg ?_
   refine ⟨C.length - (i + 1), Q1, i + 1, AT, H ++ [(i : Int)], Q1, rfl, by rw [Iu, hH, mAp]; rfl, ⟨rfl, rfl, rfl, congrArg some (congrArg (fun n => Value.slice AT n n) (by rw [ay]; rfl)), rfl, trivial⟩, ?_⟩
   rw [gN, EH]
   exact hl.tail
  rw [EI] at Iu
  refine zg ?_
  exact ⟨C.length - (i + 1), Q1, i + 1, av, H, Q1, rfl, by rw [Iu, hH]; exact congrArg (List.map DV) (List.append_nil _).symm, sE, hl.tail⟩
 have C8 : i = C.length := dF h9
 rw [C8, List.take_length] at hH
 have hH : H = CN C := hH
 subst hH
 refine zg ?_
 exact y1 rfl ⟨hl.AA, av, rfl, AU.ls (f := ic) (fun _ => rfl) (hl.gr _ aQ)⟩
omit [Nonempty (GR nm)] in
theorem ADm (B1 : Nat) (a : Option Addr) (cap : Nat) (C : List Sg) (i : Nat) (s : Sg) (hs : nth C i = some s) (hd : At S B1 (.cells [.string nm, .slice a C.length cap] 25 false true [])) (hv : Bh S (.slice a C.length cap) C) : CC Tryz.prog KK 34 [.int .i64 (i : Int), ptrTo B1 0] S (fun v S' => AG S S' ∧ v = .bool s.color) := by
 refine ce 10 Tryz.func34 fun hl => ?_
 have hi := CS hs
 obtain ⟨b1, o1, Ai, ha, _, AY, Ab⟩ := hv.elem hs
 refine zg ?_
 exact y1 rfl ⟨hl.AA, rfl⟩
theorem ADj (a : Option Addr) (cap : Nat) (C : List Sg) (hG : Gl S) (hn : C.length ≤ 400) (hC : ∀ s, s ∈ C → one s = 0 ∧ s.kind ≠ 4) (hv : Bh S (.slice a C.length cap) C) : CC Tryz.prog KK 31 [AM [.string nm, .slice a C.length cap]] S (fun v S' => AG S S' ∧ v = AN [.slice none 0 0, .slice none 0 0, .int .i64 0]) := by
 refine ce 53 Tryz.func31 fun hl => ?_; refine zg ?_; refine bL hl fun B1 S1 hl => ?_; refine zg ?_
 refine zc hl rfl (oJ a cap C (hG.AA hl.AA) hn hC (hv.move (hl.since 0 rfl))) ?_; rintro v S2 Al rfl hl
 refine zg ?_; refine AK (L' := [(21, .int .i64 (0 : Int)), (20, .int .i64 C.length), (8, .slice none 0 0), (7, .slice none 0 0), (4, .int .i64 0), (3, .slice none 0 0), (2, .slice none 0 0), (1, ptrTo B1 0)]) sE ?_
 refine Au rfl (fun m Le S' => ∃ i : Nat, i ≤ C.length ∧ m = C.length - i ∧ Af [(21, .int .i64 (i : Int)), (20, .int .i64 C.length), (8, .slice none 0 0), (7, .slice none 0 0), (4, .int .i64 0), (3, .slice none 0 0), (2, .slice none 0 0), (1, ptrTo B1 0)] Le ∧ AB S [S] S' [(B1, .cells [.string nm, .slice a C.length cap] 25 false true [])] []) ?_ (m := C.length) ⟨0, Q1, Q1, sE, hl⟩
 clear hl; rintro m Le S' ⟨i, hi, rfl, AL, hl⟩; refine AK AL ?_
 refine zg ?_
 constructor <;> intro M8
 ·
  have AJ : i < C.length := dT M8
  obtain ⟨s, hs⟩ := Ac AJ
  obtain ⟨b1, o1, Ai, ha, _, AY, Ab⟩ := hv.elem hs
  have h4 := (hC s (Am hs)).2
  refine zg ?_
  constructor <;> intro FU
  ·
   refine zg ?_
   exact ⟨C.length - (i + 1), Q1, i + 1, Q1, rfl, sE, hl⟩
  exact absurd (by simpa using FU) h4
 refine zg ?_
 refine CK (A7 rfl (A7 rfl (A7 rfl rfl))) ⟨hl.AA, rfl⟩
theorem AC5 (a : Option Addr) (cap : Nat) (C : List Sg) (p q r t : Int) (hn : C.length ≤ 60) (hm : Ap p q r t = 0) (hX : CA p q r t C) (hG : Gl S) (Cq : Gc S) (hF : Ad S) (hv : Bh S (.slice a C.length cap) C) : CC Tryz.prog KK 16 [AM [.string nm, .slice a C.length cap]] S (fun v S' => AG S S' ∧ v = AN [.slice none 0 0, .int .i64 0]) := by
 refine ce 47 Tryz.func16 fun hl => ?_; refine zg ?_; refine bL hl fun B1 S1 hl => ?_; refine zg ?_
 refine zc hl rfl (cc a cap C p q r t hn hm hX (hG.AA hl.AA) (Cq.AA hl.AA) (hl.AA.3 hF) (hv.move (hl.since 0 rfl))) ?_; rintro v S2 Al ⟨av, rfl, _⟩ hl
 refine zg ?_
 refine zc hl rfl (ADj a cap C (hG.AA hl.AA) Q1 (Zx hm hX) (hv.move (hl.since 0 rfl))) ?_; rintro v S3 Ar rfl hl
 refine zg ?_; refine AK (L' := [(31, .int .i64 0), (30, .int .i64 0), (29, .slice none 0 0), (9, .slice none 0 0), (7, .slice none 0 0), (3, .int .i64 0), (2, .slice none 0 0)]) sE ?_
 refine Au rfl (fun m Le S' => Af [(31, .int .i64 0), (30, .int .i64 0), (29, .slice none 0 0), (9, .slice none 0 0), (7, .slice none 0 0), (3, .int .i64 0), (2, .slice none 0 0)] Le ∧ AB S [S] S' [(B1, .cells [.string nm, .slice a C.length cap] 25 false true [])] []) ?_ (m := 0) ⟨sE, hl⟩
 clear hl; rintro m Le S' ⟨AL, hl⟩; refine AK AL ?_
 refine zg ?_
 refine y2 rfl rfl ⟨hl.AA, rfl⟩
theorem ADl (a : Option Addr) (n cap : Nat) (g : FuncId) (ca : Array Value) : CC Tryz.prog KK 33 [.slice a n cap, .func (.func g) #[] ca] S (fun v S' => ∃ B3 B2, v = .func (.func 48) #[] #[ptrTo B2 0, ptrTo B3 0] ∧ AB S [S] S' [(B3, .cells [.func (.func g) #[] ca] 81 false true []), (B2, .cells [.slice a n cap] 22 false true [])] []) := by
 refine ce 6 Tryz.func33 fun hl => ?_; refine zg ?_; refine bL hl fun B2 S1 hl => ?_; refine bL hl fun B3 S2 hl => ?_; refine zg ?_; refine rr rfl (Fg rfl rfl rfl) ?_; refine zg ?_
 exact y1 rfl ⟨B3, B2, rfl, hl⟩
theorem ADv {Sb S T : St} {Us : List St} {l OO : List (Nat × AD)} (lb B2 B3 B1 : Nat) (lf : Option Addr → Nat → List (Nat × AD)) (br : Nat × Nat → Bk) (a : Option Addr) (cap : Nat) (X : List Int) (is : Int → Bool) (hn : X.length ≤ 100) (hv : A5 T (.slice a X.length cap) X)
  (CB : ∀ av n, (B2, AD.cells [.slice a X.length cap] 22 false true []) ∈ lf av n) (Io : ∀ av n, (B3, AD.cells [.func (.func 34) #[] #[ptrTo B1 0]] 81 false true []) ∈ lf av n)
  (Yz : ∀ (S : St) (av : Option Addr) (n j : Nat) (fr : List (Nat × AD)) (x : Int), AB Sb (T :: Us) S (lf av n ++ (fr ++ l)) [] → nth X j = some x → CC Tryz.prog KK 34 [.int .i64 x, ptrTo B1 0] S (fun v S' => AG S S' ∧ v = .bool (is x)))
  (Zl : ∀ (S : St) (av : Option Addr) (O : List Bk) (fr : List (Nat × AD)) (f t : Nat), f < t → t ≤ X.length → O.length ≤ 1000 → GS av O fr → AB Sb (T :: Us) S (lf av O.length ++ (fr ++ l)) [] → CT Tryz.prog KK (.fn (.yield lb) #[]) [.int .i64 (f : Int), .int .i64 (t : Int)] S fun v S' => v = .returned (.bool true) ∧ ∃ DR AW, GS DR (O ++ [br (f, t)]) AW ∧ AB Sb (T :: Us) S' (lf DR (O ++ [br (f, t)]).length ++ (AW ++ l)) [])
  (av0 : Option Addr) (O0 : List Bk) (Oa : O0.length ≤ 800) (hO : GS av0 O0 OO) (hl : AB Sb (T :: Us) S (lf av0 O0.length ++ (OO ++ l)) []) : CC Tryz.prog KK 48 [.func (.yield lb) #[] #[], ptrTo B2 0, ptrTo B3 0] S (fun v S' => v = AN [] ∧ ∃ av fr, GS av (O0 ++ (Ei (X.map is) 0 none).map br) fr ∧ AB Sb (T :: Us) S' (lf av (O0 ++ (Ei (X.map is) 0 none).map br).length ++ (fr ++ l)) []) := by
 refine ce 42 Tryz.func48 fun _ => ?_
 obtain ⟨R, hR⟩ : ∃ R, R = O0 ++ (Ei (X.map is) 0 none).map br := ⟨_, rfl⟩
 rw [← hR]
 have L4 : (X.map is).length = X.length := List.length_map _
 iterate 2 refine zS ?_
 refine BF rfl ?_; refine AK (L' := [(5, .int .i64 (0 : Int)), (4, .int .i64 (U5 none)), (0, .func (.yield lb) #[] #[]), (1, ptrTo B2 0), (2, ptrTo B3 0)]) sE ?_
 refine Au rfl (fun m Le S' => ∃ (i : Nat) (o : Option Nat) (av : Option Addr) (O : List Bk) (fr : List (Nat × AD)), i ≤ X.length + 1 ∧ m = X.length + 1 - i ∧ ((i ≤ X.length → R = O ++ (Ei ((X.map is).drop i) i o).map br) ∧ (i = X.length + 1 → R = O)) ∧ ((∀ f, o = some f → f < i) ∧ O.length ≤ O0.length + i) ∧ GS av O fr ∧ Af [(5, .int .i64 (i : Int)), (4, .int .i64 (U5 o)), (0, .func (.yield lb) #[] #[]), (1, ptrTo B2 0), (2, ptrTo B3 0)] Le ∧ AB Sb (T :: Us) S' (lf av O.length ++ (fr ++ l)) []) ?_ (m := X.length + 1) ⟨0, none, av0, O0, OO, Q1, Q1, ⟨fun _ => hR, fun h => by omega⟩, ⟨fun f h => (by cases h), Q1⟩, hO, sE, hl⟩
 clear hl hO; rintro m Le S1 ⟨i, o, av, O, fr, hi, rfl, ⟨Dl, P9⟩, ⟨Sh, DN⟩, hO, AL, hl⟩; refine AK AL ?_
 have g2 := LD hl (CB av O.length)
 have g3 := LD hl (Io av O.length)
 refine zg ?_; refine rr rfl (Ba rfl rfl (l1 g2 rfl)) ?_; refine zg ?_
 constructor <;> intro GZ
 ·
  have hle : i ≤ X.length := dT GZ
  have Dl := Dl hle
  obtain ⟨bb, EJ, G3⟩ : ∃ bb : Bool, (∀ x, nth X i = some x → bb = is x) ∧ (i = X.length → bb = false) := by
   cases hx : nth X i with
   | none => exact ⟨false, fun x h => (by cases h), fun _ => rfl⟩
   | some x => exact ⟨is x, fun y h => (by cases h; rfl), fun h => by have := CS hx; omega⟩
  have Ec : ((i < X.length ∧ (X.map is).drop i = bb :: (X.map is).drop (i + 1)) ∨ (i = X.length ∧ (X.map is).drop i = [])) := by
   by_cases h : i < X.length
   ·obtain ⟨x, hx⟩ := Ac h
    exact .inl ⟨h, by rw [EJ x hx]; exact D4 (Dc is hx)⟩
   exact .inr ⟨Q1, List.drop_eq_nil_of_le Q1⟩
  refine Fl rfl ?_; refine AV rfl ?_; refine BF rfl ?_; refine AV rfl (Bz hl 6 (.bool bb) ?_ rfl ?_)
  ·
   refine A4 (idx := [0, 1, 2, 3, 4, 5, 6, 7, 8, 9, 10, 11, 12]) rfl aP aP ?_; refine zg ?_; refine pk rfl (Ba rfl rfl (l1 g2 rfl)) ?_; refine zg ?_; refine Ej (d := 17) rfl (fun HR => ?_) (fun HR => ?_)
   ·
    have AJ : i < X.length := dT HR
    obtain ⟨x, hx⟩ := Ac AJ
    obtain ⟨b1, o1, Ai, ha, _, AY, Ab⟩ := (hv.move (hl.since 0 rfl)).elem hx
    rw [EJ x hx]
    refine zg ?_; refine pk rfl (Ba rfl rfl (l1 g3 rfl)) ?_; refine pk rfl (Ba rfl rfl (l1 g2 rfl)) ?_; refine zg ?_
    have DT := hl
    refine zp hl rfl (Yz _ av O.length i fr x hl hx) ?_; rintro v S4 GD rfl hl
    have YI := LD hl (CB av O.length)
    have YJ := LD hl (Io av O.length)
    refine ⟨by repeat (first| exact trivial| refine PK ?_| (refine ⟨by first| exact sZ| exact kl tt (HC rfl rfl (l1 YI rfl) aP rfl)| exact kl tt (HC rfl rfl (l1 YJ rfl) aP rfl)| exact kl tt (HC rfl rfl qL sQ rfl)| exact Wt rfl rfl rfl sQ rfl, ?_⟩)), ?_⟩
    refine zg ?_
    exact ⟨rfl, rfl, sB, hl⟩
   have L6 := G3 (dF HR)
   refine zg ?_
   exact ⟨rfl, bl (by rw [L6]), sB, hl⟩
  intro S3 hl
  clear g2 g3
  cases bb with
  | true =>
   have AJ : i < X.length := by
    rcases Ec with h | h
    ·exact h.1
    cases G3 h.1
   have QB : (X.map is).drop i = true :: (X.map is).drop (i + 1) := by
    rcases Ec with h | h
    ·exact h.2
    omega
   rw [QB] at Dl
   cases o with
   | none =>
    refine zg ?_; refine rr rfl (BC rfl rfl rfl) ?_; refine zg ?_
    exact ⟨X.length + 1 - (i + 1), Q1, i + 1, some i, av, O, fr, Q1, rfl, ⟨fun _ => Dl, fun h => by omega⟩, ⟨fun f h => (by cases h; omega), Q1⟩, hO, sE, hl⟩
   | some f =>
    have KG := Sh f rfl
    refine zg ?_; refine rr rfl (BC rfl rfl rfl) ?_; refine zg ?_
    exact ⟨X.length + 1 - (i + 1), Q1, i + 1, some f, av, O, fr, Q1, rfl, ⟨fun _ => Dl, fun h => by omega⟩, ⟨fun g h => (by cases h; omega), Q1⟩, hO, sE, hl⟩
  | false =>
   cases o with
   | none =>
    refine zg ?_; refine rr rfl (BC rfl rfl rfl) ?_; refine zg ?_
    refine ⟨X.length + 1 - (i + 1), Q1, i + 1, none, av, O, fr, Q1, rfl, ⟨fun h => ?_, fun h => ?_⟩, ⟨fun f h => (by cases h), Q1⟩, hO, sE, hl⟩
    ·rcases Ec with h2 | h2
     ·rw [h2.2] at Dl; exact Dl
     omega
    rcases Ec with h2 | h2
    ·omega
    rw [h2.2] at Dl
    rw [Dl]
    exact List.append_nil _
   | some f =>
    have KG := Sh f rfl
    refine zg ?_; refine rr rfl (BC rfl rfl rfl) ?_; refine zg ?_; refine I8 rfl rfl rfl rfl rfl rfl rfl (Es (Zl _ av O fr f i KG hle Q1 hO hl) ?_)
    rintro w S4 ⟨rfl, AT, BA, hO, hl⟩
    refine rr rfl (BC rfl rfl rfl) ?_; refine zg ?_
    refine ⟨X.length + 1 - (i + 1), Q1, i + 1, none, AT, O ++ [br (f, i)], BA, Q1, rfl, ⟨fun h => ?_, fun h => ?_⟩, ⟨fun f h => (by cases h), by rw [ay]; show O.length + 1 ≤ _; omega⟩, hO, sE, hl⟩
    ·rcases Ec with h2 | h2
     ·rw [h2.2] at Dl
      rw [Dl, List.append_assoc]
      rfl
     omega
    rcases Ec with h2 | h2
    ·omega
    rw [h2.2] at Dl
    exact Dl
 obtain rfl := P9 (dF GZ)
 refine zg ?_
 show Fm Tryz.prog Tryz.f48.results.toList (fun v S' => v = AN [] ∧ ∃ av fr, GS av R fr ∧ AB Sb (T :: Us) S' (lf av R.length ++ (fr ++ l)) []) .normal _ S1
 exact Gy rfl ⟨rfl, av, fr, hO, hl⟩
noncomputable def FN : Code := pA (pB (pA (pB (pB (pB (pB (cb Tryz.f17)))))))
structure Fk where
 lb : Nat
 db : Nat
 b7 : Nat
 b6 : Nat
 b1 : Nat
 e3 : Nat
 e2 : Nat
 t : Tm
 a : Option Addr
 cap : Nat
 C : List Sg
 an : Option Addr
 N : List Int
 nm : ByteArray
noncomputable def Fk.l (z : Fk) (av : Option Addr) (n : Nat) : List (Nat × AD) := [(z.b7, .cells [.slice av n n] 35 false true []), (z.lb, .loop .ready none 40 z.t (BO FN) (BL FN) (BN FN) z.db), (z.db, .defs false), (z.b6, AD.cells [.slice z.an z.N.length z.N.length] 22 false true []), (z.b1, .cells [.string z.nm, .slice z.a z.C.length z.cap] 25 false true []), (z.e3, .cells [.func (.func 34) #[] #[ptrTo z.b1 0]] 81 false true []), (z.e2, AD.cells [.slice z.an z.N.length z.N.length] 22 false true [])]
noncomputable def Fk.k (z : Fk) (av : Option Addr) (n : Nat) : List (Nat × AD) := [(z.b7, .cells [.slice av n n] 35 false true []), (z.lb, .loop .busy none 40 z.t (BO FN) (BL FN) (BN FN) z.db), (z.db, .defs false), (z.b6, AD.cells [.slice z.an z.N.length z.N.length] 22 false true []), (z.b1, .cells [.string z.nm, .slice z.a z.C.length z.cap] 25 false true []), (z.e3, .cells [.func (.func 34) #[] #[ptrTo z.b1 0]] 81 false true []), (z.e2, AD.cells [.slice z.an z.N.length z.N.length] 22 false true [])]
def HJ (k : Int) (N : List Int) (w : Nat × Nat) : Bk := ⟨k, (nth N w.1).getD 0, (nth N (w.2 - 1)).getD 0⟩
theorem ABy {Sb S T : St} {Us : List St} (hF : Ad Sb) (z : Fk) (hz : Has 40 ⟨40, z.t, []⟩ [(7, ptrTo z.b7 0), (6, ptrTo z.b6 0)]) (hN : A5 T (.slice z.an z.N.length z.N.length) z.N) (ur : z.N.length ≤ 100) {l fr : List (Nat × AD)} {av : Option Addr} {O : List Bk} (f t : Nat) (SP : f < t) (ht : t ≤ z.N.length) (hn : O.length ≤ 1000) (hO : GS av O fr) (hl : AB Sb (T :: Us) S (z.l av O.length ++ (fr ++ l)) []) :
  CT Tryz.prog KK (.fn (.yield z.lb) #[]) [.int .i64 (f : Int), .int .i64 (t : Int)] S fun v S' => v = .returned (.bool true) ∧ ∃ DR AW, GS DR (O ++ [HJ 2 z.N (f, t)]) AW ∧ AB Sb (T :: Us) S' (z.l DR (O ++ [HJ 2 z.N (f, t)]).length ++ (AW ++ l)) [] := by
 obtain ⟨x, hx⟩ := Ac (l := z.N) (i := f) Q1
 obtain ⟨y, hy⟩ := Ac (l := z.N) (i := t - 1) Q1
 have eb : HJ 2 z.N (f, t) = ⟨2, x, y⟩ := by unfold HJ; rw [hx, hy]; rfl
 rw [eb]
 refine Lq (hl.get 1 rfl) hz rfl rfl ?_; refine zg ?_
 refine ⟨rfl, _, _, _, _, _, _, _, hl.get 1 rfl, ?_⟩
 have hl := hl.put (k := 1) rfl rfl (.loop .busy none 40 z.t (BO FN) (BL FN) (BN FN) z.db)
 have hl : AB Sb (T :: Us) _ (z.k av O.length ++ (fr ++ l)) [] := hl
 obtain ⟨b1, o1, Ai, ha, AY, Ab, FI⟩ := (hN.move (hl.since 0 rfl)).Pq hx hy
 have ej : (((t : Int)) - 1).toNat = t - 1 := by omega
 rw [← ej] at FI
 refine zg ?_; refine A4 (idx := [0, 1, 2, 3, 4, 5, 6, 7, 8, 9, 10, 11, 12, 13]) rfl aP aP ?_; refine zg ?_; refine pr rfl (Ak rfl rfl (v := AM (Bk.cells ⟨2, x, y⟩)) (by rfl)) ?_; refine PC hF hl rfl rfl rfl rfl rfl Tryz.underlying35 rfl (c := Bk.cells ⟨2, x, y⟩) aP ?_; intro RC S3 jR Om hl
 have hl : AB Sb (T :: Us) _ ([(z.b7, .cells [.slice av O.length O.length] 35 false true []), (z.lb, .loop .busy none 40 z.t (BO FN) (BL FN) (BN FN) z.db), (z.db, .defs false), (z.b6, .cells [.slice z.an z.N.length z.N.length] 22 false true []), (z.b1, .cells [.string z.nm, .slice z.a z.C.length z.cap] 25 false true []), (z.e3, .cells [.func (.func 34) #[] #[ptrTo z.b1 0]] 81 false true []), (z.e2, .cells [.slice z.an z.N.length z.N.length] 22 false true [])] ++ (fr ++ l)) [] := hl
 refine Md hl hO rfl rfl rfl rfl rfl rfl rfl Tryz.underlying35 Tryz.underlying35 rfl rfl (by decide) aP (Bf (n := 1) (cap := 1) (new := Bk.cells ⟨2, x, y⟩) Om rfl) rfl rfl aP (by show O.length + 1 ≤ AQ; unfold AQ; omega) ?_; intro o7 BA S4 Aw hl; refine ⟨zt, ?_⟩
 obtain ⟨AT, rfl⟩ := Aw.is
 refine pL hl 0 [.slice AT (O.length + 1) (O.length + 1)] (h := fun S5 hl => ⟨zt, ?_⟩)
 refine zg ?_
 refine ⟨_, _, _, _, _, _, _, _, hl.get 1 rfl, rfl, AT, BA, Aw.push, ?_⟩
 rw [show (O ++ [Bk.mk 2 x y]).length = O.length + 1 by rw [ay]; rfl]
 exact hl.put (k := 1) rfl rfl (.loop .ready none 40 z.t (BO FN) (BL FN) (BN FN) z.db)
abbrev Ko := AZ 40 3 Bk.cells
def HK (C : List Sg) (i : Int) : Bool := match nth C i.toNat with
 | some s => s.color
 | none => false
def Cp (C : List Sg) : List Bk := (Ei ((CN C).map (HK C)) 0 none).map (HJ 2 (CN C))
theorem Qc : ∀ {C : List Sg} {n : Nat} {e : Nt}, e ∈ DW C n → n ≤ e.1 ∧ nth C (e.1 - n) = some e.2 ∧ F4 e.2 = true
 | [], _, _, h => (List.not_mem_nil h).elim
 | s :: r, n, e, h => by
  unfold DW at h
  rcases List.mem_append.1 h with h | h
  ·cases hs : F4 s with
   | false => rw [hs] at h; exact (List.not_mem_nil h).elim
   | true =>
    rw [hs] at h
    rw [List.mem_singleton.1 h]
    exact ⟨Nat.le_refl n, by rw [Nat.sub_self]; rfl, hs⟩
  obtain ⟨h1, h2, h3⟩ := Qc h
  refine ⟨Q1, ?_, h3⟩
  rw [show e.1 - n = (e.1 - (n + 1)) + 1 by omega]
  exact h2
theorem AAe {C : List Sg} {j : Nat} {x : Int} (h : nth (CN C) j = some x) : ∃ (i : Nat) (s : Sg), x = (i : Int) ∧ nth C i = some s ∧ HK C x = s.color := by
 obtain ⟨e, he, rfl⟩ := List.mem_map.1 (Am h)
 obtain ⟨_, h2, _⟩ := Qc he
 rw [Nat.sub_zero] at h2
 refine ⟨e.1, e.2, rfl, h2, ?_⟩
 unfold HK DV
 rw [show ((e.1 : Int)).toNat = e.1 by omega, h2]
theorem Tn : ∀ (B : List Bool) (i : Nat) (o : Option Nat), (Ei B i o).length ≤ B.length + 1
 | [], _, none => Nat.zero_le _
 | [], _, some _ => Nat.le_refl 1
 | true :: r, i, none => by have := Tn r (i + 1) (some i); show (Ei r (i + 1) (some i)).length ≤ r.length + 1 + 1; omega
 | true :: r, i, some f => by have := Tn r (i + 1) (some f); show (Ei r (i + 1) (some f)).length ≤ r.length + 1 + 1; omega
 | false :: r, i, none => by have := Tn r (i + 1) none; show (Ei r (i + 1) none).length ≤ r.length + 1 + 1; omega
 | false :: r, i, some f => by have := Tn r (i + 1) none; show (Ei r (i + 1) none).length + 1 ≤ r.length + 1 + 1; omega
theorem AAf (C : List Sg) : (CN C).length ≤ C.length := by unfold CN; rw [cw]; exact aN C 0
theorem oB (a : Option Addr) (cap : Nat) (C : List Sg) (p q r t : Int) (hn : C.length ≤ 60) (hm : Ap p q r t = 0) (hX : CA p q r t C) (hG : Gl S) (Cq : Gc S) (hF : Ad S) (hv : Bh S (.slice a C.length cap) C) : CC Tryz.prog KK 17 [AM [.string nm, .slice a C.length cap]] S (fun v S' => AG S S' ∧ ∃ av, v = AN [.slice av (Cp C).length (Cp C).length, .int .i64 0] ∧ Ko S' (.slice av (Cp C).length (Cp C).length) (Cp C)) := by
 refine cm 40 Tryz.func17 fun hl => ?_
 have uv := AAf C
 refine BX rfl (BE ?_); refine zg ?_; refine bL hl fun B1 S1 hl => ?_; refine zg ?_; refine BX rfl (BE ?_); refine zg ?_
 refine zc hl rfl (cc a cap C p q r t hn hm hX (hG.AA hl.AA) (Cq.AA hl.AA) (hl.AA.3 hF) (hv.move (hl.since 0 rfl))) ?_; rintro v S2 Al ⟨_, rfl, _⟩ hl
 refine zg ?_; refine BX rfl (BE ?_); refine zg ?_
 refine zc hl rfl (ADk a cap C hn (hv.move (hl.since 0 rfl))) ?_; rintro v S3 Bt ⟨an, rfl, hN⟩ hl
 have hl := hl.mark
 refine aL hl [.slice none 0 0] fun B6 S6 hl => ?_; refine sL hl 0 [.slice an (CN C).length (CN C).length] fun S7 hl => ?_; refine zg ?_; refine BX rfl (BE ?_); refine zg ?_; refine aL hl [.slice none 0 0] fun B7 S8 hl => ?_; refine zg ?_; refine BX rfl ?_; refine BX rfl (BE ?_); refine zg ?_; refine rr rfl (Fg rfl rfl rfl) ?_; refine zg ?_
 refine Ct rfl rfl rfl rfl rfl rfl rfl (Bp (ADl an (CN C).length (CN C).length 34 #[ptrTo B1 0]) ?_); rintro v S9 ⟨e3, e2, rfl, hb⟩
 have hl := hl.Zq hb
 refine zg ?_; refine Kl rfl (Mh rfl rfl rfl aP ?_)
 intro t1 ht
 have ht := ht.sub (L' := [(7, ptrTo B7 0), (6, ptrTo B6 0)]) sE
 have hl := (hl.new (.defs false)).new (.loop .ready none 40 t1 (BO FN) (BL FN) (BN FN) S9.size)
 let z : Fk := ⟨S9.size + 1, S9.size, B7, B6, B1, e3, e2, t1, a, cap, C, an, CN C, nm⟩
 have hl := hl.perm (l' := z.l none 0 ++ ([] ++ [])) (by
  show List.Perm [_, _, _, _, _, _, _] [_, _, _, _, _, _, _]
  exact (List.perm_append_comm (l₁ := [_, _]) (l₂ := [_])).append_right [_, _, _, _])
 refine Es (Lp (Mu (ADv (S := _) (Sb := S) (T := S3) (Us := [S]) z.lb z.e2 z.e3 z.b1 z.l (HJ 2 (CN C)) an (CN C).length (CN C) (HK C) Q1 hN (fun av n => ?_) (fun av n => ?_) (fun S av n j fr x hl hx => ?_) (fun S av O fr f t SP Ot R9 hO hl => ABy hF z ht hN (by show (CN C).length ≤ 100; omega) f t SP Ot R9 hO hl) none [] (by show 0 ≤ 800; omega) (.inl ⟨rfl, rfl, rfl, rfl⟩) hl))) ?_
 ·exact Am (k := 6) rfl
 ·exact Am (k := 5) rfl
 ·obtain ⟨i, s, rfl, hs, hc⟩ := AAe hx
  rw [hc]
  have hb := hl.at_ z.b1 _ (List.mem_append.2 (.inl (Am (k := 4) rfl)))
  exact ADm B1 a cap C i s hs ⟨fun k => (k.2 _ hb.2.2).trans hb.1⟩ (hv.move (hl.since 1 rfl))
 clear hl
 rintro w Co ⟨v, rfl, rfl, av, fr, hO, hl⟩
 rw [List.nil_append] at hO hl
 refine ⟨_, _, _, _, _, _, _, _, hl.get 1 rfl, rfl, ?_⟩
 have hl := hl.put (k := 1) rfl rfl (.loop .exhausted none 40 t1 (BO FN) (BL FN) (BN FN) S9.size)
 refine BX rfl (BE ?_); refine zg ?_; refine BE (Mi rfl ?_)
 have Fy := hl.get 2 rfl
 have hl : AB S [S3, S] _ ([(B7, .cells [.slice av (Cp C).length (Cp C).length] 35 false true []), (S9.size + 1, _), (S9.size, .defs true), (B6, _), (B1, _), (e3, _), (e2, _)] ++ (fr ++ [])) [] := hl.put (k := 2) rfl rfl (.defs true)
 exact ⟨_, _, PN Fy, A7 rfl (A7 rfl rfl), hl.AA, av, rfl, OW.at_ (f := Bk.cells) (fun _ => rfl) hO hl (Ef (q := [_, _, _, _, _, _, _]))⟩
noncomputable def FM : Code := pA (pB (pB (pA (pA (pB (pB (pA (pA (pB (pA (pB (pB (pB (pB (cb Tryz.f15)))))))))))))))
structure Fh where
 lb : Nat
 db : Nat
 b7 : Nat
 b8 : Nat
 b5 : Nat
 b1 : Nat
 e3 : Nat
 e2 : Nat
 t : Tm
 a : Option Addr
 cap : Nat
 C : List Sg
 aA : Option Addr
 W : List Bs
 k : Nat
 w : Bs
 nm : ByteArray
noncomputable def Fh.l (z : Fh) (av : Option Addr) (n : Nat) : List (Nat × AD) := [(z.b7, .cells [.slice av n n] 35 false true []), (z.lb, .loop .ready none 53 z.t (BO FM) (BL FM) (BN FM) z.db), (z.db, .defs false), (z.b8, .cells [.int .i64 (z.k : Int)] 3 false true []), (z.b5, AD.cells [.slice z.aA z.W.length z.W.length] 64 false true []), (z.b1, .cells [.string z.nm, .slice z.a z.C.length z.cap] 25 false true []), (z.e3, .cells [.func (.func 30) #[] #[]] 76 false true []), (z.e2, .cells [.slice z.w.aB z.w.D.length z.w.D.length] 44 false true [])]
noncomputable def Fh.k2 (z : Fh) (av : Option Addr) (n : Nat) : List (Nat × AD) := [(z.b7, .cells [.slice av n n] 35 false true []), (z.lb, .loop .busy none 53 z.t (BO FM) (BL FM) (BN FM) z.db), (z.db, .defs false), (z.b8, .cells [.int .i64 (z.k : Int)] 3 false true []), (z.b5, AD.cells [.slice z.aA z.W.length z.W.length] 64 false true []), (z.b1, .cells [.string z.nm, .slice z.a z.C.length z.cap] 25 false true []), (z.e3, .cells [.func (.func 30) #[] #[]] 76 false true []), (z.e2, .cells [.slice z.w.aB z.w.D.length z.w.D.length] 44 false true [])]
theorem ABx {Sb S T : St} {Us : List St} (hF : Ad Sb) (z : Fh) (hz : Has 53 ⟨53, z.t, []⟩ [(7, ptrTo z.b7 0), (8, ptrTo z.b8 0), (5, ptrTo z.b5 0)]) (hW : dm T (.slice z.aA z.W.length z.W.length) z.W) (hw : nth z.W z.k = some z.w) (hN : A5 T (.slice z.w.aH z.w.H.length z.w.H.length) z.w.H) (ur : z.w.H.length ≤ 100) {l fr : List (Nat × AD)} {av : Option Addr} {O : List Bk} (f t : Nat) (SP : f < t) (ht : t ≤ z.w.H.length) (hn : O.length ≤ 1000) (hO : GS av O fr) (hl : AB Sb (T :: Us) S (z.l av O.length ++ (fr ++ l)) []) :
  CT Tryz.prog KK (.fn (.yield z.lb) #[]) [.int .i64 (f : Int), .int .i64 (t : Int)] S fun v S' => v = .returned (.bool true) ∧ ∃ DR AW, GS DR (O ++ [HJ 3 z.w.H (f, t)]) AW ∧ AB Sb (T :: Us) S' (z.l DR (O ++ [HJ 3 z.w.H (f, t)]).length ++ (AW ++ l)) [] := by
 obtain ⟨x, hx⟩ := Ac (l := z.w.H) (i := f) Q1
 obtain ⟨y, hy⟩ := Ac (l := z.w.H) (i := t - 1) Q1
 have eb : HJ 3 z.w.H (f, t) = ⟨3, x, y⟩ := by unfold HJ; rw [hx, hy]; rfl
 have hkW := CS hw
 rw [eb]
 refine Lq (hl.get 1 rfl) hz rfl rfl ?_; refine zg ?_
 refine ⟨rfl, _, _, _, _, _, _, _, hl.get 1 rfl, ?_⟩
 have hl := hl.put (k := 1) rfl rfl (.loop .busy none 53 z.t (BO FM) (BL FM) (BN FM) z.db)
 have hl : AB Sb (T :: Us) _ (z.k2 av O.length ++ (fr ++ l)) [] := hl
 obtain ⟨b3, o3, Po, SB, _, ZN, Sq⟩ := (hW.move (hl.since 0 rfl)).elem hw
 obtain ⟨b1, o1, Ai, ha, AY, Ab, FI⟩ := (hN.move (hl.since 0 rfl)).Pq hx hy
 have ej : (((t : Int)) - 1).toNat = t - 1 := by omega
 rw [← ej] at FI
 have Sq : takeN 1 (BW (o3 + z.k * 1) Po) = some [.slice z.w.aH z.w.H.length z.w.H.length] := Sq
 refine zg ?_; refine A4 (idx := [0, 1, 2, 3, 4, 5, 6, 7, 8, 9, 10, 11, 12, 13, 14, 15, 16, 17, 18, 19]) rfl aP aP ?_; refine zg ?_; refine pr rfl (Ak rfl rfl (v := AM (Bk.cells ⟨3, x, y⟩)) (by rfl)) ?_; refine PC hF hl rfl rfl rfl rfl rfl Tryz.underlying35 rfl (c := Bk.cells ⟨3, x, y⟩) aP ?_; intro RC S3 jR Om hl
 have hl : AB Sb (T :: Us) _ ([(z.b7, .cells [.slice av O.length O.length] 35 false true []), (z.lb, .loop .busy none 53 z.t (BO FM) (BL FM) (BN FM) z.db), (z.db, .defs false), (z.b8, .cells [.int .i64 (z.k : Int)] 3 false true []), (z.b5, AD.cells [.slice z.aA z.W.length z.W.length] 64 false true []), (z.b1, .cells [.string z.nm, .slice z.a z.C.length z.cap] 25 false true []), (z.e3, .cells [.func (.func 30) #[] #[]] 76 false true []), (z.e2, .cells [.slice z.w.aB z.w.D.length z.w.D.length] 44 false true [])] ++ (fr ++ l)) [] := hl
 refine Md hl hO rfl rfl rfl rfl rfl rfl rfl Tryz.underlying35 Tryz.underlying35 rfl rfl (by decide) aP (Bf (n := 1) (cap := 1) (new := Bk.cells ⟨3, x, y⟩) Om rfl) rfl rfl aP (by show O.length + 1 ≤ AQ; unfold AQ; omega) ?_; intro o7 BA S4 Aw hl; refine ⟨zt, ?_⟩
 obtain ⟨AT, rfl⟩ := Aw.is
 refine pL hl 0 [.slice AT (O.length + 1) (O.length + 1)] (h := fun S5 hl => ⟨zt, ?_⟩)
 refine zg ?_
 refine ⟨_, _, _, _, _, _, _, _, hl.get 1 rfl, rfl, AT, BA, Aw.push, ?_⟩
 rw [show (O ++ [Bk.mk 3 x y]).length = O.length + 1 by rw [ay]; rfl]
 exact hl.put (k := 1) rfl rfl (.loop .ready none 53 z.t (BO FM) (BL FM) (BN FM) z.db)
def Up (e : List Bool × List Int) : List Bk := (Ei (e.1.map fun x => !x) 0 none).map (HJ 3 e.2)
def BT (L : List (List Bool × List Int)) : List Bk := L.flatMap Up
theorem fg : ∀ (L : List (List Bool × List Int)), (BT L).length ≤ (L.map fun e => e.1.length).sum + L.length
 | [] => Nat.le_refl 0
 | e :: L => by
  have h1 := fg L
  have h2 := Tn (e.1.map fun x => !x) 0 none
  rw [cw] at h2
  unfold BT at h1 ⊢
  rw [List.flatMap_cons, ay, List.map_cons, List.sum_cons, List.length_cons]
  have h3 : (Up e).length ≤ e.1.length + 1 := by unfold Up; rw [cw]; exact h2
  omega
theorem so {W : List Bs} {k : Nat} {w : Bs} (h : nth W k = some w) : BT ((W.take (k + 1)).map Bs.Av) = BT ((W.take k).map Bs.Av) ++ Up w.Av := by
 unfold BT
 rw [CJ h, mAp, List.flatMap_append]
 simp
theorem sm (W : List Bs) (k : Nat) : (BT ((W.take k).map Bs.Av)).length ≤ En W + W.length := by
 have h1 := fg ((W.take k).map Bs.Av)
 have h2 := RA W k
 unfold En at h2
 rw [List.map_map, cw, List.length_take] at h1
 have h3 : (W.take k).map ((fun e : List Bool × List Int => e.1.length) ∘ Bs.Av) = (W.take k).map fun w => w.D.length := rfl
 rw [h3] at h1
 unfold En
 omega
theorem az {b : Nat} {x y : AD} {p : Nat × AD} : ∀ {l : List (Nat × AD)} {i : Nat}, nth l i = some (b, x) → p ∈ l → p.1 ≠ b → p ∈ Gt i y l
 | q :: l, 0, hi, hp, AR => by
  have e : q = (b, x) := Option.some.inj hi
  rcases List.mem_cons.1 hp with h | h
  ·rw [h, e] at AR; exact absurd rfl AR
  cases q; exact cy h
 | q :: l, i + 1, hi, hp, AR => by
  have hr : p ∈ l → p ∈ Gt i y l := fun h => az (y := y) (l := l) (i := i) hi h AR
  rcases List.mem_cons.1 hp with h | h
  ·rw [h]; cases q; exact List.mem_cons_self
  cases q; exact cy (hr h)
theorem ot {S0 : St} {Ts : List St} : ∀ (ks : List Nat) {S : St} {l : List (Nat × AD)}, ks.Nodup → AB S0 Ts S l [] → (∀ k, k ∈ ks → (k, AD.defs false) ∈ l) → ∃ S2 l2, Fj (ks.map IH) S = some S2 ∧ AB S0 Ts S2 l2 [] ∧ ∀ p, p ∈ l → p.1 ∉ ks → p ∈ l2
 | [], S, l, _, hl, _ => ⟨S, l, rfl, hl, fun p hp _ => hp⟩
 | k :: ks, S, l, hn, hl, hm => by
  obtain ⟨i, hi⟩ := KX (hm k aQ)
  have hg := hl.get i hi
  have FH := List.nodup_cons.1 hn
  have Bu := hl.put hi rfl (.defs true)
  obtain ⟨S2, l2, h1, h2, h3⟩ := ot ks FH.2 Bu (fun j hj => az hi (hm j (cy hj)) (fun e => FH.1 (e ▸ hj)))
  refine ⟨S2, l2, ?_, h2, fun p hp AR => h3 p (az hi hp (fun e => AR (e ▸ aQ))) (fun hk => AR (cy hk))⟩
  show Fj (IH k :: ks.map IH) S = _
  unfold IH Fj
  rw [hg]
  exact h1
theorem AAt {α : Type} (A B X F E : List α) : (A ++ (B ++ (X ++ (F ++ E)))).Perm (B ++ (A ++ (X ++ (E ++ F)))) := by
 classical
 rw [List.perm_iff_count]
 intro a
 simp only [List.count_append]
 omega
theorem AAu {α : Type} (A B X F R : List α) : (A ++ (B ++ (X ++ (F ++ R)))).Perm (A ++ (X ++ (F ++ (B ++ R)))) := by
 classical
 rw [List.perm_iff_count]
 intro a
 simp only [List.count_append]
 omega
theorem AAo {v : Value} {e : TypeId} {z m : Nat} {c : List Value} {fr : List (Nat × AD)} (h : OW v e z c m fr) : ∀ p, p ∈ fr → ∃ c2 g own kin, p.2 = AD.cells c2 e g own kin := fun p hp => by
 rcases h with ⟨_, _, _, rfl⟩ | ⟨b, dd, _, _, rfl, Od⟩
 ·exact (List.not_mem_nil hp).elim
 rcases List.mem_cons.1 hp with rfl | hp
 ·exact ⟨_, _, _, _, rfl⟩
 obtain ⟨c2, own, kin, h⟩ := Od p hp
 exact ⟨c2, _, own, kin, h⟩
theorem cP (a : Option Addr) (cap : Nat) (C : List Sg) (p q r t : Int) (hn : C.length ≤ 60) (hm : Ap p q r t = 0) (hX : CA p q r t C) (hG : Gl S) (Cq : Gc S) (Dk : Gh S) (hF : Ad S) (hv : Bh S (.slice a C.length cap) C) (CL : C7 C ≤ 12) : CC Tryz.prog KK 15 [AM [.string nm, .slice a C.length cap]] S (fun v S' => AG S S' ∧ match Cu [p, q, r, t] t (A2 C) with
  | none => v = AN [.slice none 0 0, .int .i64 14]
  | some L => ∃ av, v = AN [.slice av (BT L).length (BT L).length, .int .i64 0] ∧ Ko S' (.slice av (BT L).length (BT L).length) (BT L)) := by
 refine cm 53 Tryz.func15 fun hl => ?_
 have So := Wb C
 refine BX rfl (BE ?_); refine zg ?_; refine bL hl fun B1 S1 hl => ?_; refine zg ?_; refine BX rfl (BE ?_); refine zg ?_
 refine zc hl rfl (oH a cap C p q r t hn hm hX (hG.AA hl.AA) (Cq.AA hl.AA) (Dk.AA hl.AA) (hl.AA.3 hF) (hv.move (hl.since 0 rfl)) CL) ?_; rintro v S2 Al BY hl
 cases hL : Cu [p, q, r, t] t (A2 C) with
 | none =>
  rw [hL] at BY
  have BY : v = AN [.slice none 0 0, .slice none 0 0, .int .i64 14] := BY
  subst BY
  refine zg ?_; refine aL hl [.slice none 0 0] fun B5 S3 hl => ?_; refine zg ?_; refine sL hl 0 [.slice none 0 0] fun S4 hl => ?_; refine zg ?_; refine BX rfl (BE ?_); refine zg ?_
  exact ⟨_, _, rfl, A7 rfl (A7 rfl rfl), hl.AA, rfl⟩
 | some L =>
  rw [hL] at BY
  obtain ⟨aS, aA, W, rfl, hW, h1, h2, A3⟩ := BY
  have SX := (ox hW).1
  obtain ⟨h5, h6⟩ := Nx _ hL
  rw [Wa, ← SX] at h5
  have iy : W.length = (A2 C).length := by rw [← bh _ hL, ← hW, cw]
  have hl := hl.mark
  refine zg ?_; refine aL hl [.slice none 0 0] fun B5 S3 hl => ?_; refine zg ?_; refine sL hl 0 [.slice aA W.length W.length] fun S4 hl => ?_; refine zg ?_; refine BX rfl (BE ?_); refine zg ?_; refine BX rfl (BE ?_); refine zg ?_; refine aL hl [.slice none 0 0] fun B7 S5 hl => ?_; refine zg ?_; refine BX rfl ?_; refine BX rfl (BE ?_); refine zg ?_; refine Kl rfl ?_
  have hl : AB S [S2, S] S5 ([(B7, AD.cells [.slice none 0 0] 35 false true []), (B5, .cells [.slice aA W.length W.length] 64 false true []), (B1, .cells [.string nm, .slice a C.length cap] 25 false true [])] ++ ([] ++ [])) [] := hl
  refine pD (L' := [(22, .int .i64 (0 : Int)), (21, .int .i64 W.length), (7, ptrTo B7 0), (5, ptrTo B5 0), (4, .slice aS W.length W.length), (2, .slice none 0 0), (3, .int .i64 0)]) sE ?_
  refine AFH rfl (fun m Le S' ds => ∃ (k : Nat) (av : Option Addr) (fr rest : List (Nat × AD)) (kz : List Nat), k ≤ W.length ∧ m = W.length - k ∧ GS av (BT ((W.take k).map Bs.Av)) fr ∧ ds = kz.map IH ∧ (∀ j, j ∈ kz → (j, AD.defs false) ∈ rest) ∧ kz.Nodup ∧ Af [(22, .int .i64 (k : Int)), (21, .int .i64 W.length), (7, ptrTo B7 0), (5, ptrTo B5 0), (4, .slice aS W.length W.length), (2, .slice none 0 0), (3, .int .i64 0)] Le ∧ AB S [S2, S] S' ([(B7, AD.cells [.slice av (BT ((W.take k).map Bs.Av)).length (BT ((W.take k).map Bs.Av)).length] 35 false true []), (B5, .cells [.slice aA W.length W.length] 64 false true []), (B1, .cells [.string nm, .slice a C.length cap] 25 false true [])] ++ (fr ++ rest)) []) ?_ (m := W.length) ⟨0, none, [], [], [], Q1, Q1, .inl ⟨rfl, rfl, rfl, rfl⟩, rfl, (fun j hj => (List.not_mem_nil hj).elim), List.nodup_nil, sE, hl⟩
  clear hl; rintro m Le Sk ds ⟨k, av, fr, rest, kz, hk, rfl, hO, rfl, Ip, CW, AL, hl⟩; refine pD AL ?_
  have Cd := sm W k
  refine BX rfl (BE ?_); refine zg ?_; refine BX rfl (BE ?_); refine zg ?_
  constructor <;> intro DF
  ·
   have AJ : k < W.length := dT DF
   obtain ⟨w, hw⟩ := Ac AJ
   have KQ := A3 w (Am hw)
   have SN := so hw
   have yI : w.D.length = w.H.length := h6 w.Av (by rw [← hW]; exact List.mem_map.2 ⟨w, Am hw, rfl⟩)
   have AGE : w.D.length ≤ 12 := by
    have e := dE hw
    have e2 := RA W (k + 1)
    omega
   obtain ⟨b1, o1, Ai, ha, _, AY, Ab⟩ := h1.elem hw
   refine zg ?_; refine BX rfl ?_; refine Kl rfl ?_; refine BX rfl (BE ?_); refine zg ?_; refine aL hl [.int .i64 0] fun B8 S6 hl => ?_; refine sL hl 0 [.int .i64 (k : Int)] fun S7 hl => ?_; refine zg ?_; refine BX rfl (BE ?_); refine zg ?_
   have DT := hl
   refine Ct rfl rfl rfl rfl rfl rfl rfl (Bp (ADg w.aB w.D.length w.D.length 30 #[]) ?_); rintro v S8 ⟨e3, e2, rfl, hb⟩
   have Yh := hb.AA
   have hl := hl.Zq hb
   refine zg ?_; refine Kl rfl (Mh rfl rfl rfl aP ?_)
   intro t1 ht
   have ht := ht.sub (L' := [(7, ptrTo B7 0), (8, ptrTo B8 0), (5, ptrTo B5 0)]) sE
   have hl := (hl.new (.defs false)).new (.loop .ready none 53 t1 (BO FM) (BL FM) (BN FM) S8.size)
   let z : Fh := ⟨S8.size + 1, S8.size, B7, B8, B5, B1, e3, e2, t1, a, cap, C, aA, W, k, w, nm⟩
   have hl := hl.perm (l' := z.l av (BT ((W.take k).map Bs.Av)).length ++ (fr ++ rest)) (AAt [_, _, _] [_] [_, _] (fr ++ rest) [_, _])
   refine Es (Lp (Mu (ADu (S := _) (Sb := S) (T := S2) (Us := [S]) z.lb z.e2 z.e3 z.l (HJ 3 w.H) w.aB w.D.length w.D (fun x => !x) Q1 KQ.1 (fun av n => Am (k := 7) rfl) (fun av n => Am (k := 6) rfl) (fun S av n j fr x hl hx => ADi x) (fun S av O fr f t SP Ot R9 hO hl => ABx hF z ht h2 hw KQ.2 (by show w.H.length ≤ 100; omega) f t SP (by rw [← yI]; exact Ot) R9 hO hl) av (BT ((W.take k).map Bs.Av)) Q1 hO hl))) ?_
   clear hl hO
   rintro w9 Co ⟨v, rfl, rfl, AT, BA, hO, hl⟩
   have SN : BT ((W.take (k + 1)).map Bs.Av) = BT ((W.take k).map Bs.Av) ++ (Ei (w.D.map fun x => !x) 0 none).map (HJ 3 w.H) := SN
   rw [← SN] at hO hl
   refine ⟨_, _, _, _, _, _, _, _, hl.get 1 rfl, rfl, ?_⟩
   have hl := hl.put (k := 1) rfl rfl (.loop .exhausted none 53 t1 (BO FM) (BL FM) (BN FM) S8.size)
   refine BE ?_; refine zg ?_
   have wT : S8.size ∉ kz := fun hm => by
    have h := (DT.at_ _ _ (cy (List.mem_append.2 (.inr (List.mem_append.2 (.inr (Ip _ hm))))))).2.2
    have := Yh.1
    omega
   have hl := ((hl.sub (l' := [(B7, AD.cells [.slice AT (BT ((W.take (k + 1)).map Bs.Av)).length (BT ((W.take (k + 1)).map Bs.Av)).length] 35 false true []), (S8.size, .defs false), (B5, .cells [.slice aA W.length W.length] 64 false true []), (B1, .cells [.string nm, .slice a C.length cap] 25 false true [])] ++ (BA ++ rest)) (.cons_cons _ (.cons _ (.cons_cons _ (.cons _ (.cons_cons _ (.cons_cons _ (.cons _ (.cons _ (List.Sublist.refl _)))))))))).perm (AAu [_] [_] [_, _] BA rest))
   refine ⟨W.length - (k + 1), Q1, k + 1, AT, BA, _, S8.size :: kz, Q1, rfl, hO, rfl, fun j hj => ?_, List.nodup_cons.2 ⟨wT, CW⟩, sE, hl⟩
   rcases List.mem_cons.1 hj with rfl | hj
   ·exact List.mem_append.2 (.inl (List.mem_singleton.2 rfl))
   exact List.mem_append.2 (.inr (Ip j hj))
  have Ar : k = W.length := dF DF
  rw [Ar, List.take_length, hW] at hO hl
  refine zg ?_; refine BX rfl (BE ?_); refine zg ?_; refine BE (Mi rfl ?_)
  obtain ⟨S9, l2, ht, Bu, FE⟩ := ot kz CW hl (fun j hj => List.mem_append.2 (.inr (List.mem_append.2 (.inr (Ip j hj)))))
  have uZ : Ko S9 (.slice av (BT L).length (BT L).length) (BT L) := OW.at_ (f := Bk.cells) (fun _ => rfl) hO Bu (fun p hp => FE p (Ef p hp) fun hm => by
   obtain ⟨c2, g, own, kin, e⟩ := AAo hO p hp
   have g1 := (hl.at_ p.1 p.2 (Ef p hp)).1
   have g2 := (hl.at_ _ _ (List.mem_append.2 (.inr (List.mem_append.2 (.inr (Ip _ hm)))))).1
   rw [e, g2] at g1
   cases g1)
  exact ⟨S9, _, ht, A7 rfl (A7 rfl rfl), Bu.AA, av, rfl, uZ⟩
end Go.Proofs.YtnhalpkekpehpaaGreatDoor
namespace Go.Proofs.YtnhalpkekpehpaaGreatDoor
open Go.Cm Go
set_option maxRecDepth 100000
variable {S : St}
abbrev HF (av : Option Addr) (D : List Bk) (n : Nat) (fr : List (Nat × AD)) : Prop := OW (.slice av n n) 55 3 ((D.map Bk.cells).flatten) n fr
theorem HF.ls {av : Option Addr} {D : List Bk} {n : Nat} {S S0 : St} {Ts : List St} {fr q l : List (Nat × AD)} (h : HF av D n fr) (hD : D.length = n) (hl : AB S0 Ts S (q ++ (fr ++ l)) []) : AZ 55 3 Bk.cells S (.slice av D.length n) D := by
 subst hD
 exact OW.ls (f := Bk.cells) (fun _ => rfl) h hl
theorem fH {S S0 : St} {q l fr : List (Nat × AD)} {av : Option Addr} {D : List Bk} {n : Nat} (hl : AB S0 [S0] S (q ++ (fr ++ l)) []) (hD : D.length = n) (hO : HF av D n fr) {i : Nat} {x : Bk} (y : Bk) (hx : nth D i = some x) : ∃ b S' AW, av = some ⟨b, 0, none⟩ ∧ Gv Tryz.prog 55 (ptrTo b (0 + i * 3)) y.v S = some S' ∧ HF av (D.set i y) n AW ∧ AB S0 [S0] S' (q ++ (AW ++ l)) [] := by
 subst hD
 have hi := CS hx
 exact Q9 (P := Tryz.prog) (k := 0 + i * 3) (t := 55) (u := y.v) hl hO Q1 rfl aP (by rw [Nat.zero_add]; exact Tu (f := Bk.cells) (z := 3) (fun _ => rfl) (x := x) (y := y) (j := 0) rfl _ i hx) ((Da (f := Bk.cells) (z := 3) (fun _ => rfl) _).trans ((congrArg (· * 3) List.length_set).trans (Da (f := Bk.cells) (z := 3) (fun _ => rfl) _).symm))
theorem yb {x y : Bk} {r : List Bk} (h : Hv x y = true) : FJ x (y :: r) = y :: FJ x r := by rw [FJ, h]; rfl
theorem yZ {x y : Bk} {r : List Bk} (h : Hv x y = false) : FJ x (y :: r) = x :: y :: r := by rw [FJ, h]; rfl
def Kd (W : List Bk) (i : Nat) : List Bk := (W.take i).foldl (fun a x => FJ x a) []
theorem ag {W : List Bk} {i : Nat} {x : Bk} (h : nth W i = some x) : Kd W (i + 1) = FJ x (Kd W i) := by
 unfold Kd
 rw [CJ h, List.foldl_append]
 rfl
theorem yc (x : Bk) (l : List Bk) : (FJ x l).length = l.length + 1 := (Vm x l).length_eq
theorem mS (W : List Bk) : ∀ i, i ≤ W.length → (Kd W i).length = i
 | 0, _ => rfl
 | i + 1, h => by
  obtain ⟨x, hx⟩ := Ac (show i < W.length by omega)
  rw [ag hx, yc, mS W i Q1]
theorem AEJ {W : List Bk} {i : Nat} (h : W.length ≤ i) : EO W = (Kd W i).reverse := by unfold EO Kd; rw [List.take_of_length_le h]
theorem AA6 {W : List Bk} : (Kd W 1).reverse ++ W.drop 1 = W := by
 cases W with
 | nil => rfl
 | cons x W => rfl
theorem ADw {Sb S : St} {q l fr : List (Nat × AD)} (av : Option Addr) (n : Nat) (W : List Bk) (hF : Ad Sb) (hW : W.length = n) (hn : n ≤ 12) (hO : HF av W n fr) (hl : AB Sb [Sb] S (q ++ (fr ++ l)) []) : CC Tryz.prog KK 49 [.slice av n n, .int .i64 0, .int .i64 (n : Int), .func (.func 19) #[] #[]] S (fun v S' => v = AN [] ∧ ∃ AW, HF av (EO W) n AW ∧ AB Sb [Sb] S' (q ++ (AW ++ l)) []) := by
 refine ce 53 Tryz.func49 fun _ => ?_; refine zS ?_; refine BF rfl ?_; refine AK (L' := [(8, .int .i64 (1 : Int)), (0, .slice av n n), (1, .int .i64 0), (2, .int .i64 (n : Int)), (3, .func (.func 19) #[] #[])]) sE ?_
 refine Au rfl (fun m Le S' => ∃ (i : Nat) (fr : List (Nat × AD)), (1 ≤ i ∧ (i ≤ n ∨ i = 1)) ∧ m = n - i ∧ HF av ((Kd W i).reverse ++ W.drop i) n fr ∧ Af [(8, .int .i64 (i : Int)), (0, .slice av n n), (1, .int .i64 0), (2, .int .i64 (n : Int)), (3, .func (.func 19) #[] #[])] Le ∧ AB Sb [Sb] S' (q ++ (fr ++ l)) []) ?_ (m := n - 1) ⟨1, fr, Q1, rfl, by rw [AA6]; exact hO, sE, hl⟩
 clear hl hO; rintro m Le S1 ⟨i, fr, hi, rfl, hO, AL, hl⟩; refine AK AL ?_
 refine zg ?_
 constructor <;> intro EI
 ·
  have AJ : i < n := dT EI
  obtain ⟨x, hx⟩ := Ac (l := W) (i := i) Q1
  have Cr := mS W i Q1
  refine Fl rfl ?_; refine AV rfl ?_; refine BF rfl ?_; refine zS ?_; refine BF rfl ?_; refine AK (L' := [(9, .int .i64 (i : Int)), (8, .int .i64 (i : Int)), (0, .slice av n n), (1, .int .i64 0), (2, .int .i64 (n : Int)), (3, .func (.func 19) #[] #[])]) sE ?_
  refine Au rfl (fun m Le S' => ∃ (p mv : List Bk) (fr : List (Nat × AD)), p.length ≤ i ∧ m = p.length ∧ FJ x (Kd W i) = mv.reverse ++ FJ x p ∧ HF av (p.reverse ++ x :: (mv ++ W.drop (i + 1))) n fr ∧ (p.reverse ++ x :: (mv ++ W.drop (i + 1))).length = n ∧ Af [(9, .int .i64 (p.length : Int)), (8, .int .i64 (i : Int)), (0, .slice av n n), (1, .int .i64 0), (2, .int .i64 (n : Int)), (3, .func (.func 19) #[] #[])] Le ∧ AB Sb [Sb] S' (q ++ (fr ++ l)) []) ?_ (m := i) ⟨Kd W i, [], fr, Q1, Cr.symm, rfl, by rw [D4 hx] at hO; exact hO, by rw [ay, List.length_reverse, Cr]; show i + ((W.drop (i + 1)).length + 1) = n; rw [List.length_drop]; omega, ⟨(by rw [Cr]; rfl), rfl, rfl, rfl, rfl, rfl, trivial⟩, hl⟩
  clear hl hO AL; rintro m Le S2 ⟨p, mv, fr, H8, rfl, QF, hO, JT, AL, hl⟩; refine AK AL ?_
  cases p with
  | nil =>
   refine AV rfl ?_; refine AV rfl (Bz hl 34 (.bool false) ?_ rfl ?_)
   ·
    refine A4 (idx := [0, 1, 2, 3, 4, 5, 6, 7, 8, 9, 10, 11, 12, 13, 14, 15, 16]) rfl aP aP ?_; refine zg ?_
    exact ⟨rfl, rfl, sB, hl⟩
   intro S3 hl
   refine zg ?_
   rw [← ag hx] at QF
   have e : (Kd W (i + 1)).reverse = x :: mv := by rw [QF, List.reverse_append, List.reverse_reverse]; rfl
   refine ⟨n - (i + 1), Q1, i + 1, fr, Q1, rfl, ?_, sE, hl⟩
   rw [e]
   exact hO
  | cons y p =>
   have YS : nth ((y :: p).reverse ++ x :: (mv ++ W.drop (i + 1))) (p.length + 1) = some x := by
    have h := Qd (x := x) (r := mv ++ W.drop (i + 1)) (y :: p).reverse
    rw [List.length_reverse] at h
    exact h
   have iV : nth ((y :: p).reverse ++ x :: (mv ++ W.drop (i + 1))) p.length = some y := by
    rw [List.reverse_cons, List.append_assoc]
    have h := Qd (x := y) (r := x :: (mv ++ W.drop (i + 1))) p.reverse
    rw [List.length_reverse] at h
    exact h
   have hv := hO.ls JT hl
   obtain ⟨b1, o1, Ai, ha, AY, Ab, FI⟩ := hv.Pq YS iV
   have Sl : (y :: p).length = p.length + 1 := rfl
   have ej : (((y :: p).length : Int) - 1).toNat = p.length := by rw [Sl]; omega
   rw [← ej] at FI
   refine AV rfl ?_; refine AV rfl (Bz hl 34 (.bool (Hv x y)) ?_ rfl ?_)
   ·
    refine A4 (idx := [0, 1, 2, 3, 4, 5, 6, 7, 8, 9, 10, 11, 12, 13, 14, 15, 16]) rfl aP aP ?_; refine zg ?_; refine Ej (d := 21) rfl (fun Ry => ?_) (fun Ry => ?_)
    ·
     refine zg ?_
     refine zp hl rfl (ADV x y (hl.AA.3 hF)) ?_; rintro v S3 Bt rfl hl; refine ⟨zt, ?_⟩
     refine zg ?_
     exact ⟨rfl, rfl, sB, hl⟩
    exact absurd (oFa Ry) (by rw [Sl]; omega)
   intro S3 hl
   refine zg ?_
   constructor <;> intro HT
   ·
    rw [yb HT] at QF
    obtain ⟨bv, rfl⟩ := hO.ne Q1
    obtain ⟨b1, o1, Ai, ha, AY, Ab, FI⟩ := (hO.ls JT hl).Pq YS iV
    cases ha
    have ha : some (Addr.mk bv 0 none) = some (Addr.mk bv 0 none) := rfl
    rw [← ej] at FI
    obtain ⟨b5, S5, fr5, e5, NY, ib, wV⟩ := fH hl JT hO y YS
    have GF : ((y :: p).reverse ++ x :: (mv ++ W.drop (i + 1))).set (p.length + 1) y = (y :: p).reverse ++ y :: (mv ++ W.drop (i + 1)) := by
     have h := Qz y x (mv ++ W.drop (i + 1)) (y :: p).reverse
     rw [List.length_reverse] at h
     exact h
    rw [GF] at ib
    have uc : nth ((y :: p).reverse ++ y :: (mv ++ W.drop (i + 1))) p.length = some y := by
     rw [List.reverse_cons, List.append_assoc]
     have h := Qd (x := y) (r := y :: (mv ++ W.drop (i + 1))) p.reverse
     rw [List.length_reverse] at h
     exact h
    have wW : ((y :: p).reverse ++ y :: (mv ++ W.drop (i + 1))).length = n := by rw [← JT]; simp
    obtain ⟨b6, S6, uF, e6, j8, ig, MD⟩ := fH wV wW ib x uc
    cases e5
    cases e6
    have xv : ((y :: p).reverse ++ y :: (mv ++ W.drop (i + 1))).set p.length x = p.reverse ++ x :: ((y :: mv) ++ W.drop (i + 1)) := by
     rw [List.reverse_cons, List.append_assoc]
     have h := Qz x y (y :: (mv ++ W.drop (i + 1))) p.reverse
     rw [List.length_reverse] at h
     exact h
    rw [xv] at ig
    rw [← ej] at j8
    refine zg ?_; refine A4 (idx := [0, 1, 2, 3, 4, 5, 6, 7, 8, 9, 10, 11, 12, 13, 14, 15, 16, 17]) rfl aP aP ?_; refine zg ?_; refine I9 rfl rfl rfl rfl rfl rfl NY zt ?_; refine zg ?_; refine I9 rfl rfl rfl rfl rfl rfl j8 zt ?_; refine zg ?_
    have e9 : (((y :: p).length : Int) - 1) = (p.length : Int) := by rw [Sl]; omega
    refine ⟨p.length, by rw [Sl]; omega, p, y :: mv, uF, Q1, rfl, by rw [QF, List.reverse_cons, List.append_assoc]; rfl, ig, by rw [← JT]; simp, ⟨by rw [e9]; rfl, rfl, rfl, rfl, rfl, rfl, trivial⟩, MD⟩
   rw [yZ HT, ← ag hx] at QF
   refine zg ?_
   refine ⟨n - (i + 1), Q1, i + 1, fr, Q1, rfl, ?_, sE, hl⟩
   rw [QF, List.reverse_append, List.reverse_reverse, List.reverse_cons, List.append_assoc, List.append_assoc]
   exact hO
 have Yx : W.length ≤ i := dF EI
 rw [List.drop_eq_nil_of_le Yx, List.append_nil, ← AEJ Yx] at hO
 refine zg ?_
 show Fm Tryz.prog Tryz.f49.results.toList (fun v S' => v = AN [] ∧ ∃ AW, HF av (EO W) n AW ∧ AB Sb [Sb] S' (q ++ (AW ++ l)) []) .normal _ S1
 exact Gy rfl ⟨rfl, fr, hO, hl⟩
theorem ADn {Sb S : St} {q l fr : List (Nat × AD)} (av : Option Addr) (n : Nat) (W : List Bk) (hF : Ad Sb) (hW : W.length = n) (hn : n ≤ 12) (hO : HF av W n fr) (hl : AB Sb [Sb] S (q ++ (fr ++ l)) []) (k : Int) : CC Tryz.prog KK 35 [.slice av n n, .int .i64 0, .int .i64 (n : Int), .int .i64 k, .func (.func 19) #[] #[]] S (fun v S' => v = AN [] ∧ ∃ AW, HF av (EO W) n AW ∧ AB Sb [Sb] S' (q ++ (AW ++ l)) []) := by
 refine ce 148 Tryz.func35 fun _ => ?_; iterate 2 refine zS ?_
 refine BF rfl ?_; refine AK (L' := [(11, .bool true), (10, .bool true), (0, .slice av n n), (1, .int .i64 0), (2, .int .i64 (n : Int)), (3, .int .i64 k), (4, .func (.func 19) #[] #[])]) sE ?_
 refine Au rfl (fun m Le S' => ∃ fr : List (Nat × AD), HF av W n fr ∧ Af [(11, .bool true), (10, .bool true), (0, .slice av n n), (1, .int .i64 0), (2, .int .i64 (n : Int)), (3, .int .i64 k), (4, .func (.func 19) #[] #[])] Le ∧ AB Sb [Sb] S' (q ++ (fr ++ l)) []) ?_ (m := 0) ⟨fr, hO, sE, hl⟩
 clear hl hO; rintro m Le S1 ⟨fr, hO, AL, hl⟩; refine AK AL ?_
 refine zg ?_
 constructor <;> intro EX
 ·
  refine zg ?_
  refine Ct rfl rfl rfl rfl rfl rfl rfl (Bp (ADw av n W hF hW hn hO hl) ?_); rintro v S2 ⟨rfl, BA, Aw, hl⟩
  refine zg ?_
  exact Cw (CG (GK (CG (CK rfl ⟨rfl, BA, Aw, hl⟩))))
 exact absurd (oFa EX) Q1
theorem ADP {Sb S : St} {q l fr : List (Nat × AD)} (av : Option Addr) (n : Nat) (W : List Bk) (hF : Ad Sb) (hW : W.length = n) (hn : n ≤ 12) (hO : HF av W n fr) (hl : AB Sb [Sb] S (q ++ (fr ++ l)) []) : CC Tryz.prog KK 18 [.slice av n n, .func (.func 19) #[] #[]] S (fun v S' => v = AN [] ∧ ∃ AW, HF av (EO W) n AW ∧ AB Sb [Sb] S' (q ++ (AW ++ l)) []) := by
 refine ce 14 Tryz.func18 fun _ => ?_; refine zg ?_
 refine bH (v := .int .u64 (n : Int)) (S' := S) rfl rfl rfl rfl rfl rfl (by
  obtain rfl | rfl | rfl | rfl | rfl | rfl | rfl | rfl | rfl | rfl | rfl | rfl | rfl : n = 0 ∨ n = 1 ∨ n = 2 ∨ n = 3 ∨ n = 4 ∨ n = 5 ∨ n = 6 ∨ n = 7 ∨ n = 8 ∨ n = 9 ∨ n = 10 ∨ n = 11 ∨ n = 12 := by omega
  all_goals kernel_rfl) ?_
 refine Ct rfl rfl rfl rfl rfl rfl rfl (Bp (Zs (n := n) Q1) ?_); rintro v S2 ⟨Ar, x, rfl⟩
 have hl := hl.call Ar
 refine zg ?_
 refine Ct rfl rfl rfl rfl rfl rfl rfl (Bp (ADn av n W hF hW hn hO hl x) ?_); rintro v S3 ⟨rfl, BA, Aw, hl⟩
 refine zg ?_
 exact Gy rfl ⟨rfl, BA, Aw, hl⟩
end Go.Proofs.YtnhalpkekpehpaaGreatDoor
