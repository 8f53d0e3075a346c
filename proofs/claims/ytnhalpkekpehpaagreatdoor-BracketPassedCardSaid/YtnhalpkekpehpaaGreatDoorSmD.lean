/-
  choices: atLevel.
-/
import Derived.Test.YtnhalpkekpehpaaGreatDoorSmC
namespace Go.Proofs.YtnhalpkekpehpaaGreatDoor
open Go.Cm Go
set_option maxRecDepth 100000
variable {S : St}
theorem _root_.Go.Cm.AB.Zq {S0 S1 S2 : St} {Ts : List St} {l r : List (Nat × AD)} (h0 : AB S0 Ts S1 l []) (h1 : AB S1 [S1] S2 r []) : AB S0 Ts S2 (l ++ r) [] := by
 have hj := (h0.marks (Us := []) fun _ h => (List.not_mem_nil h).elim)
 refine ⟨h0.AA.trans h1.AA, ?_, fun b x hx => ?_, fun T hT => (h0.rk T hT).trans h1.AA.rk, fun _ h => (List.not_mem_nil h).elim⟩
 ·rw [mAp]
  refine List.nodup_append.2 ⟨h0.nd, h1.nd, fun a ha c hc e => ?_⟩
  obtain ⟨⟨a', y⟩, hy, rfl⟩ := List.mem_map.1 ha
  obtain ⟨⟨c', y'⟩, IB, rfl⟩ := List.mem_map.1 hc
  have h2 := (h0.at_ _ _ hy).2.2
  have h3 := (h1.at_ _ _ IB).2.1
  simp only at e h2 h3
  omega
 rcases List.mem_append.1 hx with hx | hx
 ·obtain ⟨k1, k2, k3⟩ := h0.at_ b x hx
  exact ⟨(h1.AA.2 b k3).trans k1, k2, Nat.lt_of_lt_of_le k3 h1.AA.1⟩
 obtain ⟨k1, k2, k3⟩ := h1.at_ b x hx
 exact ⟨k1, Nat.le_trans h0.AA.1 k2, k3⟩
theorem AZ.I1 {α : Type} {f : α → List Value} {C : List α} {e e2 : TypeId} {z : Nat} {v : Value} {S T : St} (h : PX e2 S T) (he : e ≠ e2) (hs : AZ e z f S v C) : AZ e z f T v C := by
 unfold AZ at *
 rcases hs with hs | ⟨b, o, cap, cs, h1, h0, h2, h3⟩
 ·exact .inl hs
 exact .inr ⟨b, o, cap, cs, h1, h0, h _ _ _ he h2, h3⟩
theorem Pt.Ok.I1 {S T : St} {x : Pt} (h : x.Ok S) (hk : PX 162 S T) : x.Ok T := ⟨h.l.I1 hk (by decide), h.c.I1 hk (by decide), h.d.I1 hk (by decide)⟩
abbrev PD := List It × List Int × List Int
def HD (k : Int) (u : Nat) : Nat → List PD → Option (List PD)
 | 0, l => some l
 | n + 1, l => if 4096 < (l.flatMap (GX k u)).length then none else HD k u n (l.flatMap (GX k u))
def XU (k : Int) (u : Nat) (d : PD) : PD := ((Ic k u d.1 d.2.1).getD [], [], d.2.2 ++ d.2.1)
theorem sC {k : Int} {u : Nat} {d e : PD} (h : e ∈ GX k u d) : e.1 = d.1 ∧ e.2.1.length = d.2.1.length + 1 ∧ e.2.2 = d.2.2 := by
 unfold GX at h
 obtain ⟨c, _, rfl⟩ := List.mem_map.1 h
 exact ⟨rfl, by simp, rfl⟩
theorem sD {k : Int} {u : Nat} {O Q : List Pt} (h : O.map Pt.Av = (Q.map Pt.Av).flatMap (GX k u)) : ∀ y, y ∈ O → ∃ x, x ∈ Q ∧ y.L = x.L ∧ y.C.length = x.C.length + 1 ∧ y.D = x.D := fun y hy => by
 have h1 : y.Av ∈ (Q.map Pt.Av).flatMap (GX k u) := by rw [← h]; exact List.mem_map.2 ⟨y, hy, rfl⟩
 obtain ⟨d, hd, h2⟩ := List.mem_flatMap.1 h1
 obtain ⟨x, hx, rfl⟩ := List.mem_map.1 hd
 obtain ⟨h3, h4, h5⟩ := sC h2
 exact ⟨x, hx, h3, h4, h5⟩
theorem AEB (a : Option Addr) (cap : Nat) (P : List Pt) (p q r t : Int) (k : Int) (u : Nat) (hu : u = Bc [p, q, r, t] (k.toNat + 1)) (hm : Ap p q r t = 0) (hk : k ∈ BK [p, q, r, t] 4) (Bl : 0 ≤ k ∧ k ≤ 10) (Db : 0 < u ∧ u ≤ 324) (hP : P.length ≤ 5000) (hI : ∀ x, x ∈ P → (Bg k u x.L x.L ∧ x.L.length ≤ 27) ∧ x.C = [] ∧ x.D.length ≤ 300) (kN : KW k u P ≤ 60) (Ja : (∃ x, x ∈ P.filter (Jp k u)) → 0 < KW k u P) (hF : Ad S) (hv : IY S (.slice a P.length cap) P) (A3 : ∀ x, x ∈ P → x.Ok S) : CC Tryz.prog KK 86 [mV [p, q, r, t], .int .i64 k, .slice a P.length cap] S (fun v S' => AG S S' ∧ match HD k u (KW k u P) ((P.filter (Jp k u)).map Pt.Av) with
  | none => v = AN [.slice none 0 0, .int .i64 15]
  | some l => ∃ av O, v = AN [.slice av O.length O.length, .int .i64 0] ∧ IY S' (.slice av O.length O.length) O ∧ (∀ y, y ∈ O → y.Ok S') ∧ O.map Pt.Av = l.map (XU k u)) := by
 refine ce 62 Tryz.func86 fun hl => ?_; refine zg ?_; refine bL hl fun B3 S3 hl => ?_; refine zg ?_
 refine Ct rfl rfl rfl rfl rfl rfl rfl (Bp (ACZ a cap P p q r t k u hu hm hk (hl.AA.3 hF) Db hP (fun x hx => (hI x hx).1) (hv.move (hl.since 0 rfl)) (fun x hx => (A3 x hx).move (hl.since 0 rfl))) ?_); rintro v S4 ⟨av, fr, rfl, hO, hb⟩
 have hl := hl.join hb
 obtain ⟨w, hw⟩ : ∃ w, w = KW k u P := ⟨_, rfl⟩
 rw [← hw] at kN Ja ⊢
 obtain ⟨Q, hQ⟩ : ∃ Q, Q = P.filter (Jp k u) := ⟨_, rfl⟩
 rw [← hQ] at hO Ja ⊢
 have R' : ∀ x, x ∈ Q → x ∈ P := fun x hx => by rw [hQ] at hx; exact (List.mem_filter.1 hx).1
 have NC : Q.length ≤ 5000 := by rw [hQ]; exact Nat.le_trans (List.length_filter_le ..) hP
 have Oc : ∀ x, x ∈ Q → (Bg k u x.L x.L ∧ x.L.length ≤ 27) ∧ x.C.length = 0 ∧ x.D.length ≤ 300 := fun x hx => ⟨(hI x (R' x hx)).1, by rw [(hI x (R' x hx)).2.1]; rfl, (hI x (R' x hx)).2.2⟩
 have L3 : ∀ x, x ∈ Q → x.Ok S4 := fun x hx => (A3 x (R' x hx)).move (hl.since 0 rfl)
 obtain ⟨R, hR⟩ : ∃ R, R = HD k u w (Q.map Pt.Av) := ⟨_, rfl⟩
 rw [← hR]
 have hl : AB S [S] S4 ([(B3, .cells (AP (mV [p, q, r, t])) 28 false true [])] ++ (fr ++ [])) [] := by rw [List.append_nil]; exact hl
 refine zA ?_; refine AV rfl ?_; refine zS ?_; refine BF rfl ?_; refine AK (L' := [(21, .int .i64 (0 : Int)), (20, .int .i64 (w : Nat)), (2, .slice av Q.length Q.length), (7, .int .i64 0), (6, .slice none 0 0), (3, ptrTo B3 0), (1, .int .i64 k)]) sE ?_
 refine Au rfl (fun m Le S' => ∃ (i : Nat) (av : Option Addr) (Q : List Pt) (fr : List (Nat × AD)), i ≤ w ∧ m = w - i ∧ R = HD k u (w - i) (Q.map Pt.Av) ∧ Q.length ≤ 5000 ∧ ((∃ x, x ∈ Q) → 0 < w) ∧ (∀ x, x ∈ Q → (Bg k u x.L x.L ∧ x.L.length ≤ 27) ∧ x.C.length = i ∧ x.D.length ≤ 300) ∧ (∀ x, x ∈ Q → x.Ok S') ∧ Jz av Q fr ∧ Af [(21, .int .i64 (i : Int)), (20, .int .i64 (w : Nat)), (2, .slice av Q.length Q.length), (7, .int .i64 0), (6, .slice none 0 0), (3, ptrTo B3 0), (1, .int .i64 k)] Le ∧ AB S [S] S' ([(B3, .cells (AP (mV [p, q, r, t])) 28 false true [])] ++ (fr ++ [])) []) ?_ (m := w) ⟨0, av, Q, fr, Q1, Q1, hR, NC, Ja, Oc, L3, hO, sE, hl⟩
 clear hl L3 Oc NC hR hO Ja R' hQ hb hw; rintro m Le S5 ⟨i, av, Q, fr, hi, rfl, hR, NC, Ja, Oc, L3, hO, AL, hl⟩; refine AK AL ?_
 refine zg ?_
 constructor <;> intro M8
 ·
  have AJ : i < w := dT M8
  rw [show w - i = (w - (i + 1)) + 1 by omega] at hR
  have hR : R = if 4096 < ((Q.map Pt.Av).flatMap (GX k u)).length then none else HD k u (w - (i + 1)) ((Q.map Pt.Av).flatMap (GX k u)) := hR
  have hl := hl.mark
  refine zg ?_
  refine zc hl rfl (ACb av Q.length Q.length p q r t k) ?_; rintro v S6 G6 ⟨e5, e3, e4, rfl, h5, h3, h4⟩ hl
  have Vg : IY S6 (.slice av Q.length Q.length) Q := OW.at_ (f := Pt.cells) (fun _ => rfl) hO hl Ef
  refine Ct rfl rfl rfl rfl rfl rfl rfl (Bp (ACa av Q.length Q p q r t k u hu hm hk Bl Db NC (fun x hx => ⟨(Oc x hx).1, by have := (Oc x hx).2.1; omega⟩) e5 e3 e4 h5 h3 h4 (hl.AA.3 hF) Vg (fun x hx => (L3 x hx).move (hl.since 0 rfl))) ?_); rintro v S7 ⟨AT, O, BA, rfl, Aw, hD, DN, JU, hb⟩
  have hl := ((hl.marks (Us := [S]) fun T hT => cy hT).join hb)
  have VH := sD hD
  rw [← hD] at hR
  have we : (O.map Pt.Av).length = O.length := List.length_map _
  rw [we] at hR
  refine zg ?_
  constructor <;> intro FU
  ·
   have FU := oTr FU
   rw [if_pos Q1] at hR
   rw [hR]
   refine zg ?_
   refine CG (Cw (GK (CG ((z2 rfl rfl ⟨hl.AA, rfl⟩)))))
  have FU := oFa FU
  rw [if_neg Q1] at hR
  refine zg ?_
  refine ⟨w - (i + 1), Q1, i + 1, AT, O, BA, Q1, rfl, hR, Q1, fun ⟨y, hy⟩ => by obtain ⟨x, hx, _⟩ := VH y hy; exact Ja ⟨x, hx⟩, fun y hy => ?_, JU, Aw, sE, ?_⟩
  ·obtain ⟨x, hx, q1_, q2_, q3_⟩ := VH y hy
   have := Oc x hx
   exact ⟨by rw [q1_]; exact this.1, Q1, by rw [q3_]; exact this.2.2⟩
  rw [List.append_nil]
  exact hl.sub (List.Sublist.cons_cons _ (List.sublist_append_right _ _))
 obtain rfl : i = w := dF M8
 rw [Nat.sub_self] at hR
 have hR : R = some (Q.map Pt.Av) := hR
 rw [hR]
 refine de rfl ?_; refine AV rfl ?_; refine zS ?_; refine BF rfl ?_; refine AK (L' := [(34, .int .i64 (0 : Int)), (33, .int .i64 Q.length), (32, .slice av Q.length Q.length), (2, .slice av Q.length Q.length), (7, .int .i64 0), (6, .slice none 0 0), (3, ptrTo B3 0), (1, .int .i64 k)]) sE ?_
 refine Au rfl (fun m Le S' => ∃ (i : Nat) (O : List Pt) (fr : List (Nat × AD)), i ≤ Q.length ∧ m = Q.length - i ∧ O.length = i ∧ O.map Pt.Av = ((Q.take i).map Pt.Av).map (XU k u) ∧ OW (.slice av Q.length Q.length) 162 3 (((O ++ Q.drop i).map Pt.cells).flatten) Q.length fr ∧ (∀ x, x ∈ Q → x.Ok S') ∧ (∀ x, x ∈ O → x.Ok S') ∧ Af [(34, .int .i64 (i : Int)), (33, .int .i64 Q.length), (32, .slice av Q.length Q.length), (2, .slice av Q.length Q.length), (7, .int .i64 0), (6, .slice none 0 0), (3, ptrTo B3 0), (1, .int .i64 k)] Le ∧ AB S [S] S' ([(B3, .cells (AP (mV [p, q, r, t])) 28 false true [])] ++ (fr ++ [])) []) ?_ (m := Q.length) ⟨0, [], fr, Q1, Q1, rfl, rfl, hO, L3, fun _ h => (List.not_mem_nil h).elim, sE, hl⟩
 clear hl L3 hO AL hR; rintro m Le S8 ⟨j, O, fr, hj, rfl, DN, Ya, hO, L3, ij, AL, hl⟩; refine AK AL ?_
 have hlen : (O ++ Q.drop j).length = Q.length := by rw [ay, List.length_drop]; omega
 refine zg ?_
 constructor <;> intro Pv
 ·
  have AJ : j < Q.length := dT Pv
  obtain ⟨x, hx⟩ := Ac AJ
  have Zg := Am hx
  have KR := Oc x Zg
  have Nc := L3 x Zg
  have hw : 0 < x.C.length := by rw [KR.2.1]; exact Ja ⟨x, Zg⟩
  have hD : nth (O ++ Q.drop j) j = some x := by rw [D4 hx, ← DN]; exact Qd O
  have Fc : IY S8 (.slice av Q.length Q.length) (O ++ Q.drop j) := by
   have := OW.at_ (f := Pt.cells) (z := 3) (C := O ++ Q.drop j) (fun _ => rfl) (by rw [hlen]; exact hO) hl (Ef (q := [_]))
   exact this
  have Fc : AZ 162 3 Pt.cells S8 (.slice av (O ++ Q.drop j).length Q.length) (O ++ Q.drop j) := by rw [hlen]; exact Fc
  obtain ⟨b1, o1, Ai, ha, _, AY, Ab⟩ := Fc.elem hD
  obtain ⟨bv, rfl⟩ := hO.ne Q1
  cases ha
  have ha : some (Addr.mk b1 0 none) = some (Addr.mk b1 0 none) := rfl
  have hl := hl.mark
  refine zg ?_; refine aL hl [.slice none 0 0, .slice none 0 0, .slice none 0 0] fun Hn S9 hl => ?_; refine zg ?_; refine sL hl 0 x.cells fun Co hl => ?_; refine zg ?_
  refine zc hl rfl (ACc x.aL x.cL x.L p q r t k u x.aC x.cC x.C hu hm hk (hl.AA.3 hF) KR.1.2 Bl Db KR.1.1 (Nc.l.move (hl.since 0 rfl)) (Nc.c.move (hl.since 0 rfl))) ?_; rintro v D3 Y1 CM hl
  obtain ⟨aw, X, e, rfl, OY, hX⟩ : ∃ aw X e, v = AN [.slice aw X.length X.length, .int .i64 e] ∧ E4 D3 (.slice aw X.length X.length) X ∧ X = (Ic k u x.L x.C).getD [] := by
   cases hA : Ic k u x.L x.C with
   | none => rw [hA] at CM; obtain ⟨e, rfl⟩ := CM; exact ⟨none, [], e, rfl, AZ.nil, rfl⟩
   | some X => rw [hA] at CM; obtain ⟨aw, rfl, hg⟩ := CM; exact ⟨aw, X, 0, rfl, AU.ls (f := It.cells) (fun _ => rfl) hg, rfl⟩
  have hl := hl.mark
  clear AY Ab
  refine zg ?_; refine A4 (idx := [0, 1, 2, 3, 4, 6, 7, 5, 8, 9, 10, 11]) rfl aP aP ?_; refine zg ?_
  have DT := hl
  refine zp hl rfl (oO x.aD x.cD x.D Q1 (Nc.d.move (hl.since 1 rfl))) ?_; rintro v Ep NP ⟨aD, uG, rfl, uw, vM⟩ hl; refine ⟨zt, ?_⟩
  have hl := (DT.Zq vM).perm (l' := [(Hn, .cells x.cells 162 false true []), (B3, .cells (AP (mV [p, q, r, t])) 28 false true [])] ++ (uG ++ fr)) (by rw [List.append_nil]; exact (List.perm_append_comm.cons _).cons _)
  refine Md hl uw rfl rfl rfl rfl rfl rfl rfl Tryz.underlying22 Tryz.underlying22 rfl rfl hw aP (Nc.c.move (hl.since 1 rfl)).cells (Da (f := ic) (z := 1) (fun _ => rfl) _) (K6 (f := ic) (fun _ => rfl) _) aP (by show x.D.length + x.C.length ≤ AQ; unfold AQ; omega) ?_; intro v57 YA EC Ob hl; refine ⟨zt, ?_⟩
  obtain ⟨aE, rfl⟩ := Ob.is
  obtain ⟨y, hy⟩ : ∃ y : Pt, y = ⟨aw, X.length, none, 0, aE, x.D.length + x.C.length, X, [], x.D ++ x.C⟩ := ⟨_, rfl⟩
  have yR : y.cells = [.slice aw X.length X.length, .slice none 0 0, .slice aE (x.D.length + x.C.length) (x.D.length + x.C.length)] := by rw [hy]; unfold Pt.cells; simp only [ay]; rfl
  have yQ : y.Ok EC := by
   rw [hy]
   refine ⟨OY.move (hl.since 0 rfl), AZ.nil, ?_⟩
   have h := OW.at_ (f := ic) (z := 1) (C := x.D ++ x.C) (v := .slice aE (x.D.length + x.C.length) (x.D.length + x.C.length)) (fun _ => rfl) (by rw [mAp, List.flatten_append, ay]; exact Ob) hl (Ef (q := [_, _]))
   show A5 EC (.slice aE (x.D ++ x.C).length (x.D.length + x.C.length)) (x.D ++ x.C)
   rw [ay]
   exact h
  refine pr rfl (Ak rfl rfl (v := AM y.cells) (by rw [yR]; rfl)) ?_
  have u4 : ∀ z, z ∈ Q → z.Ok EC := fun z hz => (L3 z hz).move (hl.since 1 rfl)
  have ux : ∀ z, z ∈ O → z.Ok EC := fun z hz => (ij z hz).move (hl.since 1 rfl)
  have hl : AB S [S] EC ([(Hn, .cells x.cells 162 false true []), (B3, .cells (AP (mV [p, q, r, t])) 28 false true [])] ++ (fr ++ YA)) [] := ((hl.marks (Us := [S]) fun T hT => cy (cy hT)).perm (by
   show List.Perm (_ :: _ :: (YA ++ fr)) (_ :: _ :: (fr ++ YA))
   exact (List.perm_append_comm.cons _).cons _))
  obtain ⟨bx, E6, BA, e1, DO, ia, Bu, DU⟩ := oY (P := Tryz.prog) (k := 0 + ((j : Nat) : Int).toNat * 3) (t := 162) (u := AM y.cells) hl hO Q1 rfl aP (by rw [Nat.zero_add]; exact Tu (f := Pt.cells) (z := 3) (fun _ => rfl) (x := x) (y := y) (j := 0) rfl _ j hD) ((Da (f := Pt.cells) (z := 3) (fun _ => rfl) _).trans ((congrArg (· * 3) List.length_set).trans (Da (f := Pt.cells) (z := 3) (fun _ => rfl) _).symm))
  cases e1
  refine zg ?_; refine I9 rfl rfl rfl rfl rfl rfl DO zt ?_; refine zg ?_
  have GF : (O ++ Q.drop j).set j y = (O ++ [y]) ++ Q.drop (j + 1) := by
   rw [D4 hx, List.append_assoc]
   have := Qz y x (Q.drop (j + 1)) O
   rw [DN] at this
   exact this
  rw [GF] at ia
  refine ⟨Q.length - (j + 1), Q1, j + 1, O ++ [y], BA, Q1, rfl, by rw [ay, DN]; rfl, ?_, ia, fun z hz => (u4 z hz).I1 DU, fun z hz => ?_, sE, ?_⟩
  ·rw [CJ hx, mAp, mAp, mAp, Ya, hy, hX]
   rfl
  ·rcases List.mem_append.1 hz with h | h
   ·exact (ux z h).I1 DU
   rw [List.mem_singleton.1 h]; exact yQ.I1 DU
  rw [List.append_nil]
  exact Bu.tail.sub (List.Sublist.cons_cons _ (List.sublist_append_left _ _))
 have FF : j = Q.length := dF Pv
 rw [List.drop_eq_nil_of_le Q1, List.append_nil] at hO
 rw [FF, List.take_length] at Ya
 have e : O.length = Q.length := by omega
 rw [← e] at hO ⊢
 refine zg ?_
 exact y2 rfl rfl ⟨hl.AA, av, O, rfl, OW.at_ (f := Pt.cells) (fun _ => rfl) hO hl (Ef (q := [_])), ij, Ya⟩
theorem ABb {{P : Program}} {{K : A1}} {{n : Nat}} {{L : Env}} {{S S' : St}} {{Q : Bi}} {{ops : List Oper}} {{i : Nat}} {{o : Oper}} {{Mr : Array Operand}} {{ts : Array TypeId}} {{vs : List Value}} {{v : Value}} (ho : nth ops i = some o) (AH : o.op = .call ⟨.builtin .clear, Mr, ts⟩) (hw : As ops L o = some true) (hd : o.dst = none)
  (hx : Cm.DE L Mr.toList = some vs) (hv : Dj P .clear ts.toList vs S = some (v, S')) (h : RE P K n ops (i + 1) L S' Q) : RE P K n ops i L S Q :=
 bI ho hw hd (fun a ha => ⟨0, by
  have hb : kindOf (.call ⟨.builtin .clear, Mr, ts⟩) = .Ed := rfl
  rw [AH]
  unfold CF
  rw [hb]
  show (match Dj P .clear ts.toList (Mr.toList.map a.ev) S with
   | some (v, S') => some (N8.val v, S')
   | none => none) = _
  rw [Ii ha hx, hv]⟩) h
theorem ACs (x : Int) : CC Tryz.prog KK 143 [.int .i64 x] S (fun v S' => AG S S' ∧ v = .bool (decide (0 < x))) := by
 refine ce 5 Tryz.func143 fun hl => ?_; refine zg ?_
 exact y1 rfl ⟨hl.AA, rfl⟩
theorem ADC (x : Int) (B : Nat) (hB : At S B (.cells [.func (.func 143) #[] #[]] 81 false true [])) : CC Tryz.prog KK 164 [.int .i64 x, ptrTo B 0] S (fun v S' => AG S S' ∧ v = .bool (!decide (0 < x))) := by
 refine ce 8 Tryz.func164 fun hl => ?_; refine zg ?_; refine rr rfl (Ba rfl rfl (l1 (hB.at_ hl.AA) rfl)) ?_; refine zg ?_
 refine zc hl rfl (ACs x) ?_; rintro v S1 Al rfl hl
 refine rr rfl (BC rfl rfl rfl) ?_; refine zg ?_
 exact y1 rfl ⟨hl.AA, rfl⟩
theorem oF (a : Option Addr) (cap : Nat) (C : List Int) (B : Nat) (hn : C.length ≤ 400) (hB : At S B (.cells [.func (.func 143) #[] #[]] 81 false true [])) (hv : A5 S (.slice a C.length cap) C) : CC Tryz.prog KK 183 [.slice a C.length cap, .func (.func 164) #[] #[ptrTo B 0]] S (fun v S' => AG S S' ∧ ∃ r : Int, v = .int .i64 r ∧ ((r = -1 ∧ ∀ x, x ∈ C → 0 < x) ∨ ∃ i x, r = (i : Nat) ∧ nth C i = some x ∧ ¬ 0 < x ∧ ∀ y, y ∈ C.take i → 0 < y)) := by
 refine ce 19 Tryz.func183 fun hl => ?_; refine zS ?_; refine AV rfl ?_; refine zS ?_; refine BF rfl ?_; refine AK (L' := [(8, .int .i64 (0 : Int)), (7, .int .i64 C.length), (0, .slice a C.length cap), (1, .func (.func 164) #[] #[ptrTo B 0])]) sE ?_
 refine Au rfl (fun m Le S' => ∃ i : Nat, i ≤ C.length ∧ m = C.length - i ∧ (∀ y, y ∈ C.take i → 0 < y) ∧ Af [(8, .int .i64 (i : Int)), (7, .int .i64 C.length), (0, .slice a C.length cap), (1, .func (.func 164) #[] #[ptrTo B 0])] Le ∧ AB S [S] S' [] []) ?_ (m := C.length) ⟨0, Q1, Q1, fun _ h => (List.not_mem_nil h).elim, sE, hl⟩
 clear hl; rintro m Le S' ⟨i, hi, rfl, hp, AL, hl⟩; refine AK AL ?_
 refine zg ?_
 constructor <;> intro h9
 ·
  have AJ : i < C.length := dT h9
  obtain ⟨x, hx⟩ := Ac AJ
  obtain ⟨b1, o1, Ai, ha, _, AY, Ab⟩ := hv.elem hx
  refine zg ?_
  refine zc hl rfl (ADC x B ⟨fun h => hB.at_ (hl.AA.trans h)⟩) ?_; rintro v S1 Al rfl hl
  refine zg ?_
  constructor <;> intro Cj
  ·
   have Cj : ¬ 0 < x := by simpa using Cj
   refine zg ?_
   refine CG (Cw (GK (CG (z1 rfl ⟨hl.AA, _, rfl, .inr ⟨i, x, rfl, hx, Cj, hp⟩⟩))))
  have Cj : 0 < x := by simpa using Cj
  refine zg ?_
  refine ⟨C.length - (i + 1), Q1, i + 1, Q1, rfl, fun y hy => ?_, sE, hl⟩
  rw [CJ hx] at hy
  rcases List.mem_append.1 hy with h | h
  ·exact hp y h
  rw [List.mem_singleton.1 h]; exact Cj
 obtain rfl : i = C.length := dF h9
 rw [List.take_length] at hp
 refine zg ?_
 exact y1 rfl ⟨hl.AA, _, rfl, .inl ⟨rfl, hp⟩⟩
theorem TT {α : Type} {C D : List α} {i : Nat} (h : i < C.length) : nth (C ++ D) i = nth C i := by rw [CD, CD, List.getElem?_append_left h]
theorem Nk {α : Type} {C : List α} {s : α} : nth (C ++ [s]) C.length = some s := by rw [CD]; simp
theorem Vy {α : Type} {C : List α} {s x : α} {i : Nat} (h : nth (C ++ [s]) i = some x) : nth C i = some x ∨ (i = C.length ∧ x = s) := by
 rcases Nat.lt_trichotomy i C.length with hi | hi | hi
 ·rw [TT hi] at h; exact .inl h
 ·subst hi; rw [Nk] at h; cases h; exact .inr ⟨rfl, rfl⟩
 have := CS h; simp at this; omega
theorem r7 {n i : Nat} (h : i ≤ n) : GV n n (some (.int .i64 (i : Int))) none none = some (i, n, n) := by
 unfold GV Hj
 simp only
 rw [if_pos ⟨Q1, Q1⟩]
 rfl
theorem r0 {n i : Nat} (h : i ≤ n) : GV n n none (some (.int .i64 (i : Int))) none = some (0, i, n) := by
 unfold GV Hj
 simp only
 rw [if_pos ⟨Q1, Q1⟩]
 rfl
section
variable {S : St} {b n i : Nat} {c : List Value} {ks : List Nat}
theorem nL (hg : S.get b = some (.cells c 3 true true ks)) : Jn Tryz.prog S b 1 = true := by
 have hz : A0 Tryz.prog 3 = some 1 := by kernel_rfl
 unfold Jn; rw [hg]; simp only [hz]; rfl
theorem ACU (hg : S.get b = some (.cells c 3 true true ks)) (hi : i ≤ n) : Fi Tryz.prog 22 (.slice (some ⟨b, 0, none⟩) n n) (some (.int .i64 (i : Int))) none none S = some (.slice (some ⟨b, i, none⟩) (n - i) (n - i)) := by
 unfold Fi
 have hz : A0 Tryz.prog 3 = some 1 := by kernel_rfl
 simp only [Tryz.underlying22, hz, r7 hi, nL hg, cond_true, Option.isSome_none, Bool.false_and, cond_false, Nat.zero_add, Nat.mul_one]
theorem ACT (hg : S.get b = some (.cells c 3 true true ks)) (hi : i ≤ n) : Fi Tryz.prog 22 (.slice (some ⟨b, 0, none⟩) n n) none (some (.int .i64 (i : Int))) none S = some (.slice (some ⟨b, 0, none⟩) i n) := by
 unfold Fi
 have hz : A0 Tryz.prog 3 = some 1 := by kernel_rfl
 simp only [Tryz.underlying22, hz, r0 hi, nL hg, cond_true, Option.isSome_none, Bool.false_and, cond_false, Nat.zero_mul, Nat.add_zero, Nat.sub_zero]
theorem nf {x : Value} : ∀ (c : List Value) (i : Nat), nth c i = some x → BJ i [x] c = some c
 | [], _, h => by cases h
 | y :: c, 0, h => by cases h; exact nc _ _ _
 | y :: c, i + 1, h => by rw [ACL, nf c i h]
theorem sr (cap : Nat) (hg : S.get b = some (.cells c 3 true true ks)) (h0 : nth c i = some (.int .i64 0)) :
  Dj Tryz.prog .clear [22] [.slice (some ⟨b, i, none⟩) 1 cap] S = some (.tuple #[], (S.kill ks).set b (.cells c 3 true true [])) := by
 show RX Tryz.prog [22] (.slice (some ⟨b, i, none⟩) 1 cap) S = _
 unfold RX
 have hz : zeroV Tryz.prog 3 = some (.int .i64 0) := by kernel_rfl
 simp only [Tryz.underlying22, hz]
 show (match JE S b i [.int .i64 0] with
  | some S' => some (Value.tuple #[], S')
  | none => none) = _
 unfold JE
 rw [hg]
 simp only [nf c i h0]
 rfl
end
theorem mA : ∀ (C : List Int) (i : Nat) (x : Int), nth C i = some x → nth ((C.map ic).flatten) i = some (.int .i64 x)
 | [], _, _, h => by cases h
 | y :: C, 0, x, h => by cases h; rfl
 | y :: C, i + 1, x, h => mA C i x h
theorem n9 (a : Option Addr) (C : List Int) (B : Nat) (hn : C.length ≤ 400) (hB : At S B (.cells [.func (.func 143) #[] #[]] 81 false true [])) (hp : ∀ x, x ∈ C → 0 < x) (hv : A5 S (.slice a C.length C.length) C) : CC Tryz.prog KK 163 [.slice a C.length C.length, .func (.func 164) #[] #[ptrTo B 0]] S (fun v S' => AG S S' ∧ v = .slice a C.length C.length) := by
 refine ce 42 Tryz.func163 fun hl => ?_; refine zg ?_
 refine zc hl rfl (oF a C.length C B hn hB hv) ?_; rintro v S1 Al ⟨r, rfl, hr⟩ hl
 have NW : r = -1 := by
  rcases hr with ⟨h, _⟩ | ⟨i, x, _, hx, h0, _⟩
  ·exact h
  exact absurd (hp x (Am hx)) h0
 subst NW
 refine zg ?_
 exact (z1 rfl ⟨hl.AA, rfl⟩)
theorem oA {Sb S : St} (b : Nat) (P : List Int) (B : Nat) {q fr l : List (Nat × AD)} (hn : P.length ≤ 300) (hB : At S B (.cells [.func (.func 143) #[] #[]] 81 false true [])) (hp : ∀ x, x ∈ P → 0 < x) (hO : Du (some ⟨b, 0, none⟩) (P ++ [0]) fr) (hl : AB Sb [Sb] S (q ++ (fr ++ l)) []) : CC Tryz.prog KK 163 [.slice (some ⟨b, 0, none⟩) (P ++ [0]).length (P ++ [0]).length, .func (.func 164) #[] #[ptrTo B 0]] S (fun v S' => v = .slice (some ⟨b, 0, none⟩) P.length (P ++ [0]).length ∧ ∃ AW, Du (some ⟨b, 0, none⟩) (P ++ [0]) AW ∧ AB Sb [Sb] S' (q ++ (AW ++ l)) []) := by
 have hlen : (P ++ [(0 : Int)]).length = P.length + 1 := by rw [ay]; rfl
 refine ce 42 Tryz.func163 fun _ => ?_; refine zg ?_
 refine zc hl rfl (oF (some ⟨b, 0, none⟩) _ (P ++ [0]) B Q1 hB (OW.at_ (f := ic) (fun _ => rfl) hO hl Ef)) ?_; rintro v S1 Al ⟨r, rfl, hr⟩ hl
 have NW : r = (P.length : Int) := by
  rcases hr with ⟨_, h⟩ | ⟨i, x, rfl, hx, h0, Dm⟩
  ·exact absurd (h 0 (List.mem_append.2 (.inr (List.mem_singleton.2 rfl)))) Q1
  rcases Vy hx with h | ⟨h, _⟩
  ·exact absurd (hp x (Am h)) h0
  rw [h]
 subst NW
 refine zg ?_
 refine Au rfl (fun m Le S' => Af [(6, .int .i64 ((P.length : Int) + 1)), (5, .int .i64 (P.length : Int)), (0, .slice (some ⟨b, 0, none⟩) (P ++ [0]).length (P ++ [0]).length)] Le ∧ AB Sb [Sb] S' (q ++ (fr ++ l)) []) ?_ (m := 0) ⟨sE, hl⟩
 clear hl Al; rintro m Le S2 ⟨AL, hl⟩; refine AK AL ?_
 rcases hO with ⟨h, _⟩ | ⟨b', dd, h1, h2, rfl, Od⟩
 ·cases h
 cases h1
 have hb := hl.at_ b _ (Ef (fr := (b, _) :: dd) _ aQ)
 have Bu : AB Sb [Sb] S2 ((q ++ l) ++ ((b, .cells (((P ++ [0]).map ic).flatten) 3 true true (dd.map (·.1))) :: dd)) [] := hl.perm (by
  rw [List.append_assoc]
  exact List.perm_append_comm.append_left q)
 refine zg ?_
 constructor <;> intro Dw
 ·have := oTr Dw; rw [hlen] at this; omega
 refine zg ?_; refine rr rfl (LX rfl rfl rfl rfl rfl (ACU (i := P.length) hb.1 Q1)) ?_
 rw [show (P ++ [(0 : Int)]).length - P.length = 1 by omega]
 refine ABb rfl rfl rfl rfl rfl (sr (i := P.length) 1 hb.1 (mA _ _ _ Nk)) ?_
 have NS := Bu.me (.cells (((P ++ [0]).map ic).flatten) 3 true true [])
 have Io := NS.at_ b _ (List.mem_append.2 (.inr (List.mem_singleton.2 rfl)))
 refine zg ?_; refine rr rfl (LX rfl rfl rfl rfl rfl (ACT (i := P.length) Io.1 Q1)) ?_; refine zg ?_
 refine y1 rfl ⟨rfl, [(b, .cells (((P ++ [0]).map ic).flatten) 3 true true [])], .inr ⟨b, [], rfl, h2, rfl, fun _ h => (List.not_mem_nil h).elim⟩, ?_⟩
 refine NS.perm ?_
 rw [List.append_assoc]
 exact List.perm_append_comm.append_left q
theorem cg (x : Int) : CC Tryz.prog KK 59 [.int .i64 x] S (fun v S' => AG S S' ∧ v = .bool false) := by
 refine ce 6 Tryz.func59 fun hl => ?_; refine zg ?_
 exact y1 rfl ⟨hl.AA, congrArg Value.bool (by simp)⟩
theorem ADZ (x y : Int) : CC Tryz.prog KK 197 [.int .i64 x, .int .i64 y] S (fun v S' => AG S S' ∧ v = .bool (decide (x < y))) := by
 refine ce 17 Tryz.func197 fun hl => ?_; refine zg ?_
 refine zc hl rfl (cg x) ?_; rintro v S1 Al rfl hl
 refine zg ?_
 exact y1 rfl ⟨hl.AA, rfl⟩
theorem ADY (a : Option Addr) (n cap : Nat) (hn : n ≤ 1) : CC Tryz.prog KK 191 [.slice a n cap, .int .i64 0, .int .i64 n] S (fun v S' => AG S S' ∧ v = AN []) := by
 refine ce 49 Tryz.func191 fun hl => ?_; refine zS ?_; refine BF rfl ?_; refine AK (L' := [(6, .int .i64 1), (0, .slice a n cap), (1, .int .i64 0), (2, .int .i64 n)]) sE ?_
 refine Au rfl (fun m Le S' => Af [(6, .int .i64 1), (0, .slice a n cap), (1, .int .i64 0), (2, .int .i64 n)] Le ∧ AB S [S] S' [] []) ?_ (m := 0) ⟨sE, hl⟩
 clear hl; rintro m Le S' ⟨AL, hl⟩; refine AK AL ?_
 refine zg ?_
 constructor <;> intro CL
 ·have := oTr CL; omega
 refine zg ?_
 show Fm Tryz.prog Tryz.f191.results.toList (fun v S' => AG S S' ∧ v = AN []) .normal _ S'
 exact Gy rfl ⟨hl.AA, rfl⟩
theorem V2 {Sb S : St} {b : Nat} {C : List Int} {q fr l : List (Nat × AD)} (hO : Du (some ⟨b, 0, none⟩) C fr) (hl : AB Sb [Sb] S (q ++ (fr ++ l)) []) : Di S b 3 ((C.map ic).flatten) := by
 rcases hO with ⟨h, _⟩ | ⟨b', dd, h1, h2, rfl, Od⟩
 ·cases h
 cases h1
 have hb := hl.at_ b _ (Ef (fr := (b, _) :: dd) _ aQ)
 exact ⟨hb.2.2, _, _, hb.1⟩
theorem mJ {Sb S : St} {b : Nat} {C D : List Int} {x : Int} {q fr l : List (Nat × AD)} (k : Nat) (hO : Du (some ⟨b, 0, none⟩) C fr) (hC : 0 < C.length) (hD : D.length = C.length) (hs : BJ k [.int .i64 x] ((C.map ic).flatten) = some ((D.map ic).flatten)) (hl : AB Sb [Sb] S (q ++ (fr ++ l)) []) : ∃ S' AW, Gv Tryz.prog 3 (ptrTo b k) (.int .i64 x) S = some S' ∧ Du (some ⟨b, 0, none⟩) D AW ∧ AB Sb [Sb] S' (q ++ (AW ++ l)) [] := by
 obtain ⟨bx, S', AW, e1, DO, Aw, Bu⟩ := Q9 (P := Tryz.prog) (k := k) (t := 3) (u := .int .i64 x) hl hO hC rfl aP hs ((Da (f := ic) (z := 1) (fun _ => rfl) _).trans ((congrArg (· * 1) hD).trans (Da (f := ic) (z := 1) (fun _ => rfl) _).symm))
 cases e1
 refine ⟨S', AW, DO, ?_, Bu⟩
 unfold Du
 rw [hD]
 exact Aw
theorem ADX {Sb S : St} (b : Nat) (v w : Int) (Sw : w < v) {q fr l : List (Nat × AD)} (hO : Du (some ⟨b, 0, none⟩) [v, w] fr) (hl : AB Sb [Sb] S (q ++ (fr ++ l)) []) : CC Tryz.prog KK 191 [.slice (some ⟨b, 0, none⟩) 2 2, .int .i64 0, .int .i64 2] S (fun r S' => r = AN [] ∧ ∃ AW, Du (some ⟨b, 0, none⟩) [w, v] AW ∧ AB Sb [Sb] S' (q ++ (AW ++ l)) []) := by
 refine ce 49 Tryz.func191 fun _ => ?_; refine zS ?_; refine BF rfl ?_; refine AK (L' := [(6, .int .i64 1), (0, .slice (some ⟨b, 0, none⟩) 2 2), (1, .int .i64 0), (2, .int .i64 2)]) sE ?_
 refine Au rfl (fun m Le S' => ∃ (C : List Int) (i : Int) (fr : List (Nat × AD)), ((i = 1 ∧ m = 1 ∧ C = [v, w]) ∨ (i = 2 ∧ m = 0 ∧ C = [w, v])) ∧ C.length = 2 ∧ Du (some ⟨b, 0, none⟩) C fr ∧ Af [(6, .int .i64 i), (0, .slice (some ⟨b, 0, none⟩) 2 2), (1, .int .i64 0), (2, .int .i64 2)] Le ∧ AB Sb [Sb] S' (q ++ (fr ++ l)) []) ?_ (m := 1) ⟨[v, w], 1, fr, .inl ⟨rfl, rfl, rfl⟩, rfl, hO, sE, hl⟩
 clear hl hO; rintro m Le S1 ⟨C, i, fr, hc, R6, hO, AL, hl⟩; refine AK AL ?_
 rcases hc with ⟨rfl, rfl, rfl⟩ | ⟨rfl, rfl, rfl⟩
 ·
  refine zg ?_; refine AK (L' := [(7, .int .i64 1), (6, .int .i64 1), (0, .slice (some ⟨b, 0, none⟩) 2 2), (1, .int .i64 0), (2, .int .i64 2)]) sE ?_
  refine Au rfl (fun m Le S' => ∃ (C : List Int) (j : Int) (fr : List (Nat × AD)), ((j = 1 ∧ m = 1 ∧ C = [v, w]) ∨ (j = 0 ∧ m = 0 ∧ C = [w, v])) ∧ C.length = 2 ∧ Du (some ⟨b, 0, none⟩) C fr ∧ Af [(7, .int .i64 j), (6, .int .i64 1), (0, .slice (some ⟨b, 0, none⟩) 2 2), (1, .int .i64 0), (2, .int .i64 2)] Le ∧ AB Sb [Sb] S' (q ++ (fr ++ l)) []) ?_ (m := 1) ⟨[v, w], 1, fr, .inl ⟨rfl, rfl, rfl⟩, rfl, hO, sE, hl⟩
  clear hl hO; rintro m Le S2 ⟨C, j, fr, hc, R6, hO, AL, hl⟩; refine AK AL ?_
  rcases hc with ⟨rfl, rfl, rfl⟩ | ⟨rfl, rfl, rfl⟩
  ·
   have AY := V2 hO hl
   refine AV rfl ?_; refine AV rfl (Bz hl 30 (.bool true) ?_ rfl ?_)
   ·
    refine A4 (idx := [0, 1, 2, 3, 4, 5, 6, 7, 8, 9, 10, 11, 12, 13, 14]) rfl aP aP ?_; refine zg ?_; refine pk rfl (Ba rfl rfl (q2 (ks tt rfl) AY rfl)) ?_; refine zg ?_; refine pk rfl (Ba rfl rfl (q2 (ks tt rfl) AY rfl)) ?_
    refine zp hl rfl (ADZ w v) ?_; rintro u S3 Al rfl hl; refine ⟨zt, ?_⟩
    rw [decide_eq_true Sw]
    refine zg ?_
    exact ⟨rfl, rfl, sB, hl⟩
   intro S3 hl
   have AY := V2 hO hl
   refine zg ?_; refine A4 (idx := [0, 1, 2, 3, 4, 5, 6, 7, 8, 9, 10, 11, 12, 13, 14, 15, 16, 17]) rfl aP aP ?_; refine zg ?_; refine pk rfl (Ba rfl rfl (q2 (ks tt rfl) AY rfl)) ?_; refine zg ?_; refine pk rfl (Ba rfl rfl (q2 (ks tt rfl) AY rfl)) ?_; refine zg ?_
   obtain ⟨S4, BA, DO, Aw, Bu⟩ := mJ (D := [v, v]) (x := v) 1 hO (Nat.succ_pos _) rfl rfl hl
   refine I9 rfl rfl rfl rfl rfl rfl DO zt ?_
   obtain ⟨S5, Pu, DI, Ob, NS⟩ := mJ (D := [w, v]) (x := w) 0 Aw (Nat.succ_pos _) rfl rfl Bu
   refine zg ?_; refine I9 rfl rfl rfl rfl rfl rfl DI zt ?_; refine zg ?_
   exact ⟨0, Q1, [w, v], 0, Pu, .inr ⟨rfl, rfl, rfl⟩, rfl, Ob, sE, NS⟩
  refine AV rfl ?_; refine AV rfl (Bz hl 30 (.bool false) ?_ rfl ?_)
  ·
   refine A4 (idx := [0, 1, 2, 3, 4, 5, 6, 7, 8, 9, 10, 11, 12, 13, 14]) rfl aP aP ?_; refine zg ?_
   exact ⟨rfl, rfl, sB, hl⟩
  intro S3 hl
  refine zg ?_
  exact ⟨0, Q1, [w, v], 2, fr, .inr ⟨rfl, rfl, rfl⟩, rfl, hO, sE, hl⟩
 refine zg ?_
 show Fm Tryz.prog Tryz.f191.results.toList (fun r S' => r = AN [] ∧ ∃ AW, Du (some ⟨b, 0, none⟩) [w, v] AW ∧ AB Sb [Sb] S' (q ++ (AW ++ l)) []) .normal _ S1
 exact Gy rfl ⟨rfl, fr, hO, hl⟩
theorem ADR (a : Option Addr) (n cap : Nat) (x : Int) (hn : n ≤ 1) : CC Tryz.prog KK 184 [.slice a n cap, .int .i64 0, .int .i64 n, .int .i64 x] S (fun v S' => AG S S' ∧ v = AN []) := by
 refine ce 134 Tryz.func184 fun hl => ?_; iterate 2 refine zS ?_
 refine BF rfl ?_
 refine Au rfl (fun m Le S' => Af [(0, .slice a n cap), (1, .int .i64 0), (2, .int .i64 n), (3, .int .i64 x)] Le ∧ AB S [S] S' [] []) ?_ (m := 0) ⟨sE, hl⟩
 clear hl; rintro m Le S' ⟨AL, hl⟩; refine AK AL ?_
 refine zg ?_
 constructor <;> intro DF
 ·
  refine zg ?_
  refine zc hl rfl (ADY a n cap hn) ?_; rintro v S1 Al rfl hl
  refine zg ?_
  exact Cw (CG (GK (CG (CK rfl ⟨hl.AA, rfl⟩))))
 have := oFa DF; omega
theorem ADQ {Sb S : St} (b : Nat) (v w x : Int) (Sw : w < v) {q fr l : List (Nat × AD)} (hO : Du (some ⟨b, 0, none⟩) [v, w] fr) (hl : AB Sb [Sb] S (q ++ (fr ++ l)) []) : CC Tryz.prog KK 184 [.slice (some ⟨b, 0, none⟩) 2 2, .int .i64 0, .int .i64 2, .int .i64 x] S (fun r S' => r = AN [] ∧ ∃ AW, Du (some ⟨b, 0, none⟩) [w, v] AW ∧ AB Sb [Sb] S' (q ++ (AW ++ l)) []) := by
 refine ce 134 Tryz.func184 fun _ => ?_; iterate 2 refine zS ?_
 refine BF rfl ?_
 refine Au rfl (fun m Le S' => Af [(0, .slice (some ⟨b, 0, none⟩) 2 2), (1, .int .i64 0), (2, .int .i64 2), (3, .int .i64 x)] Le ∧ AB Sb [Sb] S' (q ++ (fr ++ l)) []) ?_ (m := 0) ⟨sE, hl⟩
 clear hl; rintro m Le S' ⟨AL, hl⟩; refine AK AL ?_
 refine zg ?_
 refine Ct rfl rfl rfl rfl rfl rfl rfl (Bp (ADX b v w Sw hO hl) ?_); rintro r S1 ⟨rfl, BA, Aw, Bu⟩
 refine zg ?_
 exact Cw (CG (GK (CG (CK rfl ⟨rfl, BA, Aw, Bu⟩))))
theorem cR (a : Option Addr) (n cap : Nat) (hn : n ≤ 1) : CC Tryz.prog KK 165 [.slice a n cap] S (fun v S' => AG S S' ∧ v = AN []) := by
 refine ce 11 Tryz.func165 fun hl => ?_; refine zg ?_; refine bH (v := .int .u64 (n : Int)) (S' := S) rfl rfl rfl rfl rfl rfl (by rcases (by omega : n = 0 ∨ n = 1) with rfl | rfl <;> kernel_rfl) ?_
 refine zc hl rfl (Zs Q1) ?_; rintro v S1 Al ⟨x, rfl⟩ hl
 refine zc hl rfl (ADR a n cap x hn) ?_; rintro v S2 Ar rfl hl
 refine zg ?_
 exact Gy rfl ⟨hl.AA, rfl⟩
theorem ADD {Sb S : St} (b : Nat) (v w : Int) (Sw : w < v) {q fr l : List (Nat × AD)} (hO : Du (some ⟨b, 0, none⟩) [v, w] fr) (hl : AB Sb [Sb] S (q ++ (fr ++ l)) []) : CC Tryz.prog KK 165 [.slice (some ⟨b, 0, none⟩) 2 2] S (fun r S' => r = AN [] ∧ ∃ AW, Du (some ⟨b, 0, none⟩) [w, v] AW ∧ AB Sb [Sb] S' (q ++ (AW ++ l)) []) := by
 refine ce 11 Tryz.func165 fun _ => ?_; refine zg ?_; refine bH (v := .int .u64 ((2 : Nat) : Int)) (S' := S) rfl rfl rfl rfl rfl rfl aP ?_
 refine zc hl rfl (Zs (n := 2) Q1) ?_; rintro u S1 Al ⟨x, rfl⟩ hl
 refine Ct rfl rfl rfl rfl rfl rfl rfl (Bp (ADQ b v w x Sw hO hl) ?_); rintro r S2 ⟨rfl, BA, Aw, Bu⟩
 refine zg ?_
 exact Gy rfl ⟨rfl, BA, Aw, Bu⟩
theorem cT (a : Option Addr) (n cap : Nat) (hn : n ≤ 1) : CC Tryz.prog KK 166 [.slice a n cap] S (fun v S' => AG S S' ∧ v = .slice a n cap) := by
 refine ce 61 Tryz.func166 fun hl => ?_; refine zg ?_
 constructor <;> intro h8
 ·
  refine zg ?_
  exact (z1 rfl ⟨hl.AA, rfl⟩)
 have := oFa h8; omega
theorem ADE (a : Option Addr) (x y : Int) (yN : x ≠ y) (hv : A5 S (.slice a 2 2) [x, y]) : CC Tryz.prog KK 166 [.slice a 2 2] S (fun v S' => AG S S' ∧ v = .slice a 2 2) := by
 refine ce 61 Tryz.func166 fun hl => ?_; refine zg ?_
 refine Au rfl (fun m Le S' => ∃ i : Nat, ((i = 1 ∧ m = 1) ∨ (i = 2 ∧ m = 0)) ∧ Af [(3, .int .i64 (i : Int)), (2, .slice none 0 0), (0, .slice a 2 2)] Le ∧ AB S [S] S' [] []) ?_ (m := 1) ⟨1, .inl ⟨rfl, rfl⟩, sE, hl⟩
 clear hl; rintro m Le S' ⟨i, hi, AL, hl⟩; refine AK AL ?_
 rcases hi with ⟨rfl, rfl⟩ | ⟨rfl, rfl⟩
 ·
  refine zg ?_; refine A4 (idx := [0, 1, 2, 3, 4, 5, 6, 7, 8, 9]) rfl aP aP ?_
  rcases hv with ⟨h, _⟩ | ⟨b1, o1, AFh, Ai, ha, _, AY, Dm⟩
  ·cases h
  cases ha
  have AF8 : takeN 1 (BW (o1 + 1 * 1) Ai) = some [.int .i64 y] := Dm 1 _ rfl
  have FI : takeN 1 (BW (o1 + 0 * 1) Ai) = some [.int .i64 x] := Dm 0 _ rfl
  refine zg ?_
  constructor <;> intro EX
  ·exact absurd (oTr EX).symm yN
  refine zg ?_
  exact ⟨0, Q1, 2, .inr ⟨rfl, rfl⟩, sE, hl⟩
 refine zg ?_
 exact y1 rfl ⟨hl.AA, rfl⟩
def Cg : List Int → List Int
 | [x] => if 0 < x then [x] else []
 | [v, w] => if 0 < w then [w, v] else [v]
 | _ => []
theorem kZ {S : St} {b cap : Nat} {C D : List Int} (h : Di S b 3 ((C.map ic).flatten)) (hD : ∀ i x, nth D i = some x → nth C i = some x) (hl : D.length ≤ cap) : A5 S (.slice (some ⟨b, 0, none⟩) D.length cap) D := by
 refine .inr ⟨b, 0, cap, _, by rw [cw], by rw [cw]; exact hl, h, fun k x hk => ?_⟩
 have key : ∀ (C : List Int) (i : Nat) (x : Int), nth C i = some x → takeN 1 (BW (0 + i * 1) ((C.map ic).flatten)) = some (ic x) := by
  intro C
  induction C with
  | nil => intro i x h; cases h
  | cons y C ih =>
   intro i x h
   cases i with
   | zero => cases h; rfl
   | succ i => 
    have := ih i x h
    rw [Nat.zero_add, Nat.mul_one] at this ⊢
    exact this
 have Ar : ∃ y, nth D k = some y ∧ x = ic y := by
  rw [CD, List.getElem?_map] at hk
  cases hd : D[k]? with
  | none => rw [hd] at hk; cases hk
  | some y => rw [hd] at hk; cases hk; exact ⟨y, by rw [CD]; exact hd, rfl⟩
 obtain ⟨y, hy, rfl⟩ := Ar
 exact key C k y (hD k y hy)
theorem cO (a : Option Addr) (cap : Nat) (C : List Int) (hC : (∃ x, C = [x] ∧ 0 ≤ x) ∨ ∃ v w, C = [v, w] ∧ 0 < v ∧ 0 ≤ w ∧ w < v) (hv : A5 S (.slice a C.length cap) C) : CC Tryz.prog KK 144 [.slice a C.length cap, .func (.func 143) #[] #[]] S (fun v S' => AG S S' ∧ ∃ av c, v = .slice av (Cg C).length c ∧ A5 S' (.slice av (Cg C).length c) (Cg C)) := by
 refine ce 13 Tryz.func144 fun hl => ?_
 have YR : C.length ≤ 2 ∧ 0 < C.length := by rcases hC with ⟨x, rfl, _⟩ | ⟨v, w, rfl, _⟩ <;> simp
 refine zg ?_; refine bL hl fun B3 S1 hl => ?_; refine zg ?_
 refine Ct rfl rfl rfl rfl rfl rfl rfl (Bp (oO a cap C Q1 (hv.move (hl.since 0 rfl))) ?_); rintro v S2 ⟨_, av, fr, rfl, hO, hb⟩
 have hl : AB S [S] S2 ([(B3, .cells [.func (.func 143) #[] #[]] 81 false true [])] ++ (fr ++ [])) [] := by rw [List.append_nil]; exact hl.join hb
 have h3 := hl.at_ B3 _ aQ
 have hB : At S2 B3 (.cells [.func (.func 143) #[] #[]] 81 false true []) := ⟨fun g => (g.2 B3 h3.2.2).trans h3.1⟩
 obtain ⟨b, rfl⟩ := OW.ne hO YR.2
 refine rr rfl (Fg rfl rfl rfl) ?_
 rcases hC with ⟨x, rfl, hx⟩ | ⟨v, w, rfl, kF, kN, Ze⟩
 ·
  by_cases h0 : 0 < x
  ·
   refine zc hl rfl (n9 (some ⟨b, 0, none⟩) [x] B3 (by show 1 ≤ 400; omega) hB (fun y hy => by rw [List.mem_singleton.1 hy]; exact h0) (OW.at_ (f := ic) (C := [x]) (fun _ => rfl) hO hl (Ef (q := [_])))) ?_; rintro u S3 Bt rfl hl
   refine zg ?_
   refine zc hl rfl (cR _ 1 1 Q1) ?_; rintro u S4 GD rfl hl
   refine zg ?_
   refine zc hl rfl (cT _ 1 1 Q1) ?_; rintro u S5 FZ rfl hl
   refine zg ?_
   have e : Cg [x] = [x] := if_pos h0
   rw [e]
   exact y1 rfl ⟨hl.AA, _, 1, rfl, OW.at_ (f := ic) (C := [x]) (fun _ => rfl) hO hl (Ef (q := [_]))⟩
  obtain rfl : x = 0 := by omega
  refine Ct rfl rfl rfl rfl rfl rfl rfl (Bp (oA b [] B3 (q := [_]) (l := []) (by decide) hB (fun y hy => (List.not_mem_nil hy).elim) hO hl) ?_); rintro u S3 ⟨rfl, BA, Aw, hl⟩
  refine zg ?_
  refine zc hl rfl (cR _ 0 1 Q1) ?_; rintro u S4 GD rfl hl
  refine zg ?_
  refine zc hl rfl (cT _ 0 1 Q1) ?_; rintro u S5 FZ rfl hl
  refine zg ?_
  exact y1 rfl ⟨hl.AA, _, 1, rfl, kZ (D := []) (V2 (C := [0]) (q := [_]) Aw hl) (fun _ _ h => by cases h) (by decide)⟩
 by_cases h0 : 0 < w
 ·
  refine zc hl rfl (n9 (some ⟨b, 0, none⟩) [v, w] B3 (by show 2 ≤ 400; omega) hB (fun y hy => by rcases List.mem_cons.1 hy with rfl | h; exact kF; rw [List.mem_singleton.1 h]; exact h0) (OW.at_ (f := ic) (C := [v, w]) (fun _ => rfl) hO hl (Ef (q := [_])))) ?_; rintro u S3 Bt rfl hl
  refine zg ?_
  refine Ct rfl rfl rfl rfl rfl rfl rfl (Bp (ADD (q := [_]) (l := []) b v w Ze hO hl) ?_); rintro u S4 ⟨rfl, BA, Aw, hl⟩
  refine zg ?_
  refine zc hl rfl (ADE (some ⟨b, 0, none⟩) w v Q1 (OW.at_ (f := ic) (C := [w, v]) (fun _ => rfl) Aw hl (Ef (q := [_])))) ?_; rintro u S5 FZ rfl hl
  refine zg ?_
  have e : Cg [v, w] = [w, v] := if_pos h0
  rw [e]
  exact y1 rfl ⟨hl.AA, _, 2, rfl, OW.at_ (f := ic) (C := [w, v]) (fun _ => rfl) Aw hl (Ef (q := [_]))⟩
 obtain rfl : w = 0 := by omega
 refine Ct rfl rfl rfl rfl rfl rfl rfl (Bp (oA b [v] B3 (q := [_]) (l := []) (by show 1 ≤ 300; omega) hB (fun y hy => by rw [List.mem_singleton.1 hy]; exact kF) hO hl) ?_); rintro u S3 ⟨rfl, BA, Aw, hl⟩
 refine zg ?_
 refine zc hl rfl (cR _ 1 2 Q1) ?_; rintro u S4 GD rfl hl
 refine zg ?_
 refine zc hl rfl (cT _ 1 2 Q1) ?_; rintro u S5 FZ rfl hl
 refine zg ?_
 have e : Cg [v, 0] = [v] := by unfold Cg; exact if_neg Q1
 rw [e]
 exact y1 rfl ⟨hl.AA, _, 2, rfl, kZ (D := [v]) (V2 (C := [v, 0]) (q := [_]) Aw hl) (fun i y h => by
  cases i with
  | zero => cases h; rfl
  | succ i => cases h) (by show 1 ≤ 2; omega)⟩
theorem p7 : (KY.all fun M => Nz.all fun (v : Nat) => decide (0 ≤ Bb M (v : Int)) && decide (Bb M (v : Int) < (v : Int))) = true := by kernel_rfl
theorem eU {a b c d : Int} (h : Ap a b c d = 0) {v : Nat} (hv : 2 ≤ v ∧ v ≤ 6) : 0 ≤ Bb [a, b, c, d] v ∧ Bb [a, b, c, d] v < v := by
 have := List.all_eq_true.1 (List.all_eq_true.1 p7 _ (MM h)) _ (TO hv)
 rw [Bool.and_eq_true] at this
 exact ⟨oTr this.1, oTr this.2⟩
def C9 (M : List Int) (s : Sg) : List Int := bif s.kind == 2 then Cg [Bb M s.value] else bif s.color then [0] else bif IL M s.value.toNat == 3 then Cg [s.value, Bb M s.value] else 0 :: Cg [Bb M s.value]
theorem AA8 : (KY.all fun M => Nz.all fun (v : Nat) => match M with
 | [a, b, c, d] => (TV a b c d (v : Int) == 3) == (IL M v == 3)
 | _ => false) = true := by kernel_rfl
theorem mZ {a b c d : Int} (h : Ap a b c d = 0) {v : Nat} (hv : 2 ≤ v ∧ v ≤ 6) : (TV a b c d (v : Int) == 3) = (IL [a, b, c, d] v == 3) := by
 have := List.all_eq_true.1 (List.all_eq_true.1 AA8 _ (MM h)) _ (TO hv)
 exact beq_iff_eq.1 this
structure NR (s : Sg) : Prop where
 k : s.kind = 1 ∨ (s.kind = 2 ∧ s.color = false)
 v : 2 ≤ s.value ∧ s.value ≤ 6
theorem cM (p q r t : Int) (s : Sg) (hm : Ap p q r t = 0) (hs : NR s) : CC Tryz.prog KK 114 [mV [p, q, r, t], s.v] S (fun w S' => AG S S' ∧ ∃ av c, w = .slice av (C9 [p, q, r, t] s).length c ∧ A5 S' (.slice av (C9 [p, q, r, t] s).length c) (C9 [p, q, r, t] s)) := by
 obtain ⟨v, hv⟩ : ∃ v : Nat, s.value = (v : Int) := ⟨s.value.toNat, by have := hs.v; omega⟩
 have BY : 2 ≤ v ∧ v ≤ 6 := by have := hs.v; omega
 have ND := eU hm BY
 have Sv : s.value.toNat = v := by omega
 refine ce 51 Tryz.func114 fun hl => ?_; refine zg ?_; refine bL hl fun B2 S2 hl => ?_; refine bL hl fun B3 S3 hl => ?_; refine zg ?_
 rw [hv]
 refine zc hl rfl (y7 hm BY) ?_; rintro w S4 Al rfl hl
 refine zg ?_
 rw [hv]
 refine zc hl rfl (ACr p q r t v hm BY) ?_; rintro w S5 Al rfl hl
 refine zg ?_
 constructor <;> intro KC
 ·
  have KC : (s.kind == 2) = true := KC
  have e : C9 [p, q, r, t] s = Cg [Bb [p, q, r, t] s.value] := by unfold C9; rw [KC]; rfl
  rw [e, hv]
  refine zg ?_; refine dL hl (ic (Bb [p, q, r, t] v)) Tryz.underlying22 fun pR S6 xR hl => ?_; refine zg ?_
  refine zc hl rfl (cO (some ⟨pR, 0, none⟩) 1 [Bb [p, q, r, t] v] (.inl ⟨_, rfl, ND.1⟩) (AZ.row (f := ic) (C := [_]) (fun _ => rfl) xR rfl)) ?_; rintro w S7 Ar ⟨a2, c2, rfl, hI⟩ hl
  refine zg ?_
  exact CG ((z1 rfl ⟨hl.AA, a2, c2, rfl, hI⟩))
 have KC : (s.kind == 2) = false := KC
 refine zg ?_
 constructor <;> intro Ge
 ·
  have e : C9 [p, q, r, t] s = [0] := by unfold C9; rw [KC, Ge]; rfl
  rw [e]
  refine zg ?_; refine dL hl (ic 0) Tryz.underlying22 fun pS S6 ZH hl => ?_; refine zg ?_
  exact CG ((z1 rfl ⟨hl.AA, _, 1, rfl, AZ.row (f := ic) (C := [0]) (fun _ => rfl) ZH rfl⟩))
 refine zg ?_
 constructor <;> intro Ew
 ·
  have Ew : (TV p q r t v == 3) = true := Ew
  rw [mZ hm BY] at Ew
  have e : C9 [p, q, r, t] s = Cg [s.value, Bb [p, q, r, t] s.value] := by unfold C9; rw [KC, Ge, Sv, Ew]; rfl
  rw [e, hv]
  refine zg ?_
  rw [hv]
  refine dL hl ([.int .i64 (v : Int), .int .i64 (Bb [p, q, r, t] v)]) Tryz.underlying22 fun pU S6 xW hl => ?_; refine zg ?_
  refine zc hl rfl (cO (some ⟨pU, 0, none⟩) 2 [(v : Int), Bb [p, q, r, t] v] (.inr ⟨_, _, rfl, Q1, ND.1, ND.2⟩) (AZ.row (f := ic) (C := [_, _]) (fun _ => rfl) xW rfl)) ?_; rintro w S7 Ar ⟨a2, c2, rfl, hI⟩ hl
  refine zg ?_
  exact CG ((z1 rfl ⟨hl.AA, a2, c2, rfl, hI⟩))
 have Ew : (TV p q r t v == 3) = false := Ew
 rw [mZ hm BY] at Ew
 have e : C9 [p, q, r, t] s = 0 :: Cg [Bb [p, q, r, t] s.value] := by unfold C9; rw [KC, Ge, Sv, Ew]; rfl
 rw [e, hv]
 refine zg ?_; refine Qn hl 1 rfl rfl rfl rfl rfl Tryz.underlying22 rfl (c := ic 0) aP rfl ?_; intro w6 S6 hl
 obtain ⟨av, rfl⟩ : ∃ x, w6 = .slice x 1 1 := AU.is (hl.gr _ aQ)
 refine zg ?_; refine dL hl (ic (Bb [p, q, r, t] v)) Tryz.underlying22 fun pV S7 xY hl => ?_; refine zg ?_
 refine zc hl rfl (cO (some ⟨pV, 0, none⟩) 1 [Bb [p, q, r, t] v] (.inl ⟨_, rfl, ND.1⟩) (AZ.row (f := ic) (C := [_]) (fun _ => rfl) xY rfl)) ?_; rintro w S8 Al ⟨a2, c2, rfl, Na⟩ hl
 have Cd : (Cg [Bb [p, q, r, t] v]).length ≤ 1 := by
  by_cases h : 0 < Bb [p, q, r, t] v
  ·rw [show Cg [Bb [p, q, r, t] v] = [Bb [p, q, r, t] v] from if_pos h]; exact Nat.le_refl 1
  rw [show Cg [Bb [p, q, r, t] v] = [] from if_neg h]; exact Nat.zero_le 1
 refine DX hl 0 rfl rfl (by simp) rfl rfl rfl rfl rfl rfl rfl Tryz.underlying22 Tryz.underlying22 rfl rfl aP Na.cells (Da (f := ic) (z := 1) (fun _ => rfl) _) (K6 (f := ic) (fun _ => rfl) _) aP (by show 1 + _ ≤ AQ; unfold AQ; omega) ?_; intro w9 S9 hl
 obtain ⟨a3, rfl⟩ : ∃ x, w9 = .slice x (1 + (Cg [Bb [p, q, r, t] v]).length) (1 + (Cg [Bb [p, q, r, t] v]).length) := AU.is (hl.gr _ aQ)
 have hg : AU S S9 (gN a3 (0 :: Cg [Bb [p, q, r, t] v])) := by
  have h := hl.gr _ aQ
  unfold gN Eu
  rw [show (0 :: Cg [Bb [p, q, r, t] v]).length = 1 + (Cg [Bb [p, q, r, t] v]).length by rw [List.length_cons]; omega]
  exact h
 have hI := AU.ls (f := ic) (fun _ => rfl) hg
 refine zg ?_
 refine y1 rfl ⟨hl.AA, a3, _, ?_, hI⟩
 rw [show (0 :: Cg [Bb [p, q, r, t] v]).length = 1 + (Cg [Bb [p, q, r, t] v]).length by rw [List.length_cons]; omega]
def A9 (v p : Int) (c : Bool) : Sg := ⟨1, v, p, 0, c, 0, false, false, 0, 0, 0, 0, false, 0, 0, 0, 0⟩
def Qp (v : Int) : Sg := ⟨2, v, 0, 0, false, 0, false, false, 0, 0, 0, 0, false, 0, 0, 0, 0⟩
def FB : Sg := ⟨3, 0, 0, 0, false, 0, false, false, 0, 0, 0, 0, false, 0, 0, 0, 0⟩
def NX (s : Sg) : Prop := (∃ v p c, (2 ≤ v ∧ v ≤ 6) ∧ (0 ≤ p ∧ p ≤ 8) ∧ s = A9 v p c) ∨ ∃ v, (2 ≤ v ∧ v ≤ 6) ∧ s = Qp v
theorem NX.nr {s : Sg} (h : NX s) : NR s := by
 rcases h with ⟨v, p, c, hv, _, rfl⟩ | ⟨v, hv, rfl⟩
 ·exact ⟨.inl rfl, hv⟩
 exact ⟨.inr ⟨rfl, rfl⟩, hv⟩
def Br (M : List Int) (R : List Sg) : Prop := ∀ j s, nth R j = some s → NX s ∨ (s = FB ∧ ∃ k x, j = k + 1 ∧ NX x ∧ C9 M x ≠ [] ∧ nth R k = some x)
def Hz : List Sg → Nat → List Int
 | [], _ => []
 | s :: r, i => bif s.kind == 3 then (i : Int) :: Hz r (i + 1) else Hz r (i + 1)
def Ch (R : List Sg) : List Int := Hz R 0
theorem Rc {s : Sg} {r : List Sg} {i : Nat} (h : (s.kind == 3) = true) : Hz (s :: r) i = (i : Int) :: Hz r (i + 1) := by rw [Hz, h]; rfl
theorem Re {s : Sg} {r : List Sg} {i : Nat} (h : (s.kind == 3) = false) : Hz (s :: r) i = Hz r (i + 1) := by rw [Hz, h]; rfl
theorem ACp (a : Option Addr) (cap : Nat) (R : List Sg) (hn : R.length ≤ 27) (hv : Bh S (.slice a R.length cap) R) : CC Tryz.prog KK 139 [.slice a R.length cap] S (fun v S' => AG S S' ∧ ∃ av, v = .slice av (Ch R).length (Ch R).length ∧ (Ch R).length ≤ 27 ∧ AU S S' (gN av (Ch R))) := by
 refine ce 22 Tryz.func139 fun hl => ?_; refine zg ?_
 have hl := hl.EP (g := gN none []) (.inl ⟨rfl, rfl, rfl⟩)
 refine AK (L' := [(8, .int .i64 (0 : Int)), (7, .int .i64 R.length), (6, .slice a R.length cap), (3, .slice none ([] : List Int).length ([] : List Int).length), (2, .slice none 0 0)]) sE ?_
 refine Au rfl (fun m Le S' => ∃ (i : Nat) (av : Option Addr) (O : List Int), i ≤ R.length ∧ m = R.length - i ∧ O.length ≤ i ∧ O ++ Hz (R.drop i) i = Ch R ∧ Af [(8, .int .i64 (i : Int)), (7, .int .i64 R.length), (6, .slice a R.length cap), (3, .slice av O.length O.length), (2, .slice none 0 0)] Le ∧ AB S [S] S' [] [gN av O]) ?_ (m := R.length) ⟨0, none, [], Q1, Q1, by simp, rfl, sE, hl⟩
 clear hl; rintro m Le S' ⟨i, av, O, hi, rfl, hO, A8, AL, hl⟩; refine AK AL ?_
 refine zg ?_
 constructor <;> intro h9
 ·
  have AJ : i < R.length := dT h9
  obtain ⟨s, hs⟩ := Ac AJ
  obtain ⟨b1, o1, Ai, ha, _, AY, Ab⟩ := hv.elem hs
  rw [D4 hs] at A8
  refine zg ?_; refine aL hl ((FB.cells.set 0 (.int .i64 0))) fun B5 S5 hl => ?_; refine zg ?_; refine sL hl 0 s.cells fun S6 hl => ?_; refine zg ?_
  constructor <;> intro H3
  ·
   refine zg ?_; refine dL hl (ic (i : Int)) Tryz.underlying22 fun pP S7 xO hl => ?_; refine DX hl 0 rfl rfl (by simp) rfl rfl rfl rfl rfl rfl rfl Tryz.underlying22 Tryz.underlying22 rfl rfl aP (Bf (new := ic (i : Int)) xO rfl) rfl rfl aP (by show O.length + 1 ≤ AQ; unfold AQ; omega) ?_; intro v19 S8 hl
   obtain ⟨AT, rfl⟩ : ∃ x, v19 = .slice x (O.length + 1) (O.length + 1) := AU.is (hl.gr _ aQ)
   refine zg ?_
   refine ⟨R.length - (i + 1), Q1, i + 1, AT, O ++ [(i : Int)], Q1, rfl, by rw [ay]; show O.length + 1 ≤ _; omega, by rw [← A8, Rc H3, List.append_assoc]; rfl, ⟨rfl, rfl, rfl, congrArg some (congrArg (fun n => Value.slice AT n n) (by rw [ay]; rfl)), rfl, trivial⟩, ?_⟩
   rw [gN, EH]
   exact hl.tail
  refine zg ?_
  exact ⟨R.length - (i + 1), Q1, i + 1, av, O, Q1, rfl, Q1, by rw [← A8, Re H3], sE, hl.tail⟩
 rw [List.drop_eq_nil_of_le (dF h9)] at A8
 have A8 : O = Ch R := by rw [← A8]; exact (List.append_nil _).symm
 subst A8
 refine zg ?_
 refine y1 rfl ⟨hl.AA, av, rfl, Q1, hl.gr _ aQ⟩
theorem ck (a : Option Addr) (cap : Nat) (R : List Sg) (p q r t : Int) (hm : Ap p q r t = 0) (_ : Ad S) (hn : R.length ≤ 27) (hR : Br [p, q, r, t] R) (hv : Bh S (.slice a R.length cap) R) : CC Tryz.prog KK 97 [mV [p, q, r, t], .slice a R.length cap] S (fun v S' => AG S S' ∧ v = .int .i64 0) := by
 refine ce 58 Tryz.func97 fun hl => ?_; refine zg ?_; refine bL hl fun B2 S2 hl => ?_; refine zg ?_
 refine zc hl rfl (oM p q r t hm) ?_; rintro w S3 Al rfl hl
 rw [hm]
 refine zg ?_; refine AK (L' := [(15, .int .i64 (0 : Int)), (14, .int .i64 R.length), (13, .slice a R.length cap), (4, .int .i64 0), (2, ptrTo B2 0), (1, .slice a R.length cap)]) sE ?_
 refine Au rfl (fun m Le S' => ∃ i : Nat, i ≤ R.length ∧ m = R.length - i ∧ Af [(15, .int .i64 (i : Int)), (14, .int .i64 R.length), (13, .slice a R.length cap), (4, .int .i64 0), (2, ptrTo B2 0), (1, .slice a R.length cap)] Le ∧ AB S [S] S' [(B2, .cells (AP (mV [p, q, r, t])) 28 false true [])] []) ?_ (m := R.length) ⟨0, Q1, Q1, sE, hl⟩
 clear hl; rintro m Le S' ⟨i, hi, rfl, AL, hl⟩; refine AK AL ?_
 refine zg ?_
 constructor <;> intro Cj
 ·
  have AJ : i < R.length := dT Cj
  obtain ⟨s, hs⟩ := Ac AJ
  obtain ⟨b1, o1, Ai, ha, _, AY, Ab⟩ := hv.elem hs
  refine zg ?_; refine aL hl ((FB.cells.set 0 (.int .i64 0))) fun B7 S7 hl => ?_; refine zg ?_; refine sL hl 0 s.cells fun S8 hl => ?_
  rcases hR i s hs with (⟨v, pp, c, Iy, _, rfl⟩ | ⟨v, Iy, rfl⟩) | ⟨rfl, k, x, rfl, hx, jj, Ha⟩
  ·
   refine zg ?_; refine BH (d := 28) rfl (fun M9 => ?_) (fun M9 => ?_)
   ·
    exfalso
    have := oTr M9
    have : v < 1 := this
    omega
   refine zg ?_
   constructor <;> intro Ge
   ·
    exfalso
    have := oTr Ge
    have : v > 8 := this
    omega
   refine zg ?_
   exact ⟨R.length - (i + 1), Q1, i + 1, Q1, rfl, sE, hl.tail⟩
  ·
   refine zg ?_; refine BH (d := 28) rfl (fun M9 => ?_) (fun M9 => ?_)
   ·
    exfalso
    have := oTr M9
    have : v < 1 := this
    omega
   refine zg ?_
   constructor <;> intro Ge
   ·
    exfalso
    have := oTr Ge
    have : v > 8 := this
    omega
   refine zg ?_
   exact ⟨R.length - (i + 1), Q1, i + 1, Q1, rfl, sE, hl.tail⟩
  have Vi := hx.nr
  rcases hx with ⟨v, pp, c, Iy, _, rfl⟩ | ⟨v, Iy, rfl⟩
  ·
   obtain ⟨b2, o2, Hy, Eb, _, LH, LJ⟩ := hv.elem Ha
   refine zg ?_; refine A4 (idx := [0, 1, 2, 3, 4, 5, 6, 7, 8, 9, 10, 11, 12, 13, 14, 15, 16, 17, 18, 19, 20, 21]) rfl aP aP ?_; refine zg ?_
   have ek : ((k + 1 : Nat) : Int) - 1 = (k : Int) := by omega
   rw [ek]
   refine zg ?_
   rw [ek]
   refine zg ?_
   refine zp hl rfl (cM p q r t (A9 v pp c) hm Vi) ?_; rintro v S9 Ar ⟨av, c9, rfl, _⟩ hl
   refine ⟨zt, ?_⟩
   refine zg ?_
   constructor <;> intro G1
   ·
    exfalso
    have G1 : ((C9 [p, q, r, t] (A9 v pp c)).length : Int) == 0 := G1
    exact jj (List.length_eq_zero_iff.1 (by simpa using G1))
   refine zg ?_
   exact ⟨R.length - (k + 1 + 1), Q1, k + 1 + 1, Q1, rfl, sE, hl.tail⟩
  obtain ⟨b2, o2, Hy, Eb, _, LH, LJ⟩ := hv.elem Ha
  refine zg ?_; refine A4 (idx := [0, 1, 2, 3, 4, 5, 6, 7, 8, 9, 10, 11, 12, 13, 14, 15, 16, 17, 18, 19, 20, 21]) rfl aP aP ?_; refine zg ?_
  have ek : ((k + 1 : Nat) : Int) - 1 = (k : Int) := by omega
  rw [ek]
  refine zg ?_
  rw [ek]
  refine zg ?_
  refine zp hl rfl (cM p q r t (Qp v) hm Vi) ?_; rintro v S9 Ar ⟨av, c9, rfl, _⟩ hl
  refine ⟨zt, ?_⟩
  refine zg ?_
  constructor <;> intro G1
  ·
   exfalso
   have G1 : ((C9 [p, q, r, t] (Qp v)).length : Int) == 0 := G1
   exact jj (List.length_eq_zero_iff.1 (by simpa using G1))
  refine zg ?_
  exact ⟨R.length - (k + 1 + 1), Q1, k + 1 + 1, Q1, rfl, sE, hl.tail⟩
 refine zg ?_
 refine y1 rfl ⟨hl.AA, rfl⟩
theorem Xs : ∀ {{R : List Sg}} {{i j : Nat}} {{x : Int}}, nth (Hz R i) j = some x → ∃ q s, x = ((i + q : Nat) : Int) ∧ nth R q = some s ∧ (s.kind == 3) = true
 | [], _, _, _, h => by cases h
 | s :: r, i, j, x, h => by
  cases hk : (s.kind == 3) with
  | true =>
   rw [Rc hk] at h
   match j, h with
   | 0, h => cases h; exact ⟨0, s, rfl, rfl, hk⟩
   | j + 1, h =>
    obtain ⟨q, u, rfl, h2, h3⟩ := Xs (R := r) (i := i + 1) (j := j) h
    exact ⟨q + 1, u, by congr 1; omega, h2, h3⟩
  | false =>
   rw [Re hk] at h
   obtain ⟨q, u, rfl, h2, h3⟩ := Xs (R := r) (i := i + 1) (j := j) h
   exact ⟨q + 1, u, by congr 1; omega, h2, h3⟩
theorem Xr {M : List Int} {R : List Sg} (hR : Br M R) {j : Nat} {x : Int} (h : nth (Ch R) j = some x) : ∃ k s, x = ((k + 1 : Nat) : Int) ∧ k < R.length ∧ NX s ∧ C9 M s ≠ [] ∧ nth R k = some s := by
 obtain ⟨q, s, rfl, h2, h3⟩ := Xs h
 rcases hR q s h2 with (⟨_, _, _, _, _, rfl⟩ | ⟨_, _, rfl⟩) | ⟨rfl, k, x, rfl, hx, hm, hn⟩
 ·cases h3
 ·cases h3
 exact ⟨k, x, by rw [Nat.zero_add], by have := CS hn; omega, hx, hm, hn⟩
def BQ (M : List Int) (R : List Sg) : List (List Int) := (Ch R).map fun x => match nth R (x.toNat - 1) with
 | some s => C9 M s
 | none => []
theorem fo {x : Int} (h : 0 < x) : Cg [x] = [x] := if_pos h
theorem s9 {x : Int} (h : ¬ 0 < x) : Cg [x] = [] := if_neg h
theorem fq {v w : Int} (h : 0 < w) : Cg [v, w] = [w, v] := if_pos h
theorem fp {v w : Int} (h : ¬ 0 < w) : Cg [v, w] = [v] := if_neg h
theorem fl (x : Int) : (Cg [x]).length ≤ 1 := by
 by_cases h : 0 < x
 ·rw [fo h]; exact Nat.le_refl 1
 rw [s9 h]; exact Nat.zero_le 1
theorem s7 (v w : Int) : (Cg [v, w]).length ≤ 2 := by
 by_cases h : 0 < w
 ·rw [fq h]; exact Nat.le_refl 2
 rw [fp h]; exact Nat.le_succ 1
theorem AAR (M : List Int) (s : Sg) : (C9 M s).length ≤ 2 := by
 unfold C9
 cases s.kind == 2
 ·cases s.color
  ·cases IL M s.value.toNat == 3
   ·show (Cg _).length + 1 ≤ 2
    have := fl (Bb M s.value)
    omega
   exact s7 _ _
  show 1 ≤ 2; omega
 exact Nat.le_succ_of_le (fl _)
structure Rw where
 a : Option Addr
 c : Nat
 C : List Int
def Rw.cells (w : Rw) : List Value := [.slice w.a w.C.length w.c]
def Rw.Ok (S : St) (w : Rw) : Prop := A5 S (.slice w.a w.C.length w.c) w.C
abbrev UU := AZ 22 1 Rw.cells
abbrev ph (av : Option Addr) (G : List Rw) (fr : List (Nat × AD)) : Prop := OW (.slice av G.length G.length) 22 1 ((G.map Rw.cells).flatten) G.length fr
theorem cK (a : Option Addr) (cap : Nat) (R : List Sg) (p q r t : Int) (hm : Ap p q r t = 0) (hF : Ad S) (hn : R.length ≤ 27) (hR : Br [p, q, r, t] R) (hv : Bh S (.slice a R.length cap) R) : CC Tryz.prog KK 112 [mV [p, q, r, t], .slice a R.length cap] S (fun v S' => AG S S' ∧ ∃ av G, v = AN [.slice av G.length G.length, .int .i64 0] ∧ G.map Rw.C = BQ [p, q, r, t] R ∧ UU S' (.slice av G.length G.length) G ∧ ∀ w, w ∈ G → w.Ok S') := by
 refine ce 35 Tryz.func112 fun hl => ?_; refine zg ?_; refine bL hl fun B2 S2 hl => ?_; refine zg ?_
 refine zc hl rfl (ck a cap R p q r t hm (hl.AA.3 hF) hn hR (hv.move (hl.since 0 rfl))) ?_; rintro w S3 Al rfl hl
 refine zg ?_
 refine zc hl rfl (ACp a cap R hn (hv.move (hl.since 0 rfl))) ?_; rintro w S4 Ar ⟨ad, rfl, AFv, SR⟩ hl
 have Su : A5 S4 (.slice ad (Ch R).length (Ch R).length) (Ch R) := AU.ls (f := ic) (fun _ => rfl) SR
 refine zA ?_; refine BF rfl ?_
 have hl : AB S [S] S4 ([(B2, .cells (AP (mV [p, q, r, t])) 28 false true [])] ++ ([] ++ [])) [] := hl
 refine AK (L' := [(19, .int .i64 (0 : Int)), (18, .int .i64 (Ch R).length), (17, .slice ad (Ch R).length (Ch R).length), (7, .slice none ([] : List Rw).length ([] : List Rw).length), (5, .int .i64 0), (4, .slice none 0 0), (2, ptrTo B2 0), (1, .slice a R.length cap)]) sE ?_
 refine Au rfl (fun m Le S' => ∃ (j : Nat) (av : Option Addr) (G : List Rw) (fr : List (Nat × AD)), j ≤ (Ch R).length ∧ m = (Ch R).length - j ∧ G.map Rw.C = (BQ [p, q, r, t] R).take j ∧ (∀ w, w ∈ G → w.Ok S') ∧ A5 S' (.slice ad (Ch R).length (Ch R).length) (Ch R) ∧ ph av G fr ∧ Af [(19, .int .i64 (j : Int)), (18, .int .i64 (Ch R).length), (17, .slice ad (Ch R).length (Ch R).length), (7, .slice av G.length G.length), (5, .int .i64 0), (4, .slice none 0 0), (2, ptrTo B2 0), (1, .slice a R.length cap)] Le ∧ AB S [S] S' ([(B2, .cells (AP (mV [p, q, r, t])) 28 false true [])] ++ (fr ++ [])) []) ?_ (m := (Ch R).length) ⟨0, none, [], [], Q1, Q1, rfl, (fun w hw => (List.not_mem_nil hw).elim), Su, .inl ⟨rfl, rfl, rfl, rfl⟩, sE, hl⟩
 clear hl Su; rintro m Le S5 ⟨j, av, G, fr, hj, rfl, hG, A3, Su, hO, AL, hl⟩; refine AK AL ?_
 refine zg ?_
 constructor <;> intro HS
 ·
  have AJ : j < (Ch R).length := dT HS
  obtain ⟨x, hx⟩ := Ac AJ
  have OX : G.length = j := by
   have := congrArg List.length hG
   rw [cw, List.length_take] at this
   have h2 : (BQ [p, q, r, t] R).length = (Ch R).length := List.length_map _
   omega
  obtain ⟨b1, o1, Ai, ha, _, AY, Ab⟩ := Su.elem hx
  obtain ⟨k, s, rfl, wP, j9, _, Ha⟩ := Xr hR hx
  have hl := hl.mark
  refine zg ?_; refine A4 (idx := [0, 1, 2, 3, 4, 5, 6, 7, 8, 9, 10]) rfl aP aP ?_
  clear ha AY Ab
  obtain ⟨b1, o1, Ai, ha, _, AY, Ab⟩ := hv.elem Ha
  refine zg ?_
  have ek : ((k + 1 : Nat) : Int) - 1 = (k : Int) := by omega
  rw [ek]
  refine zg ?_
  refine zp hl rfl (cM p q r t s hm j9.nr) ?_; rintro w S9 Bt ⟨a0, c0, rfl, KI⟩ hl
  refine ⟨zt, ?_⟩
  have hl := hl.mark
  obtain ⟨w, hw⟩ : ∃ w : Rw, w = ⟨a0, c0, C9 [p, q, r, t] s⟩ := ⟨_, rfl⟩
  have Zd : [Value.slice a0 (C9 [p, q, r, t] s).length c0] = w.cells := by rw [hw]; rfl
  have KQ : w.Ok S9 := by rw [hw]; exact KI
  refine PC hF hl rfl rfl rfl rfl rfl Tryz.underlying64 rfl (c := w.cells) (by rw [← Zd]; kernel_rfl) ?_; intro B31 Co AFx xS hl
  refine Md hl hO rfl rfl rfl rfl rfl rfl rfl Tryz.underlying64 Tryz.underlying64 rfl rfl (by decide) aP (Bf (n := 1) (cap := 1) (new := w.cells) xS rfl) rfl rfl aP (by show G.length + 1 ≤ AQ; unfold AQ; omega) ?_; intro v32 BA D3 Aw hl; refine ⟨zt, ?_⟩
  obtain ⟨AT, rfl⟩ := Aw.is
  refine zg ?_
  refine ⟨(Ch R).length - (j + 1), Q1, j + 1, AT, G ++ [w], BA, Q1, rfl, ?_, ?_, Su.move (hl.since 1 rfl), Aw.push, ⟨rfl, rfl, rfl, congrArg some (congrArg (fun n => Value.slice AT n n) (by rw [ay]; rfl)), rfl, rfl, rfl, rfl, trivial⟩, hl.marks (Us := [S]) fun T hT => cy (cy hT)⟩
  ·have DU : nth (BQ [p, q, r, t] R) j = some (C9 [p, q, r, t] s) := by
    unfold BQ
    have := Dc (fun x : Int => match nth R (x.toNat - 1) with
     | some s => C9 [p, q, r, t] s
     | none => []) hx
    rw [this]
    show some (match nth R (k + 1 - 1) with
     | some s => C9 [p, q, r, t] s
     | none => []) = _
    rw [Nat.add_sub_cancel, Ha]
   rw [CJ DU, mAp, hG, hw]
   rfl
  intro w' Sy
  rcases List.mem_append.1 Sy with h | h
  ·have h2 : A5 _ _ _ := A3 w' h
   exact h2.move (hl.since 1 rfl)
  rw [List.mem_singleton.1 h]
  have h2 : A5 _ _ _ := KQ
  exact h2.move (hl.since 0 rfl)
 have FF : j = (Ch R).length := dF HS
 have h2 : (BQ [p, q, r, t] R).length = (Ch R).length := List.length_map _
 rw [FF, ← h2, List.take_length] at hG
 refine zg ?_
 exact y2 rfl rfl ⟨hl.AA, av, G, rfl, hG, OW.at_ (f := Rw.cells) (fun _ => rfl) hO hl (Ef (q := [_])), A3⟩
theorem TQ {M : List Int} {R : List Sg} (hR : Br M R) : ∀ C, C ∈ BQ M R → 1 ≤ C.length ∧ C.length ≤ 2 := fun C hC => by
 obtain ⟨x, hx, rfl⟩ := List.mem_map.1 hC
 obtain ⟨j, hj⟩ := KX hx
 obtain ⟨k, s, rfl, wP, j9, AR, Ha⟩ := Xr hR hj
 show 1 ≤ (match nth R (k + 1 - 1) with
  | some s => C9 M s
  | none => []).length ∧ (match nth R (k + 1 - 1) with
  | some s => C9 M s
  | none => []).length ≤ 2
 rw [Nat.add_sub_cancel, Ha]
 exact ⟨List.length_pos_iff.2 AR, AAR M s⟩
def ET (G : List (List Int)) : Nat := (G.map List.length).prod
theorem mT : ∀ (L : List Nat), (∀ x, x ∈ L → 1 ≤ x) → ∀ j, (L.take j).prod ≤ L.prod
 | [], _, j => by rw [List.take_nil]; exact Nat.le_refl _
 | x :: L, h, 0 => by
  have h1 : ∀ (L : List Nat), (∀ x, x ∈ L → 1 ≤ x) → 1 ≤ L.prod := by
   intro L
   induction L with
   | nil => intro _; exact Nat.le_refl _
   | cons y L ih =>
    intro h
    rw [List.prod_cons]
    exact Nat.mul_le_mul (h y aQ) (ih fun z hz => h z (cy hz))
  exact h1 _ h
 | x :: L, h, j + 1 => by
  rw [List.take_succ_cons, List.prod_cons, List.prod_cons]
  exact Nat.mul_le_mul_left _ (mT L (fun z hz => h z (cy hz)) j)
theorem prod_push (L : List Nat) (x : Nat) : (L ++ [x]).prod = L.prod * x := by
 rw [List.prod_append, List.prod_cons, List.prod_nil, Nat.mul_one]
theorem UU.zW {G : List Rw} {j : Nat} {w : Rw} (h : nth G j = some w) : nth ((G.map Rw.C).map List.length) j = some w.C.length := Dc _ (Dc _ h)
theorem nt (a : Option Addr) (cap : Nat) (R : List Sg) (p q r t : Int) (hm : Ap p q r t = 0) (hF : Ad S) (hn : R.length ≤ 27) (hR : Br [p, q, r, t] R) (hv : Bh S (.slice a R.length cap) R) : CC Tryz.prog KK 110 [mV [p, q, r, t], .slice a R.length cap] S (fun v S' => AG S S' ∧ v = if ET (BQ [p, q, r, t] R) ≤ 64 then AN [.int .i64 (ET (BQ [p, q, r, t] R) : Nat), .int .i64 0] else AN [.int .i64 0, .int .i64 15]) := by
 refine ce 36 Tryz.func110 fun hl => ?_; refine zg ?_; refine bL hl fun B2 S2 hl => ?_; refine zg ?_; refine dh rfl ?_; refine zg ?_
 refine zc hl rfl (cK a cap R p q r t hm (hl.AA.3 hF) hn hR (hv.move (hl.since 0 rfl))) ?_; rintro w S3 Al ⟨av, G, rfl, hG, Sr, A3⟩ hl
 have YY : ∀ x, x ∈ (BQ [p, q, r, t] R).map List.length → 1 ≤ x ∧ x ≤ 2 := fun x hx => by
  obtain ⟨C, hC, rfl⟩ := List.mem_map.1 hx
  exact TQ hR C hC
 have uo : ((G.map Rw.C).map List.length).length = G.length := by rw [cw, cw]
 have iX : G.length ≤ 400 := by
  have h1 : (G.map Rw.C).length = (Ch R).length := by rw [hG]; exact List.length_map _
  have h2 : (Ch R).length ≤ R.length := by
   have key : ∀ (R : List Sg) (i : Nat), (Hz R i).length ≤ R.length := by
    intro R
    induction R with
    | nil => intro i; exact Nat.le_refl _
    | cons s r ih =>
     intro i
     have := ih (i + 1)
     cases hk : (s.kind == 3) with
     | true => rw [Rc hk, List.length_cons, List.length_cons]; omega
     | false => rw [Re hk, List.length_cons]; omega
   exact key R 0
  rw [cw] at h1
  omega
 refine zg ?_; refine dg rfl ?_; refine AV rfl ?_; refine zS ?_; refine BF rfl ?_; refine AK (L' := [(22, .int .i64 (0 : Int)), (21, .int .i64 G.length), (20, .slice av G.length G.length), (8, .int .i64 (1 : Nat)), (5, .int .i64 0), (4, .int .i64 0)]) sE ?_
 refine Au rfl (fun m Le S' => ∃ (j w : Nat), j ≤ G.length ∧ m = G.length - j ∧ w = (((BQ [p, q, r, t] R).map List.length).take j).prod ∧ w ≤ 64 ∧ Af [(22, .int .i64 (j : Int)), (21, .int .i64 G.length), (20, .slice av G.length G.length), (8, .int .i64 (w : Nat)), (5, .int .i64 0), (4, .int .i64 0)] Le ∧ AB S [S3, S] S' [(B2, .cells (AP (mV [p, q, r, t])) 28 false true [])] []) ?_ (m := G.length) ⟨0, 1, Q1, Q1, rfl, Q1, sE, hl.mark⟩
 clear hl; rintro m Le S4 ⟨j, w, hj, rfl, hw, yH, AL, hl⟩; refine AK AL ?_
 refine zg ?_
 constructor <;> intro DF
 ·
  have AJ : j < G.length := dT DF
  obtain ⟨x, hx⟩ := Ac AJ
  have Jd := UU.zW hx
  rw [hG] at Jd
  have DU := YY _ (Am Jd)
  have m1 := Hc (x := (w : Int)) (y := (x.C.length : Int)) (A := 64) (B := 2) Q1 Q1 Q1 Q1
  have KP : w * x.C.length = (((BQ [p, q, r, t] R).map List.length).take (j + 1)).prod := by rw [CJ Jd, prod_push, hw]
  obtain ⟨b1, o1, Ai, ha, _, AY, Ab⟩ := Sr.elem hx
  refine zg ?_
  constructor <;> intro Fx
  ·
   have Fx : (w : Int) * (x.C.length : Int) > 64 := oTr Fx
   have Ge : 64 < w * x.C.length := by
    have : ((w * x.C.length : Nat) : Int) = (w : Int) * (x.C.length : Int) := Int.natCast_mul ..
    omega
   have NA : ¬ ET (BQ [p, q, r, t] R) ≤ 64 := by
    have := mT ((BQ [p, q, r, t] R).map List.length) (fun x hx => (YY x hx).1) (j + 1)
    rw [← KP] at this
    unfold ET
    omega
   rw [if_neg NA]
   refine zg ?_
   constructor <;> intro HT
   ·
    refine zg ?_
    exact Cw (WZ (y2 rfl rfl ⟨hl.AA, rfl⟩))
   have := oFa HT; omega
  have Fx : ¬ (w : Int) * (x.C.length : Int) > 64 := oFa Fx
  have Ge : w * x.C.length ≤ 64 := by
   have : ((w * x.C.length : Nat) : Int) = (w : Int) * (x.C.length : Int) := Int.natCast_mul ..
   omega
  refine zg ?_
  exact ⟨G.length - (j + 1), Q1, j + 1, w * x.C.length, Q1, rfl, KP, Ge, sE, hl⟩
 obtain rfl : j = G.length := dF DF
 have hw : w = ET (BQ [p, q, r, t] R) := by
  rw [← uo, hG, List.take_length] at hw
  exact hw
 subst hw
 rw [if_pos yH]
 refine zg ?_
 constructor <;> intro HT
 ·have := oTr HT; omega
 refine zg ?_
 exact WZ (y2 rfl rfl ⟨hl.AA, rfl⟩)
theorem ACe (a : Option Addr) (n cap : Nat) : CC Tryz.prog KK 113 [.slice a n cap] S (fun v S' => AG S S' ∧ ∃ bp, v = .func (.func 140) #[] #[ptrTo bp 0] ∧ AB S [S] S' [(bp, .cells [.slice a n cap] 64 false true [])] []) := by
 refine ce 4 Tryz.func113 fun hl => ?_; refine zg ?_; refine bL hl fun B1 S1 hl => ?_; refine zg ?_; refine rr rfl (Fg rfl rfl rfl) ?_; refine zg ?_
 refine y1 rfl ⟨hl.AA, B1, rfl, hl⟩
theorem ACq (lb bp : Nat) (av : Option Addr) (G : List Rw) (hG : G.length ≤ 400) (I : Nat → St → Prop) (hb : ∀ m T, I m T → T.get bp = some (.cells [.slice av G.length G.length] 64 false true []))
  (he : ∀ m T, I m T → UU T (.slice av G.length G.length) G)
  (hr : ∀ m T w, I (m + 1) T → nth G m = some w → CT Tryz.prog KK (.fn (.yield lb) #[]) [.int .i64 (m : Int), .slice w.a w.C.length w.c] T fun r T' => r = .returned (.bool true) ∧ I m T') (h0 : I G.length S) :
  CC Tryz.prog KK 140 [.func (.yield lb) #[] #[], ptrTo bp 0] S (fun v S' => v = AN [] ∧ I 0 S') := by
 refine ce 19 Tryz.func140 fun _ => ?_; refine zg ?_; refine rr rfl (Ba rfl rfl (l1 (hb _ _ h0) rfl)) ?_; refine zg ?_; refine AK (L' := [(3, .int .i64 ((G.length : Int) - 1)), (0, .func (.yield lb) #[] #[]), (1, ptrTo bp 0)]) sE ?_
 refine Au rfl (fun m Le S' => ∃ (x : Int), m ≤ G.length ∧ x = (m : Int) - 1 ∧ Af [(3, .int .i64 x), (0, .func (.yield lb) #[] #[]), (1, ptrTo bp 0)] Le ∧ I m S') ?_ (m := G.length) ⟨_, Nat.le_refl _, rfl, sE, h0⟩
 rintro m Le S' ⟨x, hm, hx, AL, h0⟩; refine AK AL ?_
 refine zg ?_
 constructor <;> intro h8
 ·
  obtain ⟨j, rfl⟩ : ∃ j, m = j + 1 := ⟨m - 1, dT h8⟩
  obtain rfl : x = (j : Int) := by omega
  obtain ⟨w, hw⟩ := Ac (l := G) (i := j) Q1
  obtain ⟨b1, o1, Ai, ha, _, AY, Ab⟩ := (he _ _ h0).elem hw
  refine zg ?_; refine rr rfl (Ba rfl rfl (l1 (hb _ _ h0) rfl)) ?_; refine zg ?_; refine I8 rfl rfl rfl rfl rfl rfl rfl (Es (hr j S' w h0 hw) ?_)
  rintro r T' ⟨rfl, h0⟩
  show RE Tryz.prog KK 19 _ _ _ T' _
  refine rr rfl (BC rfl rfl rfl) ?_; refine zg ?_
  refine ⟨j, Q1, (j : Int) - 1, Q1, rfl, sE, h0⟩
 obtain rfl : m = 0 := dF h8
 refine zg ?_
 show Fm Tryz.prog Tryz.f140.results.toList (fun v S' => v = AN [] ∧ I 0 S') .normal _ S'
 exact Gy rfl ⟨rfl, h0⟩
theorem gM : ∀ (R : List Sg) (i : Nat), (Hz R i).length ≤ R.length
 | [], _ => Nat.le_refl _
 | s :: r, i => by
  have := gM r (i + 1)
  cases hk : (s.kind == 3) with
  | true => rw [Rc hk, List.length_cons, List.length_cons]; omega
  | false => rw [Re hk, List.length_cons]; omega
theorem gJ (R : List Sg) : (Ch R).length ≤ R.length := gM R 0
def Dd : List (List Int) → Nat → List Int × Nat
 | [], n => ([], n)
 | C :: G, n => (((nth C ((Dd G n).2 % C.length)).getD 0) :: (Dd G n).1, (Dd G n).2 / C.length)
theorem V0 : ∀ (G : List (List Int)) (n : Nat), (Dd G n).1.length = G.length
 | [], _ => rfl
 | _ :: G, n => congrArg (· + 1) (V0 G n)
theorem mH : ∀ (G : List (List Int)) (n : Nat), (Dd G n).2 ≤ n
 | [], _ => Nat.le_refl _
 | _ :: G, n => Nat.le_trans (Nat.div_le_self ..) (mH G n)
def zs (n : Nat) : List Int := List.replicate n 0
theorem pN (n : Nat) : (zs n).length = n := List.length_replicate
theorem pM : ∀ n, ((zs n).map ic).flatten = Dp n [Value.int .i64 0]
 | 0 => rfl
 | n + 1 => by
  show ic 0 ++ ((zs n).map ic).flatten = [Value.int .i64 0] ++ Dp n [Value.int .i64 0]
  rw [pM n]
  rfl
theorem AFb (n : Nat) : zs (n + 1) = zs n ++ [0] := List.replicate_succ'
def Hm (G : List (List Int)) (n m : Nat) : List Int := zs m ++ (Dd (G.drop m) n).1
theorem AFW {G : List (List Int)} {n m : Nat} (h : m ≤ G.length) : (Hm G n m).length = G.length := by
 unfold Hm
 rw [ay, pN, V0, List.length_drop]
 omega
theorem AFX {G : List (List Int)} {n m : Nat} {C : List Int} (h : nth G m = some C) : (Hm G n (m + 1)).set m ((nth C ((Dd (G.drop (m + 1)) n).2 % C.length)).getD 0) = Hm G n m ∧ (Dd (G.drop m) n).2 = (Dd (G.drop (m + 1)) n).2 / C.length := by
 rw [D4 h]
 refine ⟨?_, rfl⟩
 unfold Hm
 rw [AFb, List.append_assoc, D4 h]
 have := Qz ((nth C ((Dd (G.drop (m + 1)) n).2 % C.length)).getD 0) 0 (Dd (G.drop (m + 1)) n).1 (zs m)
 rw [pN] at this
 exact this
noncomputable def FO : Code := pA (pB (pA (pB (pB (pB (pB (pB (pB (cb Tryz.f95)))))))))
theorem ov (a b : Nat) : Int.tmod (a : Int) (b : Int) = ((a % b : Nat) : Int) := by rw [Int.tmod_eq_emod_of_nonneg (Int.natCast_nonneg a)]; exact (Int.natCast_emod a b).symm
theorem oq (a b : Nat) : Int.tdiv (a : Int) (b : Int) = ((a / b : Nat) : Int) := by rw [Int.tdiv_eq_ediv_of_nonneg (Int.natCast_nonneg a)]; exact (Int.natCast_ediv a b).symm
theorem AED (a : Option Addr) (cap : Nat) (R : List Sg) (p q r t : Int) (n0 : Nat) (hm : Ap p q r t = 0) (hF : Ad S) (hn : R.length ≤ 27) (hR : Br [p, q, r, t] R) (uX : ET (BQ [p, q, r, t] R) ≤ 64) (D6 : n0 < ET (BQ [p, q, r, t] R)) (hv : Bh S (.slice a R.length cap) R) : CC Tryz.prog KK 95 [mV [p, q, r, t], .slice a R.length cap, .int .i64 (n0 : Int)] S (fun v S' => AG S S' ∧ ∃ ad, v = AN [.slice ad (Dd (BQ [p, q, r, t] R) n0).1.length (Dd (BQ [p, q, r, t] R) n0).1.length, .int .i64 0] ∧ A5 S' (.slice ad (Dd (BQ [p, q, r, t] R) n0).1.length (Dd (BQ [p, q, r, t] R) n0).1.length) (Dd (BQ [p, q, r, t] R) n0).1) := by
 refine cm 59 Tryz.func95 fun hl => ?_; refine BX rfl (BE ?_); refine zg ?_; refine bL hl fun B3 S1 hl => ?_; refine bL hl fun B5 S2 hl => ?_; refine zg ?_; refine BX rfl (BE ?_); refine zg ?_
 refine zc hl rfl (nt a cap R p q r t hm (hl.AA.3 hF) hn hR (hv.move (hl.since 0 rfl))) ?_; rintro v S3 Al rfl hl
 rw [if_pos uX]
 refine zg ?_; refine BX rfl (BE ?_); refine zg ?_; refine BX rfl (BE ?_); refine AV rfl (Bz hl 30 (.bool false) ?_ rfl ?_)
 ·
  refine zg ?_
  exact ⟨rfl, bl (decide_eq_false Q1), sB, hl⟩
 intro S3b hl
 refine zg ?_; refine BX rfl (BE ?_); refine zg ?_
 refine zc hl rfl (cK a cap R p q r t hm (hl.AA.3 hF) hn hR (hv.move (hl.since 0 rfl))) ?_; rintro w S4 Ar ⟨av, G, rfl, hG, Sr, A3⟩ hl
 have OX : (G.map Rw.C).length = G.length := List.length_map _
 have iX : G.length ≤ 400 := by
  have h1 : (BQ [p, q, r, t] R).length = (Ch R).length := List.length_map _
  have h2 := gJ R
  rw [hG] at OX
  omega
 have ub : ∀ w, w ∈ G → 1 ≤ w.C.length ∧ w.C.length ≤ 2 := fun w hw => TQ hR w.C (by rw [← hG]; exact List.mem_map.2 ⟨w, hw, rfl⟩)
 have hS4 := hl.AA.1
 have hl := hl.mark
 refine zg ?_; refine BX rfl (BE ?_); refine zg ?_; refine mz (Jv.start _) rfl rfl rfl rfl rfl rfl rfl rfl rfl Tryz.underlying22 (z := .int .i64 0) aP aP (by unfold AQ; omega) ?_; intro Jt S5 jD
 have K7 := jD.at_ Jt _ aQ
 have hl := (hl.call jD.AA).add hl.below hl.AA K7.2.1 K7.2.2 K7.1
 refine zg ?_; refine aL hl [.slice none 0 0] fun DA S6 hl => ?_; refine zg ?_; refine sL hl 0 [.slice (some ⟨Jt, 0, none⟩) G.length G.length] fun S7 hl => ?_; refine zg ?_; refine BX rfl ?_; refine BX rfl (BE ?_); refine zg ?_
 have DT := hl
 refine Ct rfl rfl rfl rfl rfl rfl rfl (Bp (ACe av G.length G.length) ?_); rintro v S8 ⟨VX, bp, rfl, hb⟩
 have h9 := hb.at_ bp _ aQ
 have hl := (DT.call VX).add DT.below DT.AA h9.2.1 h9.2.2 h9.1
 refine zg ?_
 have e0 : ((Hm (G.map Rw.C) n0 G.length).map ic).flatten = Dp G.length [Value.int .i64 0] := by
  unfold Hm
  rw [List.drop_eq_nil_of_le Q1]
  show ((zs G.length ++ []).map ic).flatten = _
  rw [List.append_nil, pM]
 have e1 : (Dd ((G.map Rw.C).drop G.length) n0).2 = n0 := by rw [List.drop_eq_nil_of_le Q1]; rfl
 have hl : AB S [S4, S] S8 [(bp, AD.cells [.slice av G.length G.length] 64 false true []), (DA, .cells [.slice (some ⟨Jt, 0, none⟩) G.length G.length] 22 false true []), (Jt, .cells (((Hm (G.map Rw.C) n0 G.length).map ic).flatten) 3 true true []), (B5, .cells [.int .i64 ((Dd ((G.map Rw.C).drop G.length) n0).2 : Nat)] 3 false true []), (B3, .cells (AP (mV [p, q, r, t])) 28 false true [])] [] := by rw [e0, e1]; exact hl
 refine Kl rfl (Mh rfl rfl rfl aP ?_)
 intro t1 ht
 have ht := ht.sub (L' := [(12, ptrTo DA 0), (5, ptrTo B5 0), (3, ptrTo B3 0), (7, .int .i64 0), (6, .slice none 0 0)]) sE
 have hl := (hl.new (.defs false)).new (.loop .ready none 59 t1 (BO FO) (BL FO) (BN FO) S8.size)
 have hl : AB S [S4, S] _ ((S8.size + 1, .loop .ready none 59 t1 (BO FO) (BL FO) (BN FO) S8.size) :: (S8.size, .defs false) :: [(bp, AD.cells [.slice av G.length G.length] 64 false true []), (DA, .cells [.slice (some ⟨Jt, 0, none⟩) G.length G.length] 22 false true []), (Jt, .cells (((Hm (G.map Rw.C) n0 G.length).map ic).flatten) 3 true true []), (B5, .cells [.int .i64 ((Dd ((G.map Rw.C).drop G.length) n0).2 : Nat)] 3 false true []), (B3, .cells (AP (mV [p, q, r, t])) 28 false true [])] : List (Nat × AD)) [] := hl
 refine Es (Lp (Mu (ACq (S8.size + 1) bp av G iX (fun m T => AB S [S4, S] T ((S8.size + 1, .loop .ready none 59 t1 (BO FO) (BL FO) (BN FO) S8.size) :: (S8.size, .defs false) :: [(bp, AD.cells [.slice av G.length G.length] 64 false true []), (DA, .cells [.slice (some ⟨Jt, 0, none⟩) G.length G.length] 22 false true []), (Jt, .cells (((Hm (G.map Rw.C) n0 m).map ic).flatten) 3 true true []), (B5, .cells [.int .i64 ((Dd ((G.map Rw.C).drop m) n0).2 : Nat)] 3 false true []), (B3, .cells (AP (mV [p, q, r, t])) 28 false true [])] : List (Nat × AD)) []) (fun m T hT => hT.get 2 rfl) (fun m T hT => Sr.move (hT.since 0 rfl)) ?_ hl))) ?_
 ·
  clear hl
  intro m T w hl hw
  have KP : nth (G.map Rw.C) m = some w.C := Dc _ hw
  have hmG := CS hw
  have AGD := ub w (Am hw)
  obtain ⟨GG, DU⟩ := AFX (n := n0) KP
  have CI := mH ((G.map Rw.C).drop (m + 1)) n0
  obtain ⟨n1, H6⟩ : ∃ n1, n1 = (Dd ((G.map Rw.C).drop (m + 1)) n0).2 := ⟨_, rfl⟩
  rw [← H6] at GG DU CI
  have wu : n1 % w.C.length < w.C.length := Nat.mod_lt _ Q1
  obtain ⟨x, hx⟩ := Ac wu
  rw [hx] at GG
  have GG : (Hm (G.map Rw.C) n0 (m + 1)).set m x = Hm (G.map Rw.C) n0 m := GG
  refine Lq (hl.get 0 rfl) ht rfl rfl ?_; refine AV rfl ?_; refine zg ?_
  refine ⟨rfl, _, _, _, _, _, _, _, hl.get 0 rfl, ?_⟩
  have hl := hl.put (k := 0) rfl rfl (.loop .busy none 59 t1 (BO FO) (BL FO) (BN FO) S8.size)
  rw [← H6] at hl
  have hi : A5 S4 (.slice w.a w.C.length w.c) w.C := A3 w (Am hw)
  obtain ⟨b1, o1, Ai, ha, _, AY, Ab⟩ := (hi.move (hl.since 0 rfl)).elem hx
  refine zg ?_; refine AK (L' := [(14, .slice w.a w.C.length w.c), (13, .int .i64 (m : Int)), (12, ptrTo DA 0), (5, ptrTo B5 0), (3, ptrTo B3 0)]) sE ?_; refine A4 (idx := [0, 1, 2, 3, 4, 5, 6, 7, 8, 9, 10]) rfl aP aP ?_; refine zg ?_
  rw [ov]
  refine zg ?_
  have ej : 0 + ((m : Int)).toNat * 1 = m := by simp
  rw [ej]
  have hs := c6 (S := T.set (S8.size + 1) (.loop .busy none 59 t1 (BO FO) (BL FO) (BN FO) S8.size)) (P := Tryz.prog) (t := 3) (v := .int .i64 x) aP (hl.get 4 rfl) (Tv (g := fun x => Value.int .i64 x) (C := Hm (G.map Rw.C) n0 (m + 1)) x (k := m) (by rw [AFW Q1]; omega))
  have hl := hl.marks (Us := [S4, S]) fun U hU => hU
  have hl := hl.Qk (k := 4) rfl (fun U hU => by simp only [List.mem_cons, List.not_mem_nil, or_false] at hU; rcases hU with rfl | rfl <;> omega) (.cells ((((Hm (G.map Rw.C) n0 (m + 1)).set m x).map fun x => [Value.int .i64 x]).flatten) 3 true true [])
  refine I9 rfl rfl rfl rfl rfl rfl hs zt ?_; refine zg ?_
  rw [oq]
  refine sL hl 5 [.int .i64 ((n1 / w.C.length : Nat) : Int)] fun Ep hl => ?_; refine zg ?_
  refine ⟨_, _, _, _, _, _, _, _, hl.get 0 rfl, rfl, ?_⟩
  have hl := hl.put (k := 0) rfl rfl (.loop .ready none 59 t1 (BO FO) (BL FO) (BN FO) S8.size)
  rw [GG] at hl
  rw [DU]
  exact hl
 clear hl
 rintro w S9 ⟨v, rfl, rfl, hl⟩
 refine ⟨_, _, _, _, _, _, _, _, hl.get 0 rfl, rfl, ?_⟩
 have hl := hl.put (k := 0) rfl rfl (.loop .exhausted none 59 t1 (BO FO) (BL FO) (BN FO) S8.size)
 refine BX rfl (BE ?_); refine zg ?_; refine BE (Mi rfl ?_)
 have hd := hl.get 1 rfl
 have hl := hl.put (k := 1) rfl rfl (.defs true)
 have eX : Hm (G.map Rw.C) n0 0 = (Dd (BQ [p, q, r, t] R) n0).1 := by rw [← hG]; rfl
 have L4 : (Dd (BQ [p, q, r, t] R) n0).1.length = G.length := by rw [V0, ← hG, OX]
 exact ⟨_, _, PN hd, A7 rfl (A7 rfl rfl), hl.AA, some ⟨Jt, 0, none⟩, by rw [L4], AZ.row (f := ic) (fun _ => rfl) ⟨(hl.at_ _ _ (Am (k := 4) rfl)).2.2, true, [], by rw [← eX]; exact hl.get 4 rfl⟩ rfl⟩
theorem Wt {P : Program} {n : Nat} {e : Cb} {S' : St} {t : TypeId} {x : Operand} {u : Value} (AH : e.op = .call ⟨.builtin .len, #[x], #[t]⟩) (hx : Cm.Ae e.L x = some u) (hv : G' P t u S' = some e.v) (hs : CO 100000 e.v e.v = true) (hf : e.fr = none) {X : Prop} : X → Ht P n S' e := fun _ => by
 unfold Ht
 rw [hf]
 exact ⟨fun a ha => by rw [AH]; show G' P t (a.ev x) S' = _; rw [ha.ev hx, hv], hs⟩
def bc (x : Bool) : List Value := [.bool x]
abbrev Kp := AZ 4 1 bc
theorem ACf {S0 : St} (x : Int) {Dt EB : Nat} {vA vB : Value} {C : List Int} {D : List Bool} {fA fB : List (Nat × AD)} (r : List (Nat × AD)) (hl : AB S0 [S0] S ([(Dt, AD.cells [vA] 22 false true []), (EB, .cells [vB] 44 false true [])] ++ (r ++ (fA ++ fB))) []) (hA : OW vA 3 1 ((C.map ic).flatten) C.length fA) (hB : OW vB 4 1 ((D.map bc).flatten) D.length fB) (hC : 0 < C.length) (hD : D.length = C.length) (R6 : C.length ≤ 27) : CC Tryz.prog KK 116 [.int .i64 x, ptrTo Dt 0, ptrTo EB 0] S (fun v S' => v = AN [] ∧ ∃ (K4 M3 : List (Nat × AD)), OW vA 3 1 (((C.set (C.length - 1) x).map ic).flatten) C.length K4 ∧ OW vB 4 1 (((D.set (D.length - 1) (x == 0)).map bc).flatten) D.length M3 ∧ AB S0 [S0] S' ([(Dt, AD.cells [vA] 22 false true []), (EB, .cells [vB] 44 false true [])] ++ (r ++ (K4 ++ M3))) []) := by
 refine ce 17 Tryz.func116 fun _ => ?_
 obtain ⟨aA, rfl⟩ := hA.is
 obtain ⟨aB, rfl⟩ := hB.is
 obtain ⟨bA, rfl⟩ := hA.ne hC
 obtain ⟨bB, rfl⟩ := hB.ne Q1
 refine A4 (idx := [0, 1, 2, 3, 4, 5, 6, 7, 8, 9, 10, 11, 12, 13, 14]) rfl aP aP ?_; refine zg ?_
 have tP : 0 + ((C.length : Int) - 1).toNat * 1 = C.length - 1 := by omega
 have tQ : 0 + ((D.length : Int) - 1).toNat * 1 = D.length - 1 := by omega
 rw [tP]
 have wY : AB S0 [S0] S (([(Dt, AD.cells [.slice (some ⟨bA, 0, none⟩) C.length C.length] 22 false true []), (EB, .cells [.slice (some ⟨bB, 0, none⟩) D.length D.length] 44 false true [])] ++ r) ++ (fA ++ fB)) [] := hl.perm (.of_eq (List.append_assoc ..).symm)
 obtain ⟨b, S1, K4, e1, DO, uY, QG⟩ := Q9 (P := Tryz.prog) wY hA hC rfl (t := 3) (u := .int .i64 x) aP (Tv (g := fun x => Value.int .i64 x) x (k := C.length - 1) Q1) ((Da (f := fun x => [Value.int .i64 x]) (z := 1) (fun _ => rfl) _).trans ((congrArg (· * 1) (Ty ..)).trans (Da (f := ic) (z := 1) (fun _ => rfl) _).symm))
 cases e1
 have hl : AB S0 [S0] S1 ([(Dt, AD.cells [.slice (some ⟨bA, 0, none⟩) C.length C.length] 22 false true []), (EB, .cells [.slice (some ⟨bB, 0, none⟩) D.length D.length] 44 false true [])] ++ (r ++ (K4 ++ fB))) [] := QG.perm (.of_eq (List.append_assoc ..))
 refine I9 rfl rfl rfl rfl rfl rfl DO (by repeat (first| exact trivial| refine PK ?_| (refine ⟨by first| exact sZ| exact kf tt (sN rfl qG)| exact kl tt (HC rfl rfl qL sQ rfl)| exact Wt rfl rfl rfl sQ rfl, ?_⟩))) ?_; refine zg ?_
 rw [tQ]
 have wZ : AB S0 [S0] S1 (([(Dt, AD.cells [.slice (some ⟨bA, 0, none⟩) C.length C.length] 22 false true []), (EB, .cells [.slice (some ⟨bB, 0, none⟩) D.length D.length] 44 false true [])] ++ r) ++ (fB ++ K4)) [] := QG.perm (List.Perm.append_left _ List.perm_append_comm)
 obtain ⟨b, S2, M3, e2, DI, DS, Bu⟩ := Q9 (P := Tryz.prog) wZ hB Q1 rfl (t := 4) (u := .bool (x == 0)) aP (Tv (g := fun x => Value.bool x) (x == 0) (k := D.length - 1) Q1) ((Da (f := fun x => [Value.bool x]) (z := 1) (fun _ => rfl) _).trans ((congrArg (· * 1) (Ty ..)).trans (Da (f := bc) (z := 1) (fun _ => rfl) _).symm))
 cases e2
 have hl : AB S0 [S0] S2 ([(Dt, AD.cells [.slice (some ⟨bA, 0, none⟩) C.length C.length] 22 false true []), (EB, .cells [.slice (some ⟨bB, 0, none⟩) D.length D.length] 44 false true [])] ++ (r ++ (K4 ++ M3))) [] := (Bu.perm (List.Perm.append_left _ List.perm_append_comm)).perm (.of_eq (List.append_assoc ..))
 refine I9 rfl rfl rfl rfl rfl rfl DI (by repeat (first| exact trivial| refine PK ?_| (refine ⟨by first| exact sZ| exact kf tt (sN rfl qG)| exact kl tt (HC rfl rfl qL sQ rfl)| exact Wt rfl rfl rfl sQ rfl, ?_⟩))) ?_; refine zg ?_
 show Fm Tryz.prog Tryz.f116.results.toList (fun v S' => v = AN [] ∧ ∃ (K4 M3 : List (Nat × AD)), OW _ 3 1 (((C.set (C.length - 1) x).map ic).flatten) C.length K4 ∧ OW _ 4 1 (((D.set (D.length - 1) (x == 0)).map bc).flatten) D.length M3 ∧ AB S0 [S0] S' ([(Dt, AD.cells [.slice (some ⟨bA, 0, none⟩) C.length C.length] 22 false true []), (EB, .cells [.slice (some ⟨bB, 0, none⟩) D.length D.length] 44 false true [])] ++ (r ++ (K4 ++ M3))) []) .normal _ S2
 exact Gy rfl ⟨rfl, K4, M3, uY, DS, hl⟩
def kt (R : List Sg) : Nat := (R.filter fun s => s.kind == 3).length
def ct (R : List Sg) : Nat := (R.filter fun s => !(s.kind == 3)).length
section
variable {R : List Sg} {i : Nat} {s : Sg}
theorem TL (hs : nth R i = some s) (h : (s.kind == 3) = true) : kt (R.take (i + 1)) = kt (R.take i) + 1 ∧ ct (R.take (i + 1)) = ct (R.take i) := by
 rw [CJ hs]
 unfold kt ct
 rw [List.filter_append, List.filter_append]
 simp [h]
theorem QW (hs : nth R i = some s) (h : (s.kind == 3) = false) : kt (R.take (i + 1)) = kt (R.take i) ∧ ct (R.take (i + 1)) = ct (R.take i) + 1 := by
 rw [CJ hs]
 unfold kt ct
 rw [List.filter_append, List.filter_append]
 simp [h]
theorem zI (R : List Sg) (i : Nat) : kt (R.take i) ≤ kt R := ((List.take_sublist i R).filter _).length_le
theorem Pp (R : List Sg) (i : Nat) : ct (R.take i) ≤ ct R := ((List.take_sublist i R).filter _).length_le
theorem zJ (R : List Sg) : kt R ≤ R.length := List.length_filter_le _ _
theorem Mw (R : List Sg) : ct R ≤ R.length := List.length_filter_le _ _
theorem zK (hs : nth R i = some s) (h : (s.kind == 3) = true) : kt (R.take i) < kt R := by
 have := (TL hs h).1
 have := zI R (i + 1)
 omega
theorem tH (hs : nth R i = some s) (h : (s.kind == 3) = false) : ct (R.take i) < ct R := by
 have := (QW hs h).2
 have := Pp R (i + 1)
 omega
end
theorem gL : ∀ (R : List Sg) (i : Nat), (Hz R i).length = kt R
 | [], _ => rfl
 | s :: r, i => by
  have := gL r (i + 1)
  unfold kt at *
  cases hk : (s.kind == 3) with
  | true => rw [Rc hk, List.length_cons, this]; simp [hk]
  | false => rw [Re hk, this]; simp [hk]
theorem tO (R : List Sg) : (Ch R).length = kt R := gL R 0
theorem ACC {M : List Int} {R : List Sg} (hR : Br M R) {i : Nat} {s : Sg} (hs : nth R i = some s) (h : (s.kind == 3) = true) : 0 < ct (R.take i) := by
 rcases hR i s hs with (⟨_, _, _, _, _, rfl⟩ | ⟨_, _, rfl⟩) | ⟨rfl, k, x, rfl, hx, _, hn⟩
 ·cases h
 ·cases h
 have hk : (x.kind == 3) = false := by rcases hx with ⟨_, _, _, _, _, rfl⟩ | ⟨_, _, rfl⟩ <;> rfl
 have := (QW hn hk).2
 omega
def MO (X : List Int) (st : List Int × List Bool × Nat) (s : Sg) : List Int × List Bool × Nat := bif s.kind == 3 then (st.1.set (st.1.length - 1) ((nth X st.2.2).getD 0), st.2.1.set (st.2.1.length - 1) ((nth X st.2.2).getD 0 == 0), st.2.2 + 1) else (st.1 ++ [0], st.2.1 ++ [false], st.2.2)
def Bm (X : List Int) (R : List Sg) : List Int × List Bool × Nat := R.foldl (MO X) ([], [], 0)
theorem lT (X : List Int) (R : List Sg) (s : Sg) : Bm X (R ++ [s]) = MO X (Bm X R) s := by unfold Bm; rw [List.foldl_append]; rfl
theorem AEF (a : Option Addr) (cap : Nat) (R : List Sg) (p q r t : Int) (ad : Option Addr) (cd : Nat) (X : List Int) (hm : Ap p q r t = 0) (hF : Ad S) (hn : R.length ≤ 27) (hR : Br [p, q, r, t] R) (hv : Bh S (.slice a R.length cap) R) (hX : X.length = (BQ [p, q, r, t] R).length) (SA : ∀ k x C, nth X k = some x → nth (BQ [p, q, r, t] R) k = some C → x ∈ C) (hc : A5 S (.slice ad X.length cd) X) : CC Tryz.prog KK 98 [mV [p, q, r, t], .slice a R.length cap, .slice ad X.length cd] S (fun v S' => AG S S' ∧ ∃ aC aD, v = AN [.slice aC (Bm X R).1.length (Bm X R).1.length, .slice aD (Bm X R).2.1.length (Bm X R).2.1.length, .int .i64 0] ∧ (Bm X R).1.length = ct R ∧ (Bm X R).2.1.length = ct R ∧ A5 S' (.slice aC (Bm X R).1.length (Bm X R).1.length) (Bm X R).1 ∧ Kp S' (.slice aD (Bm X R).2.1.length (Bm X R).2.1.length) (Bm X R).2.1) := by
 refine ce 75 Tryz.func98 fun hl => ?_; refine zg ?_; refine bL hl fun B3 S2 hl => ?_; refine zg ?_
 refine zc hl rfl (cK a cap R p q r t hm (hl.AA.3 hF) hn hR (hv.move (hl.since 0 rfl))) ?_; rintro w S3 Al ⟨av, G, rfl, hG, Sr, A3⟩ hl
 have OX : (G.map Rw.C).length = G.length := List.length_map _
 have uf : G.length = X.length := by rw [hX, ← hG, OX]
 have AF0 := zJ R
 have hGk : G.length = kt R := by
  have h1 : (BQ [p, q, r, t] R).length = (Ch R).length := List.length_map _
  rw [← OX, hG, h1, tO]
 have hl := hl.mark
 refine zg ?_
 constructor <;> intro Ge
 ·exfalso
  simp [uf] at Ge
 refine zg ?_; refine AK (L' := [(35, .int .i64 (0 : Int)), (34, .int .i64 G.length), (33, .slice av G.length G.length), (2, .slice ad X.length cd), (1, .slice a R.length cap), (3, ptrTo B3 0), (6, .slice none 0 0), (7, .slice none 0 0), (8, .int .i64 0)]) sE ?_
 refine Au rfl (fun m Le S' => ∃ j : Nat, j ≤ G.length ∧ m = G.length - j ∧ Af [(35, .int .i64 (j : Int)), (34, .int .i64 G.length), (33, .slice av G.length G.length), (2, .slice ad X.length cd), (1, .slice a R.length cap), (3, ptrTo B3 0), (6, .slice none 0 0), (7, .slice none 0 0), (8, .int .i64 0)] Le ∧ AB S [S3, S] S' [(B3, .cells (AP (mV [p, q, r, t])) 28 false true [])] []) ?_ (m := G.length) ⟨0, Q1, Q1, sE, hl⟩
 clear hl; rintro m Le S' ⟨j, hj, rfl, AL, hl⟩; refine AK AL ?_
 refine zg ?_
 constructor <;> intro Ew
 ·
  have AJ : j < G.length := dT Ew
  obtain ⟨w, hw⟩ := Ac AJ
  obtain ⟨x, hx⟩ := Ac (l := X) (i := j) Q1
  have kP : nth (BQ [p, q, r, t] R) j = some w.C := by rw [← hG]; exact Dc _ hw
  have yL := SA j x _ hx kP
  have hwl := TQ hR w.C (Am kP)
  have hi : A5 S3 (.slice w.a w.C.length w.c) w.C := A3 w (Am hw)
  obtain ⟨b1, o1, Ai, ha, _, AY, Ab⟩ := Sr.elem hw
  refine zg ?_
  clear ha AY Ab
  obtain ⟨b1, o1, Ai, ha, _, AY, Ab⟩ := hc.elem hx
  refine zg ?_
  refine zc hl rfl (nv w.a w.c w.C x Q1 (hi.move (hl.since 0 rfl))) ?_; rintro v S4 Ar rfl hl
  rw [decide_eq_true yL]
  refine rr rfl (BC rfl rfl rfl) ?_; refine zg ?_
  exact ⟨G.length - (j + 1), Q1, j + 1, Q1, rfl, sE, hl⟩
 have hl := hl.marks (Us := [S]) fun T hT => cy hT
 refine zg ?_; refine aL hl [.slice none 0 0] fun Dt S5 hl => ?_; refine zg ?_; refine aL hl [.slice none 0 0] fun EB S6 hl => ?_; refine zg ?_; refine rr rfl (Fg rfl rfl rfl) ?_; refine zg ?_
 have hl : AB S [S] S6 ([(Dt, AD.cells [.slice none 0 0] 22 false true []), (EB, .cells [.slice none 0 0] 44 false true [])] ++ ([(B3, .cells (AP (mV [p, q, r, t])) 28 false true [])] ++ ([] ++ []))) [] := hl.perm (List.Perm.swap _ _ _)
 refine AK (L' := [(51, .int .i64 (0 : Int)), (50, .int .i64 R.length), (49, .slice a R.length cap), (16, .int .i64 (0 : Int)), (15, .func (.func 116) #[] #[ptrTo Dt 0, ptrTo EB 0]), (14, ptrTo EB 0), (13, ptrTo Dt 0), (2, .slice ad X.length cd)]) sE ?_
 refine Au rfl (fun m Le S' => ∃ (i k : Nat) (C : List Int) (D : List Bool) (vA vB : Value) (fA fB : List (Nat × AD)), i ≤ R.length ∧ m = R.length - i ∧ (k = kt (R.take i) ∧ Bm X (R.take i) = (C, D, k)) ∧ C.length = ct (R.take i) ∧ D.length = C.length ∧ OW vA 3 1 ((C.map ic).flatten) C.length fA ∧ OW vB 4 1 ((D.map bc).flatten) D.length fB ∧ Af [(51, .int .i64 (i : Int)), (50, .int .i64 R.length), (49, .slice a R.length cap), (16, .int .i64 (k : Int)), (15, .func (.func 116) #[] #[ptrTo Dt 0, ptrTo EB 0]), (14, ptrTo EB 0), (13, ptrTo Dt 0), (2, .slice ad X.length cd)] Le ∧ AB S [S] S' ([(Dt, AD.cells [vA] 22 false true []), (EB, .cells [vB] 44 false true [])] ++ ([(B3, .cells (AP (mV [p, q, r, t])) 28 false true [])] ++ (fA ++ fB))) []) ?_ (m := R.length) ⟨0, 0, [], [], _, _, [], [], Q1, Q1, ⟨rfl, rfl⟩, rfl, rfl, .inl ⟨rfl, rfl, rfl, rfl⟩, .inl ⟨rfl, rfl, rfl, rfl⟩, sE, hl⟩
 clear hl; rintro m Le S' ⟨i, k, C, D, vA, vB, fA, fB, hi, rfl, ⟨hk, hE⟩, hC, hD, hA, hB, AL, hl⟩; refine AK AL ?_
 refine zg ?_
 constructor <;> intro P0
 ·
  have AJ : i < R.length := dT P0
  have iU := Pp R i
  have jI := Mw R
  obtain ⟨s, hs⟩ := Ac AJ
  have iW : Bm X (R.take (i + 1)) = MO X (C, D, k) s := by rw [CJ hs, lT, hE]
  obtain ⟨b1, o1, Ai, ha, _, AY, Ab⟩ := hv.elem hs
  refine zg ?_; refine aL hl ((FB.cells.set 0 (.int .i64 0))) fun pP S7 hl => ?_; refine sL hl 0 s.cells fun S8 hl => ?_; refine zg ?_
  constructor <;> intro G2
  ·
   have Oe := zK hs G2
   have h0 := ACC hR hs G2
   obtain ⟨x, hx⟩ := Ac (l := X) (i := k) Q1
   have YW : Bm X (R.take (i + 1)) = (C.set (C.length - 1) x, D.set (D.length - 1) (x == 0), k + 1) := by
    have G2 : (s.kind == 3) = true := G2
    rw [iW]; unfold MO; rw [G2]; simp only [cond_true, hx, Option.getD_some]
   clear ha AY Ab
   obtain ⟨b2, o2, Hy, Eb, _, LH, LJ⟩ := hc.elem hx
   have hl := hl.tail
   refine zg ?_
   refine Ct rfl rfl rfl rfl rfl rfl rfl (Bp (ACf x [(B3, .cells (AP (mV [p, q, r, t])) 28 false true [])] hl hA hB Q1 hD Q1) ?_); rintro v S9 ⟨rfl, Rq, Uz, U', VA, hl⟩
   refine zg ?_
   exact ⟨R.length - (i + 1), Q1, i + 1, k + 1, _, _, vA, vB, Rq, Uz, Q1, rfl, ⟨by rw [(TL hs G2).1, hk], YW⟩, by rw [(TL hs G2).2, List.length_set, hC], by rw [List.length_set, List.length_set, hD], by rw [List.length_set]; exact U', by rw [List.length_set]; exact VA, sE, hl⟩
  have YW : Bm X (R.take (i + 1)) = (C ++ [0], D ++ [false], k) := by
   have G2 : (s.kind == 3) = false := G2
   rw [iW]; unfold MO; rw [G2]; rfl
  obtain ⟨aA, rfl⟩ := hA.is
  obtain ⟨aB, rfl⟩ := hB.is
  have hl := hl.tail
  refine zg ?_; refine A4 (idx := [0, 1, 3, 4, 2, 5, 6, 7]) rfl aP aP ?_; refine zg ?_; refine nM hF hl rfl rfl rfl rfl rfl Tryz.underlying22 rfl (c := [.int .i64 0]) aP ?_; intro RD S9 hl; refine zg ?_; refine nM hF hl rfl rfl rfl rfl rfl Tryz.underlying44 rfl (c := [.bool false]) aP ?_; intro W7 Co hl
  have hl : AB S [S] Co ([(W7, AD.cells [.bool false] 4 true true []), (RD, .cells [.int .i64 0] 3 true true []), (Dt, .cells [.slice aA C.length C.length] 22 false true []), (EB, .cells [.slice aB D.length D.length] 44 false true []), (B3, .cells (AP (mV [p, q, r, t])) 28 false true [])] ++ (fA ++ fB)) [] := hl
  refine Md hl hA rfl rfl rfl rfl rfl rfl rfl Tryz.underlying22 Tryz.underlying22 rfl rfl (by decide) aP (Bf (n := 1) (cap := 1) (new := [.int .i64 0]) ⟨(hl.at_ _ _ (Am (k := 1) rfl)).2.2, true, [], hl.get 1 rfl⟩ rfl) rfl rfl aP (by show C.length + 1 ≤ AQ; unfold AQ; omega) ?_; intro W2 Rq D3 U' hl
  refine ⟨zt, ?_⟩
  have hl : AB S [S] D3 ([(W7, AD.cells [.bool false] 4 true true []), (RD, .cells [.int .i64 0] 3 true true []), (Dt, .cells [.slice aA C.length C.length] 22 false true []), (EB, .cells [.slice aB D.length D.length] 44 false true []), (B3, .cells (AP (mV [p, q, r, t])) 28 false true [])] ++ (fB ++ Rq)) [] := hl.perm (List.Perm.append_left _ List.perm_append_comm)
  refine Md hl hB rfl rfl rfl rfl rfl rfl rfl Tryz.underlying44 Tryz.underlying44 rfl rfl (by decide) aP (Bf (n := 1) (cap := 1) (new := [.bool false]) ⟨(hl.at_ _ _ (Am (k := 0) rfl)).2.2, true, [], hl.get 0 rfl⟩ rfl) rfl rfl aP (by show D.length + 1 ≤ AQ; unfold AQ; omega) ?_; intro v71 Uz Ep VA hl
  refine ⟨zt, ?_⟩
  have hl : AB S [S] Ep ([(W7, AD.cells [.bool false] 4 true true []), (RD, .cells [.int .i64 0] 3 true true []), (Dt, .cells [.slice aA C.length C.length] 22 false true []), (EB, .cells [.slice aB D.length D.length] 44 false true []), (B3, .cells (AP (mV [p, q, r, t])) 28 false true [])] ++ (Rq ++ Uz)) [] := hl.perm (List.Perm.append_left _ List.perm_append_comm)
  obtain ⟨p5, rfl⟩ := U'.is
  obtain ⟨p6, rfl⟩ := VA.is
  refine pL hl 2 [.slice p5 (C.length + 1) (C.length + 1)] (h := fun EC hl => ⟨zt, ?_⟩)
  refine pL hl 3 [.slice p6 (D.length + 1) (D.length + 1)] (h := fun E6 hl => ⟨zt, ?_⟩)
  refine zg ?_
  exact ⟨R.length - (i + 1), Q1, i + 1, k, C ++ [0], D ++ [false], _, _, Rq, Uz, Q1, rfl, ⟨by rw [(QW hs G2).1, hk], YW⟩, by rw [(QW hs G2).2, ay, hC]; rfl, by rw [ay, ay, hD]; rfl, by rw [U2, ay]; exact U', by rw [U2, ay]; exact VA, sE, hl.tail.tail⟩
 obtain rfl : i = R.length := dF P0
 rw [List.take_length] at hC hE
 obtain ⟨aC, rfl⟩ := hA.is
 obtain ⟨aD, rfl⟩ := hB.is
 rw [hE]
 have hI : A5 S' (.slice aC C.length C.length) C := OW.ls (f := ic) (q := [(Dt, AD.cells [.slice aC C.length C.length] 22 false true []), (EB, .cells [.slice aD D.length D.length] 44 false true [])] ++ [(B3, .cells (AP (mV [p, q, r, t])) 28 false true [])]) (l := fB) (fun _ => rfl) hA hl
 have hJ : Kp S' (.slice aD D.length D.length) D := OW.ls (f := bc) (q := [(Dt, AD.cells [.slice aC C.length C.length] 22 false true []), (EB, .cells [.slice aD D.length D.length] 44 false true [])] ++ [(B3, .cells (AP (mV [p, q, r, t])) 28 false true [])]) (l := fA) (fun _ => rfl) hB (hl.perm (List.Perm.append_left ([(Dt, AD.cells [.slice aC C.length C.length] 22 false true []), (EB, .cells [.slice aD D.length D.length] 44 false true [])] ++ [(B3, .cells (AP (mV [p, q, r, t])) 28 false true [])]) List.perm_append_comm))
 refine zg ?_; refine A4 (idx := [0, 1, 2, 3, 4]) rfl aP aP ?_; refine zg ?_
 exact CK (A7 rfl (A7 rfl (A7 rfl rfl))) ⟨hl.AA, aC, aD, rfl, hC, by rw [hD]; exact hC, hI, hJ⟩
def CH (s : Sg) : Bool := (s.kind == 1) && s.color
theorem T1 (s : Sg) : CC Tryz.prog KK 118 [s.v] S (fun v S' => AG S S' ∧ v = .bool (CH s)) := by
 refine ce 10 Tryz.func118 fun hl => ?_; refine zg ?_; refine bL hl fun B1 S1 hl => ?_; refine zg ?_; refine BH (d := 6) rfl (fun h6 => ?_) (fun h6 => ?_)
 ·
  refine zg ?_
  refine y1 rfl ⟨hl.AA, by unfold CH; rw [h6]; rfl⟩
 refine zg ?_
 refine y1 rfl ⟨hl.AA, by unfold CH; rw [h6]; rfl⟩
def GB : List Sg → Bool
 | [] => true
 | s :: r => bif s.kind == 3 then GB r else !CH s
theorem iG {s : Sg} {r : List Sg} (h : (s.kind == 3) = false) : GB (s :: r) = !CH s := by unfold GB; rw [h]; rfl
theorem iF {s : Sg} {r : List Sg} (h : (s.kind == 3) = true) : GB (s :: r) = GB r := by rw [GB, h]; rfl
theorem ADT (a : Option Addr) (cap : Nat) (R : List Sg) (i0 : Nat) (KI : i0 ≤ R.length) (hn : R.length ≤ 27) (hv : Bh S (.slice a R.length cap) R) : CC Tryz.prog KK 185 [.slice a R.length cap, .int .i64 (i0 : Int), .int .i64 1] S (fun v S' => AG S S' ∧ v = .bool (GB (R.drop i0))) := by
 refine ce 30 Tryz.func185 fun hl => ?_; refine zS ?_; refine AV rfl ?_; refine BF rfl ?_; refine AK (L' := [(1, .int .i64 (i0 : Int)), (0, .slice a R.length cap), (2, .int .i64 1), (6, .bool false)]) sE ?_
 refine Au rfl (fun m Le S' => ∃ i : Nat, i ≤ R.length ∧ m = R.length - i ∧ GB (R.drop i0) = GB (R.drop i) ∧ Af [(1, .int .i64 (i : Int)), (0, .slice a R.length cap), (2, .int .i64 1), (6, .bool false)] Le ∧ AB S [S] S' [] []) ?_ (m := R.length - i0) ⟨i0, KI, rfl, rfl, sE, hl⟩
 clear hl; rintro m Le S' ⟨i, hi, rfl, hE, AL, hl⟩; refine AK AL ?_
 refine AV rfl ?_; refine AV rfl (Bz hl 14 (.bool (decide ((i : Int) < R.length))) ?_ rfl ?_)
 ·
  refine zg ?_
  exact ⟨rfl, rfl, sB, hl⟩
 intro S1 hl
 refine zg ?_
 constructor <;> intro EI
 ·
  have AJ : i < R.length := dT EI
  obtain ⟨s, hs⟩ := Ac AJ
  rw [D4 hs] at hE
  obtain ⟨b1, o1, Ai, ha, _, AY, Ab⟩ := hv.elem hs
  refine zg ?_
  constructor <;> intro DF
  ·
   have DF : (!(s.kind == 3)) = true := DF
   have hk : (s.kind == 3) = false := by simpa using DF
   refine zg ?_
   refine zc hl rfl (T1 s) ?_; rintro v S2 Ar rfl hl
   refine rr rfl (BC rfl rfl rfl) ?_; refine zg ?_
   refine CG (Cw (GK (CG ((z1 rfl ⟨hl.AA, congrArg Value.bool (by rw [hE, iG hk])⟩)))))
  have DF : (!(s.kind == 3)) = false := DF
  have hk : (s.kind == 3) = true := by simpa using DF
  refine zg ?_
  exact ⟨R.length - (i + 1), Q1, i + 1, Q1, rfl, by rw [hE, iF hk], sE, hl⟩
 rw [show R.drop i = [] from List.drop_eq_nil_of_le (dF EI)] at hE
 refine zg ?_
 exact y1 rfl ⟨hl.AA, congrArg Value.bool (by rw [hE]; rfl)⟩
theorem ADS (a : Option Addr) (cap : Nat) (R : List Sg) (i0 : Nat) (KI : i0 ≤ R.length) (hn : R.length ≤ 27) (hv : Bh S (.slice a R.length cap) R) : CC Tryz.prog KK 185 [.slice a R.length cap, .int .i64 ((i0 : Int) - 1), .int .i64 (-1)] S (fun v S' => AG S S' ∧ v = .bool (GB (R.take i0).reverse)) := by
 refine ce 30 Tryz.func185 fun hl => ?_; refine zS ?_; refine AV rfl ?_; refine BF rfl ?_; refine AK (L' := [(1, .int .i64 ((i0 : Int) - 1)), (0, .slice a R.length cap), (2, .int .i64 (-1)), (6, .bool false)]) sE ?_
 refine Au rfl (fun i Le S' => ∃ x : Int, i ≤ R.length ∧ x = (i : Int) - 1 ∧ GB (R.take i0).reverse = GB (R.take i).reverse ∧ Af [(1, .int .i64 x), (0, .slice a R.length cap), (2, .int .i64 (-1)), (6, .bool false)] Le ∧ AB S [S] S' [] []) ?_ (m := i0) ⟨_, KI, rfl, rfl, sE, hl⟩
 clear hl; rintro i Le S' ⟨x, hi, hx, hE, AL, hl⟩; refine AK AL ?_
 refine AV rfl ?_; refine AV rfl (Bz hl 14 (.bool (decide (0 ≤ x))) ?_ rfl ?_)
 ·
  refine zg ?_; refine BH (d := 9) rfl (fun h9 => ?_) (fun h9 => ?_)
  ·
   refine zg ?_
   exact ⟨rfl, bl (by rw [show decide (0 ≤ x) = true from h9]; exact decide_eq_true Q1), sB, hl⟩
  refine zg ?_
  exact ⟨rfl, bl (by rw [show decide (0 ≤ x) = false from h9]), sB, hl⟩
 intro S1 hl
 refine zg ?_
 constructor <;> intro EI
 ·
  obtain ⟨j, rfl⟩ : ∃ j, i = j + 1 := ⟨i - 1, dT EI⟩
  obtain rfl : x = (j : Int) := by omega
  obtain ⟨s, hs⟩ := Ac (l := R) (i := j) Q1
  rw [CJ hs, List.reverse_append] at hE
  have hE : GB (R.take i0).reverse = GB (s :: (R.take j).reverse) := hE
  obtain ⟨b1, o1, Ai, ha, _, AY, Ab⟩ := hv.elem hs
  refine zg ?_
  constructor <;> intro DF
  ·
   have DF : (!(s.kind == 3)) = true := DF
   have hk : (s.kind == 3) = false := by simpa using DF
   refine zg ?_
   refine zc hl rfl (T1 s) ?_; rintro v S2 Ar rfl hl
   refine rr rfl (BC rfl rfl rfl) ?_; refine zg ?_
   refine CG (Cw (GK (CG ((z1 rfl ⟨hl.AA, congrArg Value.bool (by rw [hE, iG hk])⟩)))))
  have DF : (!(s.kind == 3)) = false := DF
  have hk : (s.kind == 3) = true := by simpa using DF
  refine zg ?_
  exact ⟨j, Q1, (j : Int) + -1, Q1, Q1, by rw [hE, iF hk], sE, hl⟩
 obtain rfl : i = 0 := dF EI
 refine zg ?_
 exact y1 rfl ⟨hl.AA, congrArg Value.bool (by rw [hE]; rfl)⟩
def OK (R : List Sg) (j : Nat) : Bool := match nth R j with
 | some d => d.kind == 3
 | none => false
def I2 (R : List Sg) (i : Nat) : Bool := match nth R i, nth R (i + 1) with
 | some s, some x => CH s && (s.value == 4) && CH x && (x.value == 5) && !OK R (i + 2) && GB (R.take i).reverse && GB (R.drop (i + 2))
 | _, _ => false
theorem ADG (a : Option Addr) (cap : Nat) (R : List Sg) (i : Nat) (hi : i < R.length) (hn : R.length ≤ 27) (hv : Bh S (.slice a R.length cap) R) : CC Tryz.prog KK 168 [.slice a R.length cap, .int .i64 (i : Int)] S (fun v S' => AG S S' ∧ v = .bool (I2 R i)) := by
 refine ce 73 Tryz.func168 fun hl => ?_
 obtain ⟨s, hs⟩ := Ac hi
 obtain ⟨b1, o1, Ai, ha, _, AY, Ab⟩ := hv.elem hs
 refine zg ?_; refine BH (d := 11) rfl (fun Dv => ?_) (fun Dv => ?_)
 ·
  have e : I2 R i = false := by
   unfold I2
   cases h : nth R (i + 1) with
   | none => rw [hs]
   | some x => have := CS h; have := oTr Dv; omega
  refine zg ?_
  exact (z1 rfl ⟨hl.AA, congrArg Value.bool e.symm⟩)
 have C8 : i + 1 < R.length := dF Dv
 obtain ⟨x, hx⟩ := Ac C8
 have e : I2 R i = (CH s && (s.value == 4) && CH x && (x.value == 5) && !OK R (i + 2) && GB (R.take i).reverse && GB (R.drop (i + 2))) := by unfold I2; rw [hs, hx]
 obtain ⟨b2, o2, Hy, Eb, _, LH, LJ⟩ := hv.elem hx
 refine zg ?_
 refine zc hl rfl (T1 s) ?_; rintro v S1 Al rfl hl
 refine rr rfl (BC rfl rfl rfl) ?_; refine zg ?_; refine BH (d := 19) rfl (fun Dw => ?_) (fun Dw => ?_)
 ·
  have Dw : CH s = false := by simpa using Dw
  refine zg ?_
  exact (z1 rfl ⟨hl.AA, congrArg Value.bool (by rw [e, Dw]; rfl)⟩)
 have Dw : CH s = true := by simpa using Dw
 refine zg ?_; refine BH (d := 27) rfl (fun Gd => ?_) (fun Gd => ?_)
 ·
  have Gd : (s.value == 4) = false := by simpa using Gd
  refine zg ?_
  exact (z1 rfl ⟨hl.AA, congrArg Value.bool (by rw [e, Dw, Gd]; rfl)⟩)
 have Gd : (s.value == 4) = true := by simpa using Gd
 refine zg ?_
 refine zc hl rfl (T1 x) ?_; rintro v S2 Ar rfl hl
 refine rr rfl (BC rfl rfl rfl) ?_; refine zg ?_; refine BH (d := 36) rfl (fun Ew => ?_) (fun Ew => ?_)
 ·
  have Ew : CH x = false := by simpa using Ew
  refine zg ?_
  exact (z1 rfl ⟨hl.AA, congrArg Value.bool (by rw [e, Dw, Gd, Ew]; rfl)⟩)
 have Ew : CH x = true := by simpa using Ew
 refine zg ?_
 constructor <;> intro EZ
 ·
  have EZ : (x.value == 5) = false := by simpa using EZ
  refine zg ?_
  exact (z1 rfl ⟨hl.AA, congrArg Value.bool (by rw [e, Dw, Gd, Ew, EZ]; rfl)⟩)
 have EZ : (x.value == 5) = true := by simpa using EZ
 rw [Dw, Gd, Ew, EZ, Bool.true_and, Bool.true_and, Bool.true_and, Bool.true_and] at e
 clear ha AY Ab Eb LH LJ
 refine Fl rfl ?_; refine AV rfl (Bz hl 5 (.bool (OK R (i + 2))) ?_ rfl ?_)
 ·
  refine zg ?_; refine BH (d := 50) rfl (fun Pz => ?_) (fun Pz => ?_)
  ·
   have AFn : (i : Int) + 2 < R.length := oTr Pz
   obtain ⟨d, KE⟩ := Ac (l := R) (i := i + 2) Q1
   obtain ⟨b1, o1, Ai, ha, _, AY, FI⟩ := hv.elem KE
   have Ab : takeN 17 (BW (o1 + ((i : Int) + 2).toNat * 17) Ai) = some d.cells := by rw [show ((i : Int) + 2).toNat = i + 2 by omega]; exact FI
   clear FI
   refine zg ?_
   exact ⟨rfl, bl (by unfold OK; rw [KE]), sB, hl⟩
  refine zA ?_
  exact ⟨rfl, bl (by
   unfold OK
   cases h : nth R (i + 2) with
   | none => rfl
   | some d => have := CS h; have := oFa Pz; omega), sB, hl⟩
 intro S3 hl
 refine zg ?_; refine rr rfl (BC rfl rfl rfl) ?_; refine zg ?_; refine BH (d := 61) rfl (fun HV => ?_) (fun HV => ?_)
 ·
  have HV : OK R (i + 2) = false := by simpa using HV
  rw [HV, Bool.not_false, Bool.true_and] at e
  refine zg ?_
  refine zc hl rfl (ADS a cap R i Q1 hn (hv.move (hl.since 0 rfl))) ?_; rintro v S4 GD rfl hl
  refine zg ?_; refine BH (d := 67) rfl (fun P3 => ?_) (fun P3 => ?_)
  ·
   refine zg ?_
   rw [show ((i : Int) + 2) = ((i + 2 : Nat) : Int) by omega]
   refine zc hl rfl (ADT a cap R (i + 2) Q1 hn (hv.move (hl.since 0 rfl))) ?_; rintro v S5 FZ rfl hl
   refine zg ?_
   exact y1 rfl ⟨hl.AA, congrArg Value.bool (by rw [e, P3, Bool.true_and])⟩
  refine zg ?_
  exact y1 rfl ⟨hl.AA, congrArg Value.bool (by rw [e, P3]; rfl)⟩
 have HV : OK R (i + 2) = true := by simpa using HV
 refine zg ?_
 exact y1 rfl ⟨hl.AA, congrArg Value.bool (by rw [e, HV]; rfl)⟩
end Go.Proofs.YtnhalpkekpehpaaGreatDoor
