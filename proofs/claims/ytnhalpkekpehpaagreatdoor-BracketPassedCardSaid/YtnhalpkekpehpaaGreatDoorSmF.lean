/-
  bracket.certain.
-/
import Derived.Test.YtnhalpkekpehpaaGreatDoorSmE
import Derived.Test.YtnhalpkekpehpaaGreatDoorSy2

namespace Go.Proofs.YtnhalpkekpehpaaGreatDoor
open Go.Cm Go
set_option maxRecDepth 100000
variable {S : St}
section
variable {n : Nat} {L : Env} {S S0 : St} {Q : Bi} {ops : List Oper} {i d : Nat} {o : Oper} {P : Program} {K : A1} {l : List (Nat × AD)}
theorem bR {b : Nat} {e : TypeId} {c c' : List Value} (h : S.get b = some (.cells c e true true [])) : PX e S (S.set b (.cells c' e true true [])) := fun b0 e' c0 AR hr => by
 obtain ⟨h1, own, kin, h2⟩ := hr
 refine ⟨h1, own, kin, ?_⟩
 rw [Ev, if_neg]
 ·exact h2
 rintro rfl
 rw [h] at h2
 cases h2
 exact AR rfl
theorem ABc (hl : AB S0 [S0] S l []) (k : Nat) {t : TypeId} {x y : Operand} {v : Value} {b off : Nat} {c c' : List Value} {e : TypeId} (hk : nth l k = some (b, .cells c e true true [])) (ho : nth ops i = some o) (AH : o.op = .store t x y) (hw : As ops L o = some true) (hd : o.dst = none) (hx : Ae L x = some (ptrTo b off)) (hy : Ae L y = some v)
  (hz : Hk P t v = true) (hs : BJ off (AP v) c = some c')
  (h : ∀ S', PX e S S' → AB S0 [S0] S' (Gt k (.cells c' e true true []) l) [] → RE P K n ops (i + 1) L S' Q) : RE P K n ops i L S Q :=
 bJ ho AH hw hd hx hy (c6 hz (hl.get k hk) hs) (h _ (bR (hl.get k hk)) (hl.Qk hk (hl.old hk) _))
theorem nP {AE : List Nat} {pl : List (Oper × Nat)} {q j : Nat} {E : List Cb} (hl : AB S0 [S0] S l []) (k : Nat) {t : TypeId} {x y : Operand} {v : Value} {b off : Nat} {c c' : List Value} {e : TypeId} (hk : nth l k = some (b, .cells c e true true [])) (ho : nth pl q = some (o, j)) (AH : o.op = .store t x y) (hw : As ops L o = some true) (hd : o.dst = none) (hx : Ae L x = some (ptrTo b off)) (hy : Ae L y = some v)
  (hz : Hk P t v = true) (hs : BJ off (AP v) c = some c')
  (h : ∀ S', PX e S S' → AB S0 [S0] S' (Gt k (.cells c' e true true []) l) [] → E7 P n S' ((nth AE j).getD 0) E ∧ RP P K n ops AE pl (q + 1) (left ((nth AE j).getD 0) E) L S' Q) : RP P K n ops AE pl q E L S Q :=
 I9 ho AH hw hd hx hy (c6 hz (hl.get k hk) hs) (h _ (bR (hl.get k hk)) (hl.Qk hk (hl.old hk) _)).1 (h _ (bR (hl.get k hk)) (hl.Qk hk (hl.old hk) _)).2
end
def fs (n : Nat) : List Bool := List.replicate n false
theorem U7 (n : Nat) : (fs n).length = n := List.length_replicate
theorem YF : ∀ n, ((fs n).map bc).flatten = Dp n [Value.bool false]
 | 0 => rfl
 | n + 1 => by
  show bc false ++ ((fs n).map bc).flatten = [Value.bool false] ++ Dp n [Value.bool false]
  rw [YF n]
  rfl
theorem AAh {D : List Bool} {j : Nat} {x : Bool} (h : nth D j = some x) : nth ((D.map bc).flatten) j = some (.bool x) := by
 have h2 := U3 (f := bc) (z := 1) (fun _ => rfl) h
 have := Kj (j := 0) h2 rfl
 rw [Nat.zero_add, Nat.mul_one, Nat.add_zero] at this
 exact this
theorem bu {D : List Bool} {j : Nat} (y : Bool) (h : j < D.length) : BJ j [Value.bool y] ((D.map bc).flatten) = some (((D.set j y).map bc).flatten) := Tv (g := fun x => Value.bool x) y h
theorem Qe {D : List Bool} {j k : Nat} {y : Bool} (h : j < D.length) : nth (D.set k y) j = if k = j then some y else nth D j := by
 rw [CD, CD, List.getElem?_set]
 by_cases e : k = j
 ·subst e
  simp [h]
 simp [e]
def Lk (L : List (List Ti)) (i : Nat) : Bool := L.all fun d => decide (nth d i = nth (L.headD []) i)
def Ll (L : List (List Ti)) (n : Nat) : List Bool := (List.range n).map (Lk L)
def FA (M : List Int) (t : Int) (R : List Sg) : Option (List Bool) := match F8 M t R with
 | none => some (fs (ct R))
 | some [] => none
 | some (d :: L) => some (Ll (d :: L) (ct R))
theorem fZ {M : List Int} {t : Int} {R : List Sg} {D : List Bool} (h : FA M t R = some D) : D.length = ct R := by
 unfold FA at h
 split at h
 ·cases h; exact U7 _
 ·cases h
 cases h; unfold Ll; rw [cw, List.length_range]
theorem ky {p q r t : Int} {sh : List (Int × Int × Bool × Bool × Bool × Int)} (hm : Ap p q r t = 0) (hs : sh.length ≤ 27) : ∀ (V : List Int) (m : Nat) (l : List PD) {l' : List PD}, (∀ k, k ∈ V → k ∈ (BK [p, q, r, t] 4)) → (V.Pairwise fun a b => b < a) → (∀ d, d ∈ l → d.1.map Cv = sh) → (∀ k, k ∈ V → ∀ d, d ∈ l → IW k (Bc [p, q, r, t] (k.toNat + 1)) sh m d) → l.length ≤ 4096 → GI [p, q, r, t] V l = some l' → ∀ d, d ∈ l' → d.1.map Cv = sh
 | [], m, l, l', _, _, h, _, _, e => by
  cases e
  exact h
 | k :: V, m, l, l', hV, hp, h, hI, hl, e => by
  cases Ag : IG k (Bc [p, q, r, t] (k.toNat + 1)) l with
  | none =>
   unfold GI at e
   rw [Ag] at e
   cases e
  | some l2 =>
   rw [Vr Ag] at e
   have h4 := (Vt hm).2 k (hV k aQ)
   obtain ⟨g4, g5⟩ := Z2 h4.2 hs (hI k aQ) hl Ag
   obtain ⟨KN, H7⟩ := List.pairwise_cons.1 hp
   exact ky hm hs V (m + 60) l2 (fun k hk => hV k (cy hk)) H7 (fun d hd => (g4 d hd).s) (fun k2 Ar d hd => (g4 d hd).next (KN k2 Ar) h4.2.2) g5 e
theorem Zo (M : List Int) (t : Int) (R : List Sg) (X Y : List Int) : (EM M t R X Y).length = ct R := by
 have h1 := TI (Bm X R).1 (Bm X R).2.1 (FT M t R Y) R R.length (Nat.le_refl _)
 rw [List.take_length] at h1
 exact h1
theorem sx {p q r t : Int} {R : List Sg} {n : Nat} {l : List (List Ti)} (hm : Ap p q r t = 0) (hR : Br [p, q, r, t] R) (hn : R.length ≤ 27) (h : F' [p, q, r, t] t R n = some l) : ∃ l2 : List PD, l = l2.map Ih ∧ ∀ d, d ∈ l2 → d.1.map Cv = (EM [p, q, r, t] t R (GY [p, q, r, t] t R n) (Gs t R n)).map Cv := by
 unfold F' at h
 obtain ⟨l2, h2, rfl⟩ := Option.map_eq_some_iff.1 h
 refine ⟨l2, rfl, ?_⟩
 refine ky hm (by rw [cw, Zo]; have := Mw R; omega) _ 0 _ (fun k hk => hk) (Z1 hm) (fun d hd => by rw [List.mem_singleton.1 hd]) (fun k _ d hd => by
  rw [List.mem_singleton.1 hd]
  exact Zw hm hR (Xt hm hR) k _) (by show 1 ≤ 4096; omega) h2
theorem XS {M : List Int} {t : Int} {R : List Sg} : ∀ (n i : Nat) (acc : List (List Ti)) {L : List (List Ti)}, JJ M t R n i acc = some L → ∀ d, d ∈ L → d ∈ acc ∨ ∃ j l, i ≤ j ∧ j < i + n ∧ F' M t R j = some l ∧ d ∈ l
 | 0, i, acc, L, h, d, hd => by
  cases h
  exact .inl hd
 | n + 1, i, acc, L, h, d, hd => by
  cases hc : F' M t R i with
  | none => rw [XP hc] at h; cases h
  | some l =>
   rw [XQ hc] at h
   split at h
   ·cases h
   rcases XS n (i + 1) _ h d hd with h1 | ⟨j, l2, h1, h2, h3, h4⟩
   ·rcases List.mem_append.1 h1 with h1 | h1
    ·exact .inl h1
    exact .inr ⟨i, l, Nat.le_refl i, Q1, hc, h1⟩
   exact .inr ⟨j, l2, Q1, Q1, h3, h4⟩
theorem eY {M : List Int} {t : Int} {R : List Sg} : ∀ (n i : Nat) (acc : List (List Ti)) {L : List (List Ti)}, acc.length ≤ 4096 → JJ M t R n i acc = some L → L.length ≤ 4096
 | 0, i, acc, L, hl, h => by
  cases h
  exact hl
 | n + 1, i, acc, L, hl, h => by
  cases hc : F' M t R i with
  | none => rw [XP hc] at h; cases h
  | some l =>
   rw [XQ hc] at h
   split at h
   ·cases h
   exact eY n (i + 1) _ Q1 h
theorem qC {M : List Int} {t : Int} {R : List Sg} {L : List (List Ti)} (h : F8 M t R = some L) : L.length ≤ 4096 := by
 unfold F8 at h
 cases hb : Gx M t R with
 | false => rw [hb] at h; cases h
 | true => rw [hb] at h; exact eY _ _ _ (by show 0 ≤ 4096; omega) h
theorem qD {p q r t : Int} {R : List Sg} {L : List (List Ti)} (hm : Ap p q r t = 0) (hR : Br [p, q, r, t] R) (hn : R.length ≤ 27) (h : F8 [p, q, r, t] t R = some L) : ∀ d, d ∈ L → d.length = ct R := fun d hd => by
 unfold F8 at h
 cases hb : Gx [p, q, r, t] t R with
 | false => rw [hb] at h; cases h
 | true =>
  rw [hb] at h
  rcases XS _ _ _ h d hd with h1 | ⟨j, l, _, _, hc, hl⟩
  ·exact (List.not_mem_nil h1).elim
  obtain ⟨l2, rfl, h2⟩ := sx hm hR hn hc
  obtain ⟨e, he, rfl⟩ := List.mem_map.1 hl
  have h3 := congrArg List.length (h2 e he)
  rw [cw, cw, Zo] at h3
  show ((Ah e.1).map tw).length = _
  unfold Ah
  rw [cw, cw, h3]
def wd (r : Rd) : List Value := [.slice r.aT r.T.length r.T.length]
abbrev XL := AZ 118 1 wd
theorem AZ.Pq {α : Type} {f : α → List Value} {C : List α} {e : TypeId} {z : Nat} {a : Option Addr} {n c : Nat} {S : St} (h : AZ e z f S (.slice a n c) C) {i j : Nat} {x y : α} (hi : nth C i = some x) (hj : nth C j = some y) : ∃ b o cs, a = some ⟨b, o, none⟩ ∧ Di S b e cs ∧ takeN z (BW (o + i * z) cs) = some (f x) ∧ takeN z (BW (o + j * z) cs) = some (f y) := by
 obtain ⟨b1, o1, Ai, Cc, hn, NW, Vf⟩ := h.elem hi
 obtain ⟨b2, o2, Hy, Eb, _, QM, Ot⟩ := h.elem hj
 rw [Cc] at Eb
 cases Eb
 refine ⟨b1, o1, Ai, Cc, NW, Vf, ?_⟩
 obtain ⟨_, _, _, g1⟩ := NW
 obtain ⟨_, _, _, g2⟩ := QM
 rw [g1] at g2
 cases g2
 exact Ot
def Nn (O : List Rd) (o0 : Rd) (k i : Nat) : Bool := (O.take k).all fun r => decide (nth r.T i = nth o0.T i)
theorem AAw {O : List Rd} {o0 x : Rd} {k i : Nat} (h : nth O k = some x) : Nn O o0 (k + 1) i = (Nn O o0 k i && decide (nth x.T i = nth o0.T i)) := by
 unfold Nn
 rw [CJ h, List.all_append]
 simp
theorem AAv {O : List Rd} {o0 : Rd} {i : Nat} (h : nth O 0 = some o0) : Nn O o0 O.length i = Lk (O.map Rd.T) i := by
 cases O with
 | nil => cases h
 | cons a O =>
  cases h
  unfold Nn Lk
  rw [List.take_length, List.all_map]
  rfl
theorem sf {L : List (List Ti)} {n : Nat} {D : List Bool} (hl : D.length = n) (h : ∀ j, j < n → nth D j = some (Lk L j)) : D = Ll L n := by
 refine List.ext_getElem? fun j => ?_
 unfold Ll
 rw [List.getElem?_map]
 by_cases hj : j < n
 ·have h1 := h j hj
  rw [CD] at h1
  rw [h1, List.getElem?_range hj]
  rfl
 rw [List.getElem?_eq_none Q1, List.getElem?_eq_none (by rw [List.length_range]; omega)]
 rfl
theorem ADr (a : Option Addr) (cap : Nat) (R : List Sg) (p q r t : Int) (hm : Ap p q r t = 0) (hF : Ad S) (hn : R.length ≤ 27) (hR : Br [p, q, r, t] R) (hv : Bh S (.slice a R.length cap) R) (Dk : Gh S) : CC Tryz.prog KK 41 [mV [p, q, r, t], .slice a R.length cap] S (fun v S' => AG S S' ∧ match FA [p, q, r, t] t R with
  | none => v = AN [.slice none 0 0, .int .i64 14]
  | some D => ∃ b, v = AN [.slice (some ⟨b, 0, none⟩) D.length D.length, .int .i64 0] ∧ Kp S' (.slice (some ⟨b, 0, none⟩) D.length D.length) D) := by
 refine ce 94 Tryz.func41 fun hl => ?_
 have jI := Mw R
 refine zg ?_; refine bL hl fun B2 S2 hl => ?_; refine zA ?_; refine zS ?_; refine AV rfl ?_; refine zS ?_; refine BF rfl ?_; refine AK (L' := [(19, .int .i64 (0 : Int)), (18, .int .i64 R.length), (17, .slice a R.length cap), (6, .int .i64 (0 : Int)), (1, .slice a R.length cap), (2, ptrTo B2 0), (4, .slice none 0 0), (5, .int .i64 0)]) sE ?_
 refine Au rfl (fun m Le S' => ∃ (i n : Nat), i ≤ R.length ∧ m = R.length - i ∧ n = ct (R.take i) ∧ Af [(19, .int .i64 (i : Int)), (18, .int .i64 R.length), (17, .slice a R.length cap), (6, .int .i64 (n : Int)), (1, .slice a R.length cap), (2, ptrTo B2 0), (4, .slice none 0 0), (5, .int .i64 0)] Le ∧ AB S [S] S' [(B2, .cells (AP (mV [p, q, r, t])) 28 false true [])] []) ?_ (m := R.length) ⟨0, 0, Q1, Q1, rfl, sE, hl⟩
 clear hl; rintro m Le S' ⟨i, n, hi, rfl, Iq, AL, hl⟩; refine AK AL ?_
 refine zg ?_
 constructor <;> intro HS
 ·
  have AJ : i < R.length := dT HS
  have iU := Pp R i
  obtain ⟨s, hs⟩ := Ac AJ
  obtain ⟨b1, o1, Ai, ha, _, AY, Ab⟩ := hv.elem hs
  refine zg ?_; refine aL hl ((FB.cells.set 0 (.int .i64 0))) fun B8 S8 hl => ?_; refine sL hl 0 s.cells fun S9 hl => ?_; refine zg ?_
  constructor <;> intro EX
  ·
   have Bt : (s.kind == 3) = false := by simpa using EX
   refine zg ?_
   exact ⟨R.length - (i + 1), Q1, i + 1, n + 1, Q1, rfl, by rw [(QW hs Bt).2, Iq], sE, hl.tail⟩
  have Bt : (s.kind == 3) = true := by simpa using EX
  refine zg ?_
  exact ⟨R.length - (i + 1), Q1, i + 1, n, Q1, rfl, by rw [(TL hs Bt).2, Iq], sE, hl.tail⟩
 obtain rfl : i = R.length := dF HS
 rw [List.take_length] at Iq
 refine zg ?_; refine mz hl rfl rfl rfl rfl rfl rfl rfl rfl rfl Tryz.underlying44 (z := .bool false) aP aP (by unfold AQ; omega) ?_; intro D0 Co hl
 have hl : AB S [S] Co ([(D0, .cells (((fs n).map bc).flatten) 4 true true []), (B2, .cells (AP (mV [p, q, r, t])) 28 false true [])] ++ ([] ++ [])) [] := by rw [YF]; exact hl
 refine zg ?_
 refine zc hl rfl (ADz a cap R p q r t hm (hl.AA.3 hF) hn hR (hv.move (hl.since 0 rfl)) (Dk.AA hl.AA)) ?_; rintro v D3 Ar QO hl
 have hC : FA [p, q, r, t] t R = match F8 [p, q, r, t] t R with
  | none => some (fs (ct R))
  | some [] => none
  | some (d :: L) => some (Ll (d :: L) (ct R)) := rfl
 have R7 := qD (L := (F8 [p, q, r, t] t R).getD []) hm hR hn
 cases hA : F8 [p, q, r, t] t R with
 | none =>
  rw [hA] at QO hC
  have QO : v = AN [.slice none 0 0, .int .i64 15] := QO
  subst QO
  have hC : FA [p, q, r, t] t R = some (fs (ct R)) := hC
  rw [hC, ← Iq]
  refine zg ?_
  have hb := hl.at_ D0 _ aQ
  exact z2 rfl rfl ⟨hl.AA, D0, by rw [U7], AZ.row (f := bc) (C := fs n) (fun _ => rfl) ⟨hb.2.2, true, [], hb.1⟩ rfl⟩
 | some L =>
  rw [hA] at QO R7
  have R7 := R7 rfl
  rcases QO with ⟨rfl, rfl⟩ | ⟨AR, av, O, rfl, VF, P6, Gf⟩
  ·
   rw [hA] at hC
   have hC : FA [p, q, r, t] t R = none := hC
   rw [hC]
   refine zg ?_
   exact z2 rfl rfl ⟨hl.AA, rfl⟩
  have hC : FA [p, q, r, t] t R = some (Ll L n) := by
   rw [hC, hA, Iq]
   cases L with
   | nil => exact (AR rfl).elim
   | cons d L => rfl
  rw [hC]
  have R9 : O.length ≤ 4096 := by
   have h := qC hA
   rw [← VF, cw] at h
   exact h
  have DN : ∀ x, x ∈ O → x.T.length = n := fun x hx => by
   rw [Iq]
   exact R7 x.T (by show x.T ∈ L; rw [← VF]; exact List.mem_map.2 ⟨x, hx, rfl⟩)
  clear hC R7
  refine zg ?_; refine AK (L' := [(45, .int .i64 (0 : Int)), (44, .int .i64 O.length), (43, .slice av O.length O.length), (12, .slice none 0 0), (9, .slice (some ⟨D0, 0, none⟩) n n), (4, .slice none 0 0), (5, .int .i64 0)]) sE ?_
  refine Au rfl (fun m Le S' => ∃ (i : Nat) (aw : Option Addr) (fW : List (Nat × AD)), i ≤ O.length ∧ m = O.length - i ∧ OW (.slice aw i i) 118 1 (((O.take i).map wd).flatten) i fW ∧ XG S' (.slice av O.length O.length) O ∧ (∀ x, x ∈ O → x.Ok S') ∧ Af [(45, .int .i64 (i : Int)), (44, .int .i64 O.length), (43, .slice av O.length O.length), (12, .slice aw i i), (9, .slice (some ⟨D0, 0, none⟩) n n), (4, .slice none 0 0), (5, .int .i64 0)] Le ∧ AB S [S] S' ([(D0, .cells (((fs n).map bc).flatten) 4 true true []), (B2, .cells (AP (mV [p, q, r, t])) 28 false true [])] ++ (fW ++ [])) []) ?_ (m := O.length) ⟨0, none, [], Q1, Q1, .inl ⟨rfl, rfl, rfl, rfl⟩, P6, Gf, sE, hl⟩
  clear hl P6 Gf; rintro m Le S' ⟨i, aw, fW, hi, rfl, VG, P6, Gf, AL, hl⟩; refine AK AL ?_
  refine zg ?_
  constructor <;> intro YM
  ·
   have AJ : i < O.length := dT YM
   obtain ⟨x, hx⟩ := Ac AJ
   obtain ⟨b1, o1, Ai, ha, _, AY, Ab⟩ := P6.elem hx
   have hl := hl.mark
   refine zg ?_; refine aL hl [.slice none 0 0, .slice none 0 0, .slice none 0 0, .slice none 0 0] fun EB Ep hl => ?_; refine sL hl 0 x.cells fun EC hl => ?_; refine zg ?_; refine dL hl (wd x) Tryz.underlying117 fun B52 E6 xb hl => ?_
   have hl : AB S [S', S] E6 ([(EB, AD.cells x.cells 120 false true []), (D0, .cells (((fs n).map bc).flatten) 4 true true []), (B2, .cells (AP (mV [p, q, r, t])) 28 false true [])] ++ (fW ++ [])) [] := hl
   refine HB hl VG rfl rfl rfl rfl rfl rfl rfl Tryz.underlying117 Tryz.underlying117 rfl rfl (by decide) aP (Bf (n := 1) (cap := 1) (new := wd x) xb rfl) rfl rfl aP (by show i + 1 ≤ AQ; unfold AQ; omega) ?_; intro w2 tn IZ il hl
   obtain ⟨Uf, rfl⟩ := il.is
   refine zg ?_
   refine ⟨O.length - (i + 1), Q1, i + 1, Uf, tn, Q1, rfl, ?_, P6.move (hl.since 0 rfl), fun y hy => (Gf y hy).move (hl.since 0 rfl), sE, hl.tail.marks (Us := [S]) fun T hT => cy hT⟩
   rw [CJ hx, mAp, List.flatten_append]
   exact il
  have C8 : i = O.length := dF YM
  rw [C8, List.take_length] at VG
  have Im : XL S' (.slice aw O.length O.length) O := OW.ls (f := wd) (fun _ => rfl) VG hl
  have hl : AB S [S] S' [(D0, .cells (((fs n).map bc).flatten) 4 true true []), (B2, .cells (AP (mV [p, q, r, t])) 28 false true [])] [] := hl.sub (l' := [(D0, .cells (((fs n).map bc).flatten) 4 true true []), (B2, .cells (AP (mV [p, q, r, t])) 28 false true [])]) (List.sublist_append_left ..)
  rw [C8]
  clear VG P6
  obtain ⟨o0, Sf⟩ := Ac (l := O) (i := 0) (by
   rcases Nat.eq_zero_or_pos O.length with h | h
   ·exact (AR (by rw [← VF, List.length_eq_zero_iff.1 h]; rfl)).elim
   exact h)
  obtain ⟨aW, jA⟩ : ∃ aW, aW = aw := ⟨_, rfl⟩
  rw [← jA] at Im ⊢
  clear jA
  refine zg ?_; refine AK (L' := [(57, .int .i64 (0 : Int)), (56, .int .i64 n), (12, .slice aW O.length O.length), (9, .slice (some ⟨D0, 0, none⟩) n n), (4, .slice none 0 0), (5, .int .i64 0)]) sE ?_
  refine Au rfl (fun m Le S' => ∃ (i : Nat) (D : List Bool), i ≤ n ∧ m = n - i ∧ D.length = n ∧ (∀ j, j < i → nth D j = some (Lk L j)) ∧ XL S' (.slice aW O.length O.length) O ∧ (∀ x, x ∈ O → x.Ok S') ∧ Af [(57, .int .i64 (i : Int)), (56, .int .i64 n), (12, .slice aW O.length O.length), (9, .slice (some ⟨D0, 0, none⟩) n n), (4, .slice none 0 0), (5, .int .i64 0)] Le ∧ AB S [S] S' [(D0, .cells (((D).map bc).flatten) 4 true true []), (B2, .cells (AP (mV [p, q, r, t])) 28 false true [])] []) ?_ (m := n) ⟨0, fs n, Q1, Q1, U7 n, (fun j hj => by omega), Im, Gf, sE, hl⟩
  clear hl Im Gf AL C8 YM hi; rintro m Le S' ⟨i, D, hi, rfl, hD, YU, Im, Gf, AL, hl⟩; refine AK AL ?_
  refine zg ?_
  constructor <;> intro JS
  ·
   have AJ : i < n := dT JS
   refine zg ?_
   have ej : 0 + ((i : Int)).toNat * 1 = i := by simp
   rw [ej]
   refine ABc hl 0 rfl rfl rfl rfl rfl rfl rfl aP (bu true (j := i) Q1) ?_
   intro OA kQ hl
   have hl : AB S [S] OA [(D0, .cells (((D.set i true).map bc).flatten) 4 true true []), (B2, .cells (AP (mV [p, q, r, t])) 28 false true [])] [] := hl
   have Im := Im.I1 kQ (by decide)
   have Gf : ∀ x, x ∈ O → x.Ok OA := fun x hx => AZ.I1 kQ (by decide) (Gf x hx)
   refine zg ?_
   have GF : ∀ j, j < i → nth (D.set i true) j = some (Lk L j) := fun j hj => by
    rw [Qe Q1, if_neg Q1]; exact YU j hj
   have xw : nth (D.set i true) i = some (Nn O o0 0 i) := by rw [Qe Q1, if_pos rfl]; rfl
   refine AK (L' := [(65, .int .i64 (0 : Int)), (64, .int .i64 O.length), (15, .int .i64 (i : Int)), (57, .int .i64 (i : Int)), (56, .int .i64 n), (12, .slice aW O.length O.length), (9, .slice (some ⟨D0, 0, none⟩) n n), (4, .slice none 0 0), (5, .int .i64 0)]) sE ?_
   refine Au rfl (fun m Le S' => ∃ (k : Nat) (D2 : List Bool), k ≤ O.length ∧ m = O.length - k ∧ D2.length = n ∧ (∀ j, j < i → nth D2 j = some (Lk L j)) ∧ nth D2 i = some (Nn O o0 k i) ∧ XL S' (.slice aW O.length O.length) O ∧ (∀ x, x ∈ O → x.Ok S') ∧ Af [(65, .int .i64 (k : Int)), (64, .int .i64 O.length), (15, .int .i64 (i : Int)), (57, .int .i64 (i : Int)), (56, .int .i64 n), (12, .slice aW O.length O.length), (9, .slice (some ⟨D0, 0, none⟩) n n), (4, .slice none 0 0), (5, .int .i64 0)] Le ∧ AB S [S] S' [(D0, .cells (((D2).map bc).flatten) 4 true true []), (B2, .cells (AP (mV [p, q, r, t])) 28 false true [])] []) ?_ (m := O.length) ⟨0, D.set i true, Q1, Q1, by rw [Ty, hD], GF, xw, Im, Gf, sE, hl⟩
   clear hl Im Gf; rintro m Le S' ⟨k, D2, hk, rfl, Ly, YV, YT, Im, Gf, AL, hl⟩; refine AK AL ?_
   refine zg ?_
   constructor <;> intro P2
   ·
    have Oe : k < O.length := dT P2
    obtain ⟨x, hx⟩ := Ac Oe
    have Iu := AAw (o0 := o0) (i := i) hx
    obtain ⟨tx, kE⟩ := Ac (l := x.T) (i := i) (by rw [DN x (Am hx)]; exact AJ)
    obtain ⟨t0, Gm⟩ := Ac (l := o0.T) (i := i) (by rw [DN o0 (Am Sf)]; exact AJ)
    rw [kE, Gm] at Iu
    have Vj : Ku S' (.slice x.aT x.T.length x.T.length) x.T := Gf x (Am hx)
    have uV : Ku S' (.slice o0.aT o0.T.length o0.T.length) o0.T := Gf o0 (Am Sf)
    have hb := hl.at_ D0 _ aQ
    have AF4 : Di S' D0 4 (((D2).map bc).flatten) := ⟨hb.2.2, true, [], hb.1⟩
    have AGF := DN x (Am hx)
    have AFj := DN o0 (Am Sf)
    have ej : 0 + ((i : Int)).toNat * 1 = i := by simp
    generalize hpv : Nn O o0 k i = pv at *
    have NU : nth (((D2).map bc).flatten) (0 + i * 1) = some (.bool pv) := by rw [Nat.zero_add, Nat.mul_one]; exact AAh YT
    refine zg ?_; refine A4 (idx := [0, 1, 2, 3, 4, 5, 6, 7, 8, 9, 10, 11, 12, 13, 14, 15, 16, 17, 18, 19, 20, 21, 22, 23]) rfl aP aP ?_; refine zg ?_; refine Ej (d := 74) rfl (fun YN => ?_) (fun YN => ?_)
    ·
     obtain rfl : pv = true := YN
     obtain ⟨b1, o1, Ai, ha, AY, Ab, FI⟩ := Im.Pq hx Sf
     obtain ⟨b3, o3, Po, SB, _, ZN, Sq⟩ := Vj.elem kE
     obtain ⟨b4, o4, cs4, ha4, _, AF2, AF9⟩ := uV.elem Gm
     refine zg ?_
     rw [ej]
     refine nP hl 0 rfl rfl rfl rfl rfl rfl rfl aP (bu (D := D2) (decide (tx = t0)) (j := i) (by rw [Ly]; exact AJ)) ?_; intro Ia Sz hl; refine ⟨zt, ?_⟩
     have hl : AB S [S] Ia [(D0, .cells (((D2.set i (decide (tx = t0))).map bc).flatten) 4 true true []), (B2, .cells (AP (mV [p, q, r, t])) 28 false true [])] [] := hl
     refine zg ?_
     refine ⟨O.length - (k + 1), Q1, k + 1, D2.set i (decide (tx = t0)), Q1, Q1, by rw [Ty, Ly], fun j hj => ?_, ?_, Im.I1 Sz (by decide), fun y hy => AZ.I1 Sz (by decide) (Gf y hy), sE, hl⟩
     ·rw [Qe Q1, if_neg Q1]; exact YV j hj
     rw [Qe Q1, if_pos rfl, Iu]; simp
    obtain rfl : pv = false := YN
    refine zg ?_
    rw [ej]
    refine nP hl 0 rfl rfl rfl rfl rfl rfl rfl aP (bu (D := D2) false (j := i) (by rw [Ly]; exact AJ)) ?_; intro Ia Sz hl; refine ⟨zt, ?_⟩
    have hl : AB S [S] Ia [(D0, .cells (((D2.set i false).map bc).flatten) 4 true true []), (B2, .cells (AP (mV [p, q, r, t])) 28 false true [])] [] := hl
    refine zg ?_
    refine ⟨O.length - (k + 1), Q1, k + 1, D2.set i false, Q1, Q1, by rw [Ty, Ly], fun j hj => ?_, ?_, Im.I1 Sz (by decide), fun y hy => AZ.I1 Sz (by decide) (Gf y hy), sE, hl⟩
    ·rw [Qe Q1, if_neg Q1]; exact YV j hj
    rw [Qe Q1, if_pos rfl, Iu]; rfl
   have Ar : k = O.length := dF P2
   rw [Ar, AAv Sf, VF] at YT
   refine zg ?_
   refine ⟨n - (i + 1), Q1, i + 1, D2, Q1, rfl, Ly, fun j hj => ?_, Im, Gf, sE, hl⟩
   by_cases e : j = i
   ·rw [e]; exact YT
   exact YV j Q1
  have C8 : i = n := dF JS
  rw [C8] at YU
  have e := sf hD YU
  have el : (Ll L n).length = n := by rw [← e]; exact hD
  refine zg ?_
  have hb := hl.at_ D0 _ aQ
  have H5 : Kp S' (.slice (some ⟨D0, 0, none⟩) D.length D.length) D := AZ.row (f := bc) (fun _ => rfl) ⟨hb.2.2, true, [], hb.1⟩ rfl
  refine y2 rfl rfl ⟨hl.AA, D0, by rw [el], ?_⟩
  rw [← e]
  exact H5
theorem cN (a n : Int) (hn : 0 < n) (FH : n ≤ 1000000) : CC Tryz.prog KK 14 [.int .i64 a, .int .i64 n] S (fun v S' => AG S S' ∧ v = .int .i64 (FK a n)) := by
 refine ce 16 Tryz.func14 fun hl => ?_
 have hb := ou a hn
 refine zg ?_
 constructor <;> intro h6
 ·
  refine zg ?_
  exact (z1 rfl ⟨hl.AA, dT h6⟩)
 refine Fl rfl ?_; refine zS ?_; refine AV rfl (PV (fun Le S' => Af [(0, .int .i64 (FK a n))] Le ∧ AB S [S] S' [] []) ?_ ?_)
 ·
  refine zg ?_
  constructor <;> intro Dv
  ·
   refine zg ?_
   exact ⟨rfl, ⟨congrArg some (congrArg (Value.int .i64) (AAG Dv)), trivial⟩, hl⟩
  refine zg ?_
  exact ⟨rfl, ⟨congrArg some (congrArg (Value.int .i64) (AAH Dv)), trivial⟩, hl⟩
 clear hl; rintro UR S1 ⟨MI, hl⟩; refine AK MI ?_
 refine zg ?_
 refine y1 rfl ⟨hl.AA, rfl⟩
def J3 (L : List Int) (i : Nat) : Int := (nth L i).getD 0
theorem qX {L : List Int} {i : Nat} (h : (decide ((i : Int) < 0) || decide ((i : Int) ≥ L.length)) = true) : (0 : Int) = J3 L i := by
 have : L.length ≤ i := by simp at h; omega
 unfold J3; rw [mB this]; rfl
theorem qY {L : List Int} {i : Nat} {x : Int} (h : nth L i = some x) : x = J3 L i := by unfold J3; rw [h]; rfl
theorem oL (a : Option Addr) (cap : Nat) (L : List Int) (i : Nat) (hv : A5 S (.slice a L.length cap) L) : CC Tryz.prog KK 7 [.slice a L.length cap, .int .i64 i] S (fun v S' => AG S S' ∧ v = .int .i64 (J3 L i)) := by
 refine ce 17 Tryz.func7 fun hl => ?_; refine zS ?_; refine AV rfl ?_; refine AV rfl (Bz hl 12 (.bool (decide ((i : Int) < 0) || decide ((i : Int) ≥ L.length))) ?_ rfl ?_)
 ·
  refine zg ?_
  exact ⟨rfl, bl (by simp; omega), sB, hl⟩
 intro S1 hl
 refine zg ?_
 constructor <;> intro CL
 ·
  refine zg ?_
  exact (z1 rfl ⟨hl.AA, congrArg (Value.int .i64) (qX CL)⟩)
 have AJ : i < L.length := by have := CL; simp at this; omega
 obtain ⟨x, hx⟩ := Ac AJ
 obtain ⟨b1, o1, Ai, ha, _, AY, Ab⟩ := hv.elem hx
 refine zg ?_
 refine y1 rfl ⟨hl.AA, congrArg (Value.int .i64) (qY hx)⟩
theorem AAL : ((List.range 16).all fun n : Nat => let k : Int := n; Ap (2 + k.tdiv 8) (2 + (k.tdiv 4).tmod 2) (2 + (k.tdiv 2).tmod 2) (2 + k.tmod 2) == 0) = true := by kernel_rfl
theorem ADy (n : Int) : CC Tryz.prog KK 6 [.int .i64 n] S (fun v S' => AG S S' ∧ ∃ p q r t, Ap p q r t = 0 ∧ v = mV [p, q, r, t]) := by
 refine ce 21 Tryz.func6 fun hl => ?_; refine zg ?_; refine aL hl [.int .i64 0, .int .i64 0, .int .i64 0, .int .i64 0] fun B2 S2 hl => ?_; refine zg ?_
 refine zc hl rfl (cN n 16 Q1 Q1) ?_; rintro v S3 Al rfl hl
 have hm := lU n (n := 16) Q1
 generalize FK n 16 = k at *
 have q8 := Tb (a := k) (b := 8) Q1 hm.1
 have q4 := Tb (a := k) (b := 4) Q1 hm.1
 have q2 := Tb (a := k) (b := 2) Q1 hm.1
 have r4 := Mb (a := k.tdiv 4) (b := 2) Q1 q4.1
 have r2 := Mb (a := k.tdiv 2) (b := 2) Q1 q2.1
 have r1 := Mb (a := k) (b := 2) Q1 hm.1
 have hz : Ap (2 + k.tdiv 8) (2 + (k.tdiv 4).tmod 2) (2 + (k.tdiv 2).tmod 2) (2 + k.tmod 2) = 0 := by
  have h := List.all_eq_true.1 AAL k.toNat (List.mem_range.2 Q1)
  have e : ((k.toNat : Nat) : Int) = k := by omega
  simp only [e] at h
  exact eq_of_beq h
 refine zg ?_; refine rr rfl (Ak rfl rfl (v := mV [(2 + k.tdiv 8), (2 + (k.tdiv 4).tmod 2), (2 + (k.tdiv 2).tmod 2), (2 + k.tmod 2)]) (by rfl)) ?_; refine sL hl 0 (AP (mV [(2 + k.tdiv 8), (2 + (k.tdiv 4).tmod 2), (2 + (k.tdiv 2).tmod 2), (2 + k.tmod 2)])) fun S4 hl => ?_; refine zg ?_
 exact CK (D9 rfl (lN (z := 4) (hl.get 0 rfl) rfl) rfl) ⟨hl.AA, _, _, _, _, hz, rfl⟩
def o8 : List Value := [.int .i64 3, .int .i64 4, .int .i64 4, .int .i64 5, .int .i64 5, .int .i64 3, .int .i64 2, .int .i64 6]
theorem AFB {k : Int} (h : 0 ≤ k ∧ k < 8) : ∃ x : Int, (2 ≤ x ∧ x ≤ 6) ∧ nth o8 (0 + k.toNat * 1) = some (.int .i64 x) := by
 obtain rfl | rfl | rfl | rfl | rfl | rfl | rfl | rfl : k = 0 ∨ k = 1 ∨ k = 2 ∨ k = 3 ∨ k = 4 ∨ k = 5 ∨ k = 6 ∨ k = 7 := by omega
 all_goals exact ⟨_, by constructor <;> decide, rfl⟩
theorem Br.nil {M : List Int} : Br M [] := fun j s h => by cases h
theorem Br.app {M : List Int} {R : List Sg} {s : Sg} (h : Br M R) (hs : NX s) : Br M (R ++ [s]) := by
 intro j x hx
 rcases Vy hx with hx | ⟨_, rfl⟩
 ·rcases h j x hx with h2 | ⟨h2, k, y, e, h3, h4, h5⟩
  ·exact .inl h2
  exact .inr ⟨h2, k, y, e, h3, h4, by rw [TT (CS h5)]; exact h5⟩
 exact .inl hs
theorem Br.dot {M : List Int} {R : List Sg} {y : Sg} (h : Br M R) (hy : NX y) (hm : C9 M y ≠ []) (hn : nth R (R.length - 1) = some y) : Br M (R ++ [FB]) := by
 intro j x hx
 rcases Vy hx with hx | ⟨hj, rfl⟩
 ·rcases h j x hx with h2 | ⟨h2, k, y, e, h3, h4, h5⟩
  ·exact .inl h2
  exact .inr ⟨h2, k, y, e, h3, h4, by rw [TT (CS h5)]; exact h5⟩
 have AJ := CS hn
 exact .inr ⟨rfl, R.length - 1, y, Q1, hy, hm, by rw [TT AJ]; exact hn⟩
theorem NX.val {s : Sg} (h : NX s) : 2 ≤ s.value ∧ s.value ≤ 6 := h.nr.v
theorem AAS {M : List Int} {s : Sg} (hs : NX s) (h : s.kind = 1 ∨ 0 < Bb M s.value) : C9 M s ≠ [] := by
 rcases hs with ⟨v, p, c, hv, _, rfl⟩ | ⟨v, hv, rfl⟩
 ·cases c with
  | true => exact List.cons_ne_nil _ _
  | false =>
   show (bif IL M v.toNat == 3 then Cg [v, Bb M v] else 0 :: Cg [Bb M v]) ≠ []
   cases IL M v.toNat == 3 with
   | true =>
    show Cg [v, Bb M v] ≠ []
    by_cases h : 0 < Bb M v
    ·rw [fq h]; exact List.cons_ne_nil _ _
    rw [fp h]; exact List.cons_ne_nil _ _
   | false => exact List.cons_ne_nil _ _
 rcases h with h | h
 ·cases h
 have h : 0 < Bb M v := h
 show Cg [Bb M v] ≠ []
 rw [fo h]
 exact List.cons_ne_nil _ _
abbrev gR (av : Option Addr) (R : List Sg) : Gr := Eu 34 17 Sg.cells (.slice av R.length R.length) R
theorem ACn (a : Option Addr) (cap : Nat) (L : List Int) (p q r t : Int) (hm : Ap p q r t = 0) (_ : Ad S) (hv : A5 S (.slice a L.length cap) L) : CC Tryz.prog KK 13 [mV [p, q, r, t], .slice a L.length cap, .int .i64 12] S (fun v S' => AG S S' ∧ ∃ av R, v = .slice av R.length R.length ∧ Br [p, q, r, t] R ∧ R.length ≤ 12 ∧ AU S S' (gR av R)) := by
 refine ce 81 Tryz.func13 fun hl => ?_; refine zg ?_; refine bL hl fun B3 S3 hl => ?_; refine zg ?_; refine dL hl o8 Tryz.underlying22 fun Dt S1 jz hl => ?_
 have hl := hl.mark
 refine zA ?_; refine zS ?_; refine AV rfl ?_; refine zS ?_; refine BF rfl ?_
 have hl := hl.EP (g := gR none []) (.inl ⟨rfl, rfl, rfl⟩)
 refine AK (L' := [(9, .int .i64 (0 : Int)), (8, .slice none ([] : List Sg).length ([] : List Sg).length), (7, .slice (some ⟨Dt, 0, none⟩) 8 8), (6, .slice none 0 0), (3, ptrTo B3 0), (1, .slice a L.length cap), (2, .int .i64 12)]) sE ?_
 refine Au rfl (fun m Le S' => ∃ (i : Nat) (av : Option Addr) (R : List Sg), i ≤ L.length ∧ m = L.length - i ∧ Br [p, q, r, t] R ∧ (R.length ≤ 12 ∧ i ≤ R.length) ∧ Af [(9, .int .i64 (i : Int)), (8, .slice av R.length R.length), (7, .slice (some ⟨Dt, 0, none⟩) 8 8), (6, .slice none 0 0), (3, ptrTo B3 0), (1, .slice a L.length cap), (2, .int .i64 12)] Le ∧ AB S [S1, S] S' [(B3, .cells (AP (mV [p, q, r, t])) 28 false true [])] [gR av R]) ?_ (m := L.length) ⟨0, none, [], Q1, Q1, .nil, ⟨by decide, by decide⟩, sE, hl⟩
 clear hl; rintro m Le S' ⟨i, av, R, hi, rfl, hR, ⟨P9, hiR⟩, AL, hl⟩; refine AK AL ?_
 refine AV rfl ?_; refine AV rfl (Bz hl 23 (.bool (decide ((i : Int) < L.length) && decide ((R.length : Int) < 12))) ?_ rfl ?_)
 ·
  refine zg ?_; refine BH (d := 18) rfl (fun Lw => ?_) (fun Lw => ?_)
  ·
   refine zg ?_
   exact ⟨rfl, bl (by first | (simp; done) | (simp only [Lw, Mk])), sB, hl⟩
  refine zg ?_
  exact ⟨rfl, bl (by first | (simp; done) | (simp only [Lw, Mk])), sB, hl⟩
 intro S1' hl
 refine zg ?_
 constructor <;> intro DF
 ·
  rw [Bool.and_eq_true] at DF
  have AJ : i < L.length := by have := oTr DF.1; omega
  have hR3 : R.length < 12 := by have := oTr DF.2; omega
  obtain ⟨y, hy⟩ := Ac AJ
  obtain ⟨b1, o1, Ai, ha, _, AY, Ab⟩ := hv.elem hy
  refine zg ?_
  refine zc hl rfl (cN _ 504 Q1 Q1) ?_; rintro v S2 Al rfl hl
  have SZ := lU y (n := 504) Q1
  have wk := Mb (a := FK y 504) (b := 8) Q1 SZ.1
  have jW := Mb (a := (i : Int)) (b := 9) Q1 Q1
  obtain ⟨x, Zf, hxv⟩ := AFB wk
  refine zg ?_; refine rr rfl (Ak rfl rfl (v := (A9 x ((i : Int).tmod 9) false).v) (by rfl)) ?_; refine aL hl (FB.cells.set 0 (.int .i64 0)) fun Dg D3 hl => ?_; refine sL hl 0 ((A9 x ((i : Int).tmod 9) false).cells) fun Ep hl => ?_; refine zA ?_
  refine AV rfl (PV (fun Le S' => ∃ s, NX s ∧ Af [(11, ptrTo Dg 0), (10, .int .i64 (FK y 504)), (9, .int .i64 (i : Int)), (8, .slice av R.length R.length), (7, .slice (some ⟨Dt, 0, none⟩) 8 8), (6, .slice none 0 0), (3, ptrTo B3 0), (1, .slice a L.length cap), (2, .int .i64 12)] Le ∧ AB S [S1, S] S' [(Dg, .cells s.cells 34 false true []), (B3, .cells (AP (mV [p, q, r, t])) 28 false true [])] [gR av R]) ?_ ?_)
  ·
   refine zg ?_
   constructor <;> intro Px
   ·
    refine zg ?_; refine rr rfl (Ak rfl rfl (v := (Qp x).v) (by rfl)) ?_; refine sL hl 0 ((Qp x).cells) fun EC hl => ?_; refine zg ?_
    exact ⟨rfl, Qp x, .inr ⟨x, Zf, rfl⟩, sE, hl⟩
   refine AV rfl (Bz hl 47 (.bool ((((FK y 504).tdiv 8).tmod 9 == 1) || (((FK y 504).tdiv 8).tmod 9 == 2))) ?_ rfl ?_)
   ·
    refine zg ?_
    constructor <;> intro Rz
    ·
     refine zg ?_
     exact ⟨rfl, bl (by first | (simp [Rz]; done) | (simp only [Rz, Mk])), sB, hl⟩
    refine zg ?_
    exact ⟨rfl, bl (by first | (simp [Rz]; done) | (simp only [Rz, Mk])), sB, hl⟩
   intro E6 hl
   refine zg ?_
   constructor <;> intro Rz
   ·
    refine zg ?_; refine sL hl 0 ((A9 x ((i : Int).tmod 9) true).cells) fun EC hl => ?_; refine zg ?_
    exact ⟨rfl, A9 x ((i : Int).tmod 9) true, .inl ⟨x, _, true, Zf, ⟨jW.1, Q1⟩, rfl⟩, sE, hl⟩
   refine zg ?_
   exact ⟨rfl, A9 x ((i : Int).tmod 9) false, .inl ⟨x, _, false, Zf, ⟨jW.1, Q1⟩, rfl⟩, sE, hl⟩
  clear hl; rintro UR IZ ⟨s, hs, MI, hl⟩; refine AK MI ?_
  refine zg ?_; refine dL hl s.cells Tryz.underlying23 fun pW OA ZK hl => ?_; refine DX hl 0 rfl rfl (by simp) rfl rfl rfl rfl rfl rfl rfl Tryz.underlying23 Tryz.underlying23 rfl rfl aP (Bf (new := s.cells) ZK rfl) rfl rfl aP (by show R.length + 1 ≤ AQ; unfold AQ; omega) ?_; intro dU Ia hl
  obtain ⟨AT, rfl⟩ : ∃ AT, dU = .slice AT (R.length + 1) (R.length + 1) := AU.is (hl.gr _ aQ)
  obtain ⟨vn, kM⟩ : ∃ vn : Nat, s.value = (vn : Int) := ⟨s.value.toNat, by have := hs.val; omega⟩
  have Vh : 2 ≤ vn ∧ vn ≤ 6 := by have := hs.val; omega
  obtain ⟨R2, VJ⟩ : ∃ R2, R2 = R ++ [s] := ⟨_, rfl⟩
  have e1 : R.length + 1 = R2.length := by rw [VJ]; simp
  have hl : AB S [S1, S] Ia [(Dg, .cells s.cells 34 false true []), (B3, .cells (AP (mV [p, q, r, t])) 28 false true [])] [gR AT R2] := by
   rw [VJ, gR, EH]
   exact hl
  rw [e1]
  refine zA ?_
  have hq := Tb (a := FK y 504) (b := 72) Q1 SZ.1
  refine AV rfl (Bz hl 12 (.bool (((FK y 504).tdiv 72 == 0) && decide ((R2.length : Int) < 12))) ?_ rfl ?_)
  ·
   refine zg ?_; refine BH (d := 58) rfl (fun JS => ?_) (fun JS => ?_)
   ·
    refine zg ?_
    exact ⟨rfl, bl (by first | (simp [JS]; done) | (simp only [JS, Mk])), sB, hl⟩
   refine zg ?_
   exact ⟨rfl, bl (by first | (simp [JS]; done) | (simp only [JS, Mk])), sB, hl⟩
  intro Hs hl
  generalize vS : (((FK y 504).tdiv 72 == 0) && decide ((R2.length : Int) < 12)) = sO
  refine AV rfl (Bz hl 75 (.bool (sO && ((s.kind == 1) || decide (0 < Bb [p, q, r, t] vn)))) ?_ rfl ?_)
  ·
   refine zg ?_; refine BH (d := 65) rfl (fun Il => ?_) (fun Il => ?_)
   ·
    refine zg ?_; refine BH (d := 69) rfl (fun OS => ?_) (fun OS => ?_)
    ·
     refine zg ?_
     exact ⟨rfl, bl (by rw [Il, OS]; rfl), sB, hl⟩
    refine zg ?_
    rw [kM]
    refine zc hl rfl (y8 hm Vh) ?_; rintro v Lc Al rfl hl
    refine zg ?_
    exact ⟨rfl, bl (by rw [Il, OS]; rfl), sB, hl⟩
   refine zg ?_
   exact ⟨rfl, bl (by rw [Il]; rfl), sB, hl⟩
  intro Ld hl
  refine zg ?_
  constructor <;> intro KD
  ·
   rw [Bool.and_eq_true] at KD
   have hR4 : R2.length < 12 := by have := KD.1; rw [← vS, Bool.and_eq_true] at this; have := oTr this.2; omega
   have wv : C9 [p, q, r, t] s ≠ [] := AAS hs (by
    have h := KD.2
    rw [Bool.or_eq_true] at h
    rcases h with h | h
    ·exact .inl (eq_of_beq h)
    exact .inr (by rw [kM]; exact oTr h))
   refine zg ?_; refine rr rfl (Ak rfl rfl (v := FB.v) (by rfl)) ?_; refine dL hl FB.cells Tryz.underlying23 fun B78 Kt xi hl => ?_; refine DX hl 0 rfl rfl (by simp) rfl rfl rfl rfl rfl rfl rfl Tryz.underlying23 Tryz.underlying23 rfl rfl aP (Bf (new := FB.cells) xi rfl) rfl rfl aP (by show R2.length + 1 ≤ AQ; unfold AQ; omega) ?_; intro v79 eG hl
   obtain ⟨Cx, rfl⟩ : ∃ Cx, v79 = .slice Cx (R2.length + 1) (R2.length + 1) := AU.is (hl.gr _ aQ)
   refine zg ?_
   refine ⟨L.length - (i + 1), Q1, i + 1, Cx, R2 ++ [FB], Q1, rfl, ?_, ⟨by rw [ay]; show R2.length + 1 ≤ 12; omega, by rw [ay]; show i + 1 ≤ R2.length + 1; omega⟩, ⟨rfl, congrArg some (congrArg (fun n => Value.slice Cx n n) (by rw [ay]; rfl)), rfl, rfl, rfl, rfl, rfl, trivial⟩, ?_⟩
   ·rw [VJ]; exact (hR.app hs).dot hs wv (by rw [ay]; exact Nk)
   rw [gR, EH]; exact hl.tail
  refine zg ?_
  exact ⟨L.length - (i + 1), Q1, i + 1, AT, R2, Q1, rfl, by rw [VJ]; exact hR.app hs, ⟨Q1, Q1⟩, sE, hl.tail⟩
 refine zg ?_
 refine y1 rfl ⟨hl.AA, av, R, rfl, hR, P9, hl.gr _ aQ⟩
def CV (k : Int) : Int := bif decide (k < 1) || decide (k > 12) then 0 else bif (k == 1) || (k == 2) || (k == 4) then 1 else bif k == 3 then 2 else bif (k == 5) || (k == 6) || (k == 9) || (k == 10) then 3 else 4
def ER : Sg := ⟨7, 0, 0, 0, false, 0, false, false, 0, 0, 0, 0, false, 0, 0, 0, 3⟩
def Cs (p q r t : Int) (b : Bool) : Sg := ⟨5, 0, 0, 0, false, 0, false, false, p, q, r, t, b, 0, 0, 0, 0⟩
def Dz : Sg := ⟨11, 0, 0, 0, false, 0, false, false, 0, 0, 0, 0, false, 0, 0, 0, 0⟩
def T0 : Sg := ⟨12, 0, 0, 0, false, 0, false, false, 0, 0, 0, 0, false, 0, 0, 0, 0⟩
def TW : Sg := ⟨9, 0, 0, 0, false, 0, false, false, 0, 0, 0, 0, false, 0, 0, 0, 0⟩
def Ln (n : Int) : Sg := ⟨10, 0, 0, 0, false, 0, false, false, 0, 0, 0, 0, false, n, 0, 0, 0⟩
def TZ : Sg := ⟨6, 0, 0, 0, false, 0, false, false, 0, 0, 0, 0, false, 3, 2, 0, 0⟩
def PS (s : Sg) : Prop := s = ER ∨ s = Dz ∨ s = T0
def ES (s : Sg) : Prop := s = TW ∨ (∃ n, (2 ≤ n ∧ n ≤ 4) ∧ s = Ln n) ∨ s = TZ
def Em (l : Option Sg × Bool) (s : Sg) : Option Sg × Bool := bif CV s.kind == 4 then l else bif CV s.kind == 1 then (some s, l.2) else bif CV s.kind == 2 then (none, l.2) else (none, l.2 || (s.kind == 5))
def Df (C : List Sg) : Option Sg × Bool := C.foldl Em (none, false)
theorem JA (C : List Sg) (s : Sg) : Df (C ++ [s]) = Em (Df C) s := by unfold Df; rw [List.foldl_append]; rfl
def Step (p q r t : Int) (l : Option Sg × Bool) (s : Sg) : Prop := PS s ∨ (NX s ∧ l.2 = true) ∨ (∃ b, s = Cs p q r t b) ∨ (ES s ∧ l.2 = true) ∨ (s = FB ∧ l.2 = true ∧ ∃ x, l.1 = some x ∧ NX x ∧ C9 [p, q, r, t] x ≠ [])
def CA (p q r t : Int) (C : List Sg) : Prop := ∀ i s, nth C i = some s → Step p q r t (Df (C.take i)) s
theorem CA.nil {p q r t : Int} : CA p q r t [] := fun i s h => by cases h
theorem og {α : Type} {C : List α} {s : α} {i : Nat} (h : i ≤ C.length) : (C ++ [s]).take i = C.take i := by rw [List.take_append_of_le_length h]
theorem CA.app {p q r t : Int} {C : List Sg} {s : Sg} (h : CA p q r t C) (hs : Step p q r t (Df C) s) : CA p q r t (C ++ [s]) := fun i x hx => by
 rcases Vy hx with hx | ⟨rfl, rfl⟩
 ·rw [og (by have := CS hx; omega)]; exact h i x hx
 rw [og (Nat.le_refl _), List.take_length]; exact hs
theorem CA.start (p q r t : Int) : CA p q r t [ER, Cs p q r t false] := by
 have h1 : CA p q r t ([] ++ [ER]) := CA.nil.app (.inl (.inl rfl))
 have h2 : CA p q r t (([] ++ [ER]) ++ [Cs p q r t false]) := h1.app (.inr (.inr (.inl ⟨false, rfl⟩)))
 exact h2
theorem TU {s : Sg} (h : NX s) : (1 ≤ s.kind ∧ s.kind ≤ 12) ∧ CV s.kind = 1 := by
 rcases h with ⟨v, p, c, _, _, rfl⟩ | ⟨v, _, rfl⟩
 ·exact ⟨⟨by show (1 : Int) ≤ 1; decide, by show (1 : Int) ≤ 12; decide⟩, rfl⟩
 exact ⟨⟨by show (1 : Int) ≤ 2; decide, by show (2 : Int) ≤ 12; decide⟩, rfl⟩
theorem al {s : Sg} (h : PS s) : (1 ≤ s.kind ∧ s.kind ≤ 12) ∧ CV s.kind = 4 := by
 rcases h with rfl | rfl | rfl <;> exact ⟨by decide, rfl⟩
theorem Rk {s : Sg} (h : ES s) : (1 ≤ s.kind ∧ s.kind ≤ 12) ∧ CV s.kind = 3 ∧ (s.kind == 5) = false := by
 rcases h with rfl | ⟨n, _, rfl⟩ | rfl
 ·exact ⟨by decide, rfl, rfl⟩
 ·exact ⟨⟨by show (1 : Int) ≤ 10; decide, by show (10 : Int) ≤ 12; decide⟩, rfl, rfl⟩
 exact ⟨by decide, rfl, rfl⟩
theorem Wo {l : Option Sg × Bool} {s : Sg} (h : NX s) : Em l s = (some s, l.2) := by unfold Em; rw [(TU h).2]; rfl
theorem cv {l : Option Sg × Bool} {s : Sg} (h : PS s) : Em l s = l := by unfold Em; rw [(al h).2]; rfl
theorem AEN {l : Option Sg × Bool} {s : Sg} (h : ES s) : Em l s = (none, l.2) := by unfold Em; rw [(Rk h).2.1, (Rk h).2.2, Bool.or_false]; rfl
theorem Wn {l : Option Sg × Bool} {p q r t : Int} {b : Bool} : Em l (Cs p q r t b) = (none, true) := by
 show (none, l.2 || true) = _
 rw [Bool.or_true]
theorem oT {l : Option Sg × Bool} : Em l FB = (none, l.2) := rfl
def C7 (C : List Sg) : Nat := (C.filter fun s => (CV s.kind == 1) || (CV s.kind == 2)).length
theorem J8 (C : List Sg) (s : Sg) : C7 (C ++ [s]) = C7 C + (if (CV s.kind == 1) || (CV s.kind == 2) then 1 else 0) := by
 unfold C7
 rw [List.filter_append, ay]
 congr 1
 rw [List.filter_cons]
 split <;> rfl
def UX (R C : List Sg) (i : Nat) : Prop := (Df C).2 = true ∧ ∀ k x, i = k + 1 → nth R k = some x → NX x → (Df C).1 = some x
theorem UX.start (p q r t : Int) (R : List Sg) : UX R [ER, Cs p q r t false] 0 ∧ C7 [ER, Cs p q r t false] = 0 := ⟨⟨rfl, fun k x e => by omega⟩, rfl⟩
theorem oS {l : Option Sg × Bool} {s : Sg} (h : PS s) (hb : l.2 = true) : (Em l s).2 = true := by rw [cv h]; exact hb
theorem cq {l : Option Sg × Bool} {s : Sg} (h : ES s) (hb : l.2 = true) : (Em l s).2 = true := by rw [AEN h]; exact hb
theorem AEK {l : Option Sg × Bool} {p q r t : Int} {b : Bool} : (Em l (Cs p q r t b)).2 = true := by rw [Wn]
abbrev Lb (av : Option Addr) (C : List Sg) (fr : List (Nat × AD)) : Prop := OW (.slice av C.length C.length) 34 17 ((C.map Sg.cells).flatten) C.length fr
theorem AAq (p q r t : Int) : (ER.cells ++ (Cs p q r t false).cells).length = 2 * 17 := by rfl
theorem AAr (IU : Nat) (p q r t : Int) : Lb (some ⟨IU, 0, none⟩) [ER, Cs p q r t false] [(IU, .cells (ER.cells ++ (Cs p q r t false).cells) 34 true true [])] := by
 have e : (([ER, Cs p q r t false] : List Sg).map Sg.cells).flatten = ER.cells ++ (Cs p q r t false).cells := by simp only [List.map_cons, List.map_nil, List.flatten_cons, List.flatten_nil, List.append_nil]
 unfold Lb
 rw [e]
 have h := AAq p q r t
 generalize ER.cells ++ (Cs p q r t false).cells = c at h
 exact .inr ⟨IU, [], rfl, h, rfl, fun _ h => (List.not_mem_nil h).elim⟩
theorem ABB {P : Program} {t : TypeId} {xo yo : Operand} {a b : Int} (hb : b ≠ 0) : Fu P .quo t xo yo (.int .i64 a) (.int .i64 b) = some (.int .i64 (IntKind.i64.wrap (a.tdiv b))) := by
 show (if b = 0 then none else some (Value.int .i64 (IntKind.i64.wrap (a.tdiv b)))) = _
 rw [if_neg hb]
set_option maxHeartbeats 400000 in
theorem ADx (a : Option Addr) (cap : Nat) (L : List Int) (p q r t : Int) (hm : Ap p q r t = 0) (hF : Ad S) (hv : A5 S (.slice a L.length cap) L) : CC Tryz.prog KK 5 [mV [p, q, r, t], .slice a L.length cap, .int .i64 12] S (fun v S' => AG S S' ∧ ∃ av C, v = AM [.string C3, .slice av C.length C.length] ∧ CA p q r t C ∧ C.length ≤ 27 ∧ C7 C ≤ 12 ∧ ∃ fr, Lb av C fr ∧ AB S [S] S' fr []) := by
 refine ce 119 Tryz.func5 fun hl => ?_; refine zg ?_; refine bL hl fun B3 S3 hl => ?_; refine aL hl ([.string ⟨#[]⟩, .slice none 0 0]) fun B6 S6 hl => ?_; refine zg ?_; refine rr rfl (Ak rfl rfl (v := AM [.int .i64 0, .int .i64 3]) (by rfl)) ?_; refine rr rfl (Ak rfl rfl (v := ER.v) (by rfl)) ?_; refine zg ?_; refine rr rfl (Ak rfl rfl (v := (Cs p q r t false).v) (by rfl)) ?_; refine bG hl rfl rfl rfl rfl rfl Tryz.underlying23 rfl (c := ER.cells ++ (Cs p q r t false).cells) aP ?_; intro IU Ia hl; refine zg ?_
 refine zc hl rfl (ACn a cap L p q r t hm (hl.AA.3 hF) (hv.move (hl.since 0 rfl))) ?_; rintro v Hs Al ⟨ar, R, rfl, hR, P9, VS⟩ hl
 have YQ := CA.start p q r t
 have hl := hl.mark.perm (List.perm_append_comm (l₁ := [_]))
 have hO : Lb (some ⟨IU, 0, none⟩) [ER, Cs p q r t false] [(IU, .cells (ER.cells ++ (Cs p q r t false).cells) 34 true true [])] := AAr IU p q r t
 have Yc : Bh Hs (.slice ar R.length R.length) R := AU.ls (f := Sg.cells) (fun _ => rfl) VS
 refine zA ?_; refine zS ?_; refine AV rfl ?_; refine zS ?_; refine BF rfl ?_; refine AK (L' := [(10, .int .i64 (0 : Int)), (9, .bool false), (8, .slice ar R.length R.length), (7, .slice (some ⟨IU, 0, none⟩) [ER, Cs p q r t false].length [ER, Cs p q r t false].length), (6, ptrTo B6 0), (3, ptrTo B3 0), (1, .slice a L.length cap)]) sE ?_
 refine Au rfl (fun m Le S' => ∃ (i : Nat) (op : Bool) (av : Option Addr) (C : List Sg), i ≤ R.length ∧ m = R.length - i ∧ CA p q r t C ∧ C.length ≤ 2 + 2 * i ∧ (UX R C i ∧ C7 C = i) ∧ Af [(10, .int .i64 (i : Int)), (9, .bool op), (8, .slice ar R.length R.length), (7, .slice av C.length C.length), (6, ptrTo B6 0), (3, ptrTo B3 0), (1, .slice a L.length cap)] Le ∧ ∃ fr, Lb av C fr ∧ AB S [Hs, S] S' ([(B6, .cells [.string ⟨#[]⟩, .slice none 0 0] 25 false true []), (B3, .cells (AP (mV [p, q, r, t])) 28 false true [])] ++ (fr ++ [])) []) ?_ (m := R.length) ⟨0, false, _, _, Q1, Q1, YQ, by show 2 ≤ 2 + 2 * 0; omega, UX.start p q r t R, sE, _, hO, hl⟩
 clear hl; clear hO; rintro m Le S' ⟨i, op, av, C, hi, rfl, hC, YR, ⟨hb, VN⟩, AL, fr, hO, hl⟩; refine AK AL ?_
 refine zg ?_
 constructor <;> intro EX
 ·
  have AJ : i < R.length := dT EX
  obtain ⟨s, hs⟩ := Ac AJ
  obtain ⟨b1, o1, Ai, ha, _, AY, Ab⟩ := Yc.elem hs
  have jV := Mb (a := (i : Int)) (b := 3) Q1 Q1
  have C8 := Mb (a := (i : Int)) (b := 2) Q1 Q1
  refine Fl rfl ?_; refine AV rfl ?_; refine BF rfl ?_; refine zS ?_
  refine AV rfl (PV (fun Le S' => ∃ (AT : Option Addr) (C2 : List Sg) (ab : Bool), CA p q r t C2 ∧ C2.length ≤ C.length + 1 ∧ (s.kind = 3 → C2 = C) ∧ (Df C2).2 = true ∧ C7 C2 = C7 C ∧ Af [(10, .int .i64 (i : Int)), (9, .bool ab), (8, .slice ar R.length R.length), (7, .slice AT C2.length C2.length), (6, ptrTo B6 0), (3, ptrTo B3 0), (1, .slice a L.length cap)] Le ∧ ∃ fr, Lb AT C2 fr ∧ AB S [Hs, S] S' ([(B6, .cells [.string ⟨#[]⟩, .slice none 0 0] 25 false true []), (B3, .cells (AP (mV [p, q, r, t])) 28 false true [])] ++ (fr ++ [])) []) ?_ ?_)
  ·
   refine zg ?_
   refine zc hl rfl (oL a cap L i (hv.move (hl.since 1 rfl))) ?_; rintro v Ld Al rfl hl
   refine zA ?_; refine rr rfl (Ff rfl rfl rfl (ABB (by decide))) ?_
   refine zc hl rfl (cN _ 23 Q1 Q1) ?_; rintro v Kt Al rfl hl
   refine zg ?_; refine rr rfl (BC rfl rfl rfl) ?_; refine zg ?_
   constructor <;> intro HU
   ·
    have Bt : s.kind ≠ 3 := by intro e; rw [e] at HU; cases HU
    refine zg ?_
    constructor <;> intro NB
    ·
     refine zg ?_; refine rr rfl (Ak rfl rfl (v := (Dz).v) (by rfl)) ?_; refine dL hl ((Dz).cells) Tryz.underlying23 fun Bx Sx Hb hl => ?_; refine HB hl hO rfl rfl rfl rfl rfl rfl rfl Tryz.underlying23 Tryz.underlying23 rfl rfl (by decide) aP (Bf (new := (Dz).cells) Hb rfl) rfl rfl aP (by show C.length + 1 ≤ AQ; unfold AQ; omega) ?_; intro vx HP RJ Ea hl
     obtain ⟨Cx, rfl⟩ := Ea.is
     refine zg ?_
     refine ⟨rfl, Cx, C ++ [Dz], op, hC.app (.inl (.inr (.inl rfl))), by rw [ay]; exact Nat.le_refl _, (fun hk => absurd hk Bt), by rw [JA]; exact oS (.inr (.inl rfl)) hb.1, by rw [J8]; rfl, ⟨rfl, rfl, rfl, congrArg some (congrArg (fun n => Value.slice Cx n n) (by rw [ay]; rfl)), rfl, rfl, rfl, trivial⟩, HP, Ea.push, hl⟩
    refine zg ?_
    constructor <;> intro G0
    ·
     refine zg ?_; refine rr rfl (Ak rfl rfl (v := (T0).v) (by rfl)) ?_; refine dL hl ((T0).cells) Tryz.underlying23 fun Bx Sx Hb hl => ?_; refine HB hl hO rfl rfl rfl rfl rfl rfl rfl Tryz.underlying23 Tryz.underlying23 rfl rfl (by decide) aP (Bf (new := (T0).cells) Hb rfl) rfl rfl aP (by show C.length + 1 ≤ AQ; unfold AQ; omega) ?_; intro vx HP RJ Ea hl
     obtain ⟨Cx, rfl⟩ := Ea.is
     refine zg ?_
     refine ⟨rfl, Cx, C ++ [T0], op, hC.app (.inl (.inr (.inr rfl))), by rw [ay]; exact Nat.le_refl _, (fun hk => absurd hk Bt), by rw [JA]; exact oS (.inr (.inr rfl)) hb.1, by rw [J8]; rfl, ⟨rfl, rfl, rfl, congrArg some (congrArg (fun n => Value.slice Cx n n) (by rw [ay]; rfl)), rfl, rfl, rfl, trivial⟩, HP, Ea.push, hl⟩
    refine AV rfl (Bz hl 55 (.bool ((FK (IntKind.i64.wrap ((J3 L i).tdiv 7)) 23 == 2) && !op)) ?_ rfl ?_)
    ·
     refine zg ?_; refine BH (d := 58) rfl (fun hq => ?_) (fun hq => ?_)
     ·
      refine zg ?_; refine rr rfl (BC rfl rfl rfl) ?_; refine zg ?_
      exact ⟨rfl, bl (by rw [hq]; cases op <;> rfl), sB, hl⟩
     refine zg ?_
     exact ⟨rfl, bl (by rw [hq]; rfl), sB, hl⟩
    intro XJ hl
    refine zg ?_
    constructor <;> intro h55
    ·
     refine zg ?_; refine rr rfl (Ak rfl rfl (v := (TW).v) (by rfl)) ?_; refine dL hl ((TW).cells) Tryz.underlying23 fun Bx Sx Hb hl => ?_; refine HB hl hO rfl rfl rfl rfl rfl rfl rfl Tryz.underlying23 Tryz.underlying23 rfl rfl (by decide) aP (Bf (new := (TW).cells) Hb rfl) rfl rfl aP (by show C.length + 1 ≤ AQ; unfold AQ; omega) ?_; intro vx HP RJ Ea hl
     obtain ⟨Cx, rfl⟩ := Ea.is
     refine zg ?_
     refine ⟨rfl, Cx, C ++ [TW], true, hC.app (.inr (.inr (.inr (.inl ⟨.inl rfl, hb.1⟩)))), by rw [ay]; exact Nat.le_refl _, (fun hk => absurd hk Bt), by rw [JA]; exact cq (.inl rfl) hb.1, by rw [J8]; rfl, ⟨rfl, rfl, rfl, congrArg some (congrArg (fun n => Value.slice Cx n n) (by rw [ay]; rfl)), rfl, rfl, rfl, trivial⟩, HP, Ea.push, hl⟩
    refine AV rfl (Bz hl 66 (.bool (decide (FK (IntKind.i64.wrap ((J3 L i).tdiv 7)) 23 < 6) && op)) ?_ rfl ?_)
    ·
     refine zg ?_; refine BH (d := 69) rfl (fun hq => ?_) (fun hq => ?_)
     ·
      refine zg ?_
      exact ⟨rfl, bl (by rw [hq]; cases op <;> rfl), sB, hl⟩
     refine zg ?_
     exact ⟨rfl, bl (by rw [hq]; rfl), sB, hl⟩
    intro XJ hl
    refine zg ?_
    constructor <;> intro P2
    ·
     refine zg ?_; refine rr rfl (Ak rfl rfl (v := (Ln (2 + (i : Int).tmod 3)).v) (by rfl)) ?_; refine dL hl ((Ln (2 + (i : Int).tmod 3)).cells) Tryz.underlying23 fun Bx Sx Hb hl => ?_; refine HB hl hO rfl rfl rfl rfl rfl rfl rfl Tryz.underlying23 Tryz.underlying23 rfl rfl (by decide) aP (Bf (new := (Ln (2 + (i : Int).tmod 3)).cells) Hb rfl) rfl rfl aP (by show C.length + 1 ≤ AQ; unfold AQ; omega) ?_; intro vx HP RJ Ea hl
     obtain ⟨Cx, rfl⟩ := Ea.is
     refine zg ?_
     refine ⟨rfl, Cx, C ++ [Ln (2 + (i : Int).tmod 3)], false, hC.app (.inr (.inr (.inr (.inl ⟨.inr (.inl ⟨_, ⟨Q1, Q1⟩, rfl⟩), hb.1⟩)))), by rw [ay]; exact Nat.le_refl _, (fun hk => absurd hk Bt), by rw [JA]; exact cq (.inr (.inl ⟨_, ⟨Q1, Q1⟩, rfl⟩)) hb.1, by rw [J8]; rfl, ⟨rfl, rfl, rfl, congrArg some (congrArg (fun n => Value.slice Cx n n) (by rw [ay]; rfl)), rfl, rfl, rfl, trivial⟩, HP, Ea.push, hl⟩
    refine AV rfl (Bz hl 79 (.bool ((FK (IntKind.i64.wrap ((J3 L i).tdiv 7)) 23 == 6) && !op)) ?_ rfl ?_)
    ·
     refine zg ?_; refine BH (d := 82) rfl (fun hq => ?_) (fun hq => ?_)
     ·
      refine zg ?_; refine rr rfl (BC rfl rfl rfl) ?_; refine zg ?_
      exact ⟨rfl, bl (by rw [hq]; cases op <;> rfl), sB, hl⟩
     refine zg ?_
     exact ⟨rfl, bl (by rw [hq]; rfl), sB, hl⟩
    intro XJ hl
    refine zg ?_
    constructor <;> intro YO
    ·
     refine zg ?_; refine rr rfl (Ak rfl rfl (v := (Cs p q r t ((i : Int).tmod 2 == 0)).v) (by rfl)) ?_; refine dL hl ((Cs p q r t ((i : Int).tmod 2 == 0)).cells) Tryz.underlying23 fun Bx Sx Hb hl => ?_; refine HB hl hO rfl rfl rfl rfl rfl rfl rfl Tryz.underlying23 Tryz.underlying23 rfl rfl (by decide) aP (Bf (new := (Cs p q r t ((i : Int).tmod 2 == 0)).cells) Hb rfl) rfl rfl aP (by show C.length + 1 ≤ AQ; unfold AQ; omega) ?_; intro vx HP RJ Ea hl
     obtain ⟨Cx, rfl⟩ := Ea.is
     refine zg ?_
     refine ⟨rfl, Cx, C ++ [Cs p q r t ((i : Int).tmod 2 == 0)], op, hC.app (.inr (.inr (.inl ⟨_, rfl⟩))), by rw [ay]; exact Nat.le_refl _, (fun hk => absurd hk Bt), by rw [JA]; exact AEK, by rw [J8]; rfl, ⟨rfl, rfl, rfl, congrArg some (congrArg (fun n => Value.slice Cx n n) (by rw [ay]; rfl)), rfl, rfl, rfl, trivial⟩, HP, Ea.push, hl⟩
    refine AV rfl (Bz hl 94 (.bool ((FK (IntKind.i64.wrap ((J3 L i).tdiv 7)) 23 == 7) && !op)) ?_ rfl ?_)
    ·
     refine zg ?_; refine BH (d := 97) rfl (fun hq => ?_) (fun hq => ?_)
     ·
      refine zg ?_; refine rr rfl (BC rfl rfl rfl) ?_; refine zg ?_
      exact ⟨rfl, bl (by rw [hq]; cases op <;> rfl), sB, hl⟩
     refine zg ?_
     exact ⟨rfl, bl (by rw [hq]; rfl), sB, hl⟩
    intro XJ hl
    refine zg ?_
    constructor <;> intro h94
    ·
     refine zg ?_; refine rr rfl (Ak rfl rfl (v := (TZ).v) (by rfl)) ?_; refine dL hl ((TZ).cells) Tryz.underlying23 fun Bx Sx Hb hl => ?_; refine HB hl hO rfl rfl rfl rfl rfl rfl rfl Tryz.underlying23 Tryz.underlying23 rfl rfl (by decide) aP (Bf (new := (TZ).cells) Hb rfl) rfl rfl aP (by show C.length + 1 ≤ AQ; unfold AQ; omega) ?_; intro vx HP RJ Ea hl
     obtain ⟨Cx, rfl⟩ := Ea.is
     refine zg ?_
     refine ⟨rfl, Cx, C ++ [TZ], op, hC.app (.inr (.inr (.inr (.inl ⟨.inr (.inr rfl), hb.1⟩)))), by rw [ay]; exact Nat.le_refl _, (fun hk => absurd hk Bt), by rw [JA]; exact cq (.inr (.inr rfl)) hb.1, by rw [J8]; rfl, ⟨rfl, rfl, rfl, congrArg some (congrArg (fun n => Value.slice Cx n n) (by rw [ay]; rfl)), rfl, rfl, rfl, trivial⟩, HP, Ea.push, hl⟩
    refine zg ?_
    exact ⟨rfl, av, C, op, hC, Q1, fun _ => rfl, hb.1, rfl, sE, fr, hO, hl⟩
   refine zg ?_
   exact ⟨rfl, av, C, op, hC, Q1, fun _ => rfl, hb.1, rfl, sE, fr, hO, hl⟩
  clear hl; clear hO; rintro UR eG ⟨AT, C2, ab, R6, AFp, Bt, CB, vb, MI, fr, hO, hl⟩; refine AK MI ?_
  refine zg ?_; refine dL hl s.cells Tryz.underlying23 fun Bx Sx Hb hl => ?_; refine HB hl hO rfl rfl rfl rfl rfl rfl rfl Tryz.underlying23 Tryz.underlying23 rfl rfl (by decide) aP (Bf (new := s.cells) Hb rfl) rfl rfl aP (by show C2.length + 1 ≤ AQ; unfold AQ; omega) ?_; intro vx HP XH Ea hl
  obtain ⟨Cx, rfl⟩ := Ea.is
  refine zg ?_
  refine ⟨R.length - (i + 1), Q1, i + 1, ab, Cx, C2 ++ [s], Q1, rfl, ?_, by rw [ay]; show C2.length + 1 ≤ _; omega, ?_, ⟨rfl, rfl, rfl, congrArg some (congrArg (fun n => Value.slice Cx n n) (by rw [ay]; rfl)), rfl, rfl, rfl, trivial⟩, HP, Ea.push, hl⟩
  ·rcases hR i s hs with h2 | ⟨rfl, k, x, e, h3, h4, h5⟩
   ·exact R6.app (.inr (.inl ⟨h2, CB⟩))
   have e2 := Bt rfl
   subst e2
   exact R6.app (.inr (.inr (.inr (.inr ⟨rfl, CB, x, hb.2 k x e h5 h3, h3, h4⟩))))
  refine ⟨⟨?_, fun k x e hk hx => ?_⟩, ?_⟩
  ·rw [JA]
   rcases hR i s hs with h2 | ⟨rfl, _⟩
   ·rw [Wo h2]; exact CB
   rw [oT]; exact CB
  ·obtain rfl : i = k := by omega
   rw [hs] at hk
   cases hk
   rw [JA, Wo hx]
  rw [J8, vb, VN]
  rcases hR i s hs with h2 | ⟨rfl, _⟩
  ·rw [(TU h2).2]; rfl
  rfl
 have C8 : i = R.length := dF EX
 refine zg ?_
 constructor <;> intro AFl
 ·
  refine zg ?_; refine rr rfl (Ak rfl rfl (v := (Ln 2).v) (by rfl)) ?_; refine dL hl ((Ln 2).cells) Tryz.underlying23 fun Bx Sx Hb hl => ?_; refine HB hl hO rfl rfl rfl rfl rfl rfl rfl Tryz.underlying23 Tryz.underlying23 rfl rfl (by decide) aP (Bf (new := (Ln 2).cells) Hb rfl) rfl rfl aP (by show C.length + 1 ≤ AQ; unfold AQ; omega) ?_; intro vx HP XH Ea hl
  obtain ⟨Cx, rfl⟩ := Ea.is
  refine zg ?_; refine rr rfl (Ak rfl rfl (v := AM [.string C3, .slice Cx (C.length + 1) (C.length + 1)]) (by rfl)) ?_; refine sL hl 0 [.string C3, .slice Cx (C.length + 1) (C.length + 1)] fun XI hl => ?_; refine zg ?_
  refine CK (D9 rfl (lN (z := 2) (hl.get 0 rfl) rfl) rfl) ⟨hl.AA, Cx, C ++ [Ln 2], ?_, hC.app (.inr (.inr (.inr (.inl ⟨.inr (.inl ⟨2, ⟨Q1, Q1⟩, rfl⟩), hb.1⟩)))), by rw [ay]; show C.length + 1 ≤ 27; omega, by rw [J8, VN]; show i + 0 ≤ 12; omega, HP, Ea.push, (hl.tail.tail.marks (Us := [S]) fun T hT => cy hT).perm (.of_eq (List.append_nil _))⟩
  rw [ay]; rfl
 refine zg ?_; refine rr rfl (Ak rfl rfl (v := AM [.string C3, .slice av (C.length) (C.length)]) (by rfl)) ?_; refine sL hl 0 [.string C3, .slice av (C.length) (C.length)] fun XI hl => ?_; refine zg ?_
 refine CK (D9 rfl (lN (z := 2) (hl.get 0 rfl) rfl) rfl) ⟨hl.AA, av, C, rfl, hC, Q1, Q1, fr, hO, (hl.tail.tail.marks (Us := [S]) fun T hT => cy hT).perm (.of_eq (List.append_nil _))⟩
end Go.Proofs.YtnhalpkekpehpaaGreatDoor
namespace Go.Proofs.YtnhalpkekpehpaaGreatDoor
open Go.Cm Go
set_option maxRecDepth 100000
variable {S : St}
variable {nm : ByteArray} [Nonempty (GR nm)]
theorem AAm {s : Sg} (h : NX s) : one s = 0 ∧ s.kind ≠ 4 := by
 rcases h with ⟨v, p, c, hv, hp, rfl⟩ | ⟨v, hv, rfl⟩
 ·have key : ([(2, 0), (2, 1), (2, 2), (2, 3), (2, 4), (2, 5), (2, 6), (2, 7), (2, 8), (3, 0), (3, 1), (3, 2), (3, 3), (3, 4), (3, 5), (3, 6), (3, 7), (3, 8), (4, 0), (4, 1), (4, 2), (4, 3), (4, 4), (4, 5), (4, 6), (4, 7), (4, 8), (5, 0), (5, 1), (5, 2), (5, 3), (5, 4), (5, 5), (5, 6), (5, 7), (5, 8), (6, 0), (6, 1), (6, 2), (6, 3), (6, 4), (6, 5), (6, 6), (6, 7), (6, 8)] : List (Int × Int)).all (fun q => one (A9 q.1 q.2 true) == 0 && one (A9 q.1 q.2 false) == 0) = true := by kernel_rfl
  have xF : p = 0 ∨ p = 1 ∨ p = 2 ∨ p = 3 ∨ p = 4 ∨ p = 5 ∨ p = 6 ∨ p = 7 ∨ p = 8 := by omega
  have LK : v = 2 ∨ v = 3 ∨ v = 4 ∨ v = 5 ∨ v = 6 := by omega
  have hm : (v, p) ∈ ([(2, 0), (2, 1), (2, 2), (2, 3), (2, 4), (2, 5), (2, 6), (2, 7), (2, 8), (3, 0), (3, 1), (3, 2), (3, 3), (3, 4), (3, 5), (3, 6), (3, 7), (3, 8), (4, 0), (4, 1), (4, 2), (4, 3), (4, 4), (4, 5), (4, 6), (4, 7), (4, 8), (5, 0), (5, 1), (5, 2), (5, 3), (5, 4), (5, 5), (5, 6), (5, 7), (5, 8), (6, 0), (6, 1), (6, 2), (6, 3), (6, 4), (6, 5), (6, 6), (6, 7), (6, 8)] : List (Int × Int)) := by
   rcases LK with rfl | rfl | rfl | rfl | rfl <;> rcases xF with rfl | rfl | rfl | rfl | rfl | rfl | rfl | rfl | rfl <;> decide
  have := List.all_eq_true.1 key _ hm
  rw [Bool.and_eq_true] at this
  refine ⟨?_, by show (1 : Int) ≠ 4; decide⟩
  cases c with
  | true => simpa using this.1
  | false => simpa using this.2
 have LK : v = 2 ∨ v = 3 ∨ v = 4 ∨ v = 5 ∨ v = 6 := by omega
 refine ⟨?_, by show (2 : Int) ≠ 4; decide⟩
 rcases LK with rfl | rfl | rfl | rfl | rfl <;> kernel_rfl
theorem AAl : (KY.all fun M => match M with
 | [p, q, r, t] => (one (Cs p q r t true) == 0) && (one (Cs p q r t false) == 0)
 | _ => false) = true := by kernel_rfl
theorem Zx {p q r t : Int} {C : List Sg} (hm : Ap p q r t = 0) (hC : CA p q r t C) : ∀ s, s ∈ C → one s = 0 ∧ s.kind ≠ 4 := fun s hs => by
 obtain ⟨j, hj⟩ := KX hs
 rcases hC j s hj with (rfl | rfl | rfl) | ⟨h, _⟩ | ⟨b, rfl⟩ | ⟨rfl | ⟨n, hn, rfl⟩ | rfl, _⟩ | ⟨rfl, _⟩
 ·exact ⟨by kernel_rfl, by decide⟩
 ·exact ⟨by kernel_rfl, by decide⟩
 ·exact ⟨by kernel_rfl, by decide⟩
 ·exact AAm h
 ·refine ⟨?_, by show (5 : Int) ≠ 4; decide⟩
  have h := List.all_eq_true.1 AAl _ (MM hm)
  simp only [Bool.and_eq_true, beq_iff_eq] at h
  cases b with
  | true => exact h.1
  | false => exact h.2
 ·exact ⟨by kernel_rfl, by decide⟩
 ·obtain rfl | rfl | rfl : n = 2 ∨ n = 3 ∨ n = 4 := by omega
  all_goals exact ⟨by kernel_rfl, by show (10 : Int) ≠ 4; decide⟩
 ·exact ⟨by kernel_rfl, by decide⟩
 exact ⟨by kernel_rfl, by decide⟩
theorem oJ (a : Option Addr) (cap : Nat) (C : List Sg) (_ : Gl S) (hn : C.length ≤ 400) (hC : ∀ s, s ∈ C → one s = 0 ∧ s.kind ≠ 4) (hv : Bh S (.slice a C.length cap) C) : CC Tryz.prog KK 47 [AM [.string nm, .slice a C.length cap]] S (fun v S' => AG S S' ∧ v = AN [.int .i64 0, .int .i64 0]) := by
 refine ce 67 Tryz.func47 fun hl => ?_; refine zg ?_; refine bL hl fun B1 S1 hl => ?_; refine zg ?_; refine dh rfl ?_; refine zg ?_
 refine zc hl rfl zC ?_; rintro v S2 Al rfl hl
 refine rr rfl (BC rfl rfl rfl) ?_; refine zg ?_
 constructor <;> intro H3
 ·
  exfalso
  have := oTr H3
  omega
 refine zg ?_; refine dg rfl ?_; refine zg ?_; refine AK (L' := [(19, .int .i64 (0 : Int)), (18, .int .i64 C.length), (4, .bool false), (3, .int .i64 0), (2, .int .i64 0), (1, ptrTo B1 0)]) sE ?_
 refine Au rfl (fun m Le S' => ∃ i : Nat, i ≤ C.length ∧ m = C.length - i ∧ Af [(19, .int .i64 (i : Int)), (18, .int .i64 C.length), (4, .bool false), (3, .int .i64 0), (2, .int .i64 0), (1, ptrTo B1 0)] Le ∧ AB S [S] S' [(B1, .cells [.string nm, .slice a C.length cap] 25 false true [])] []) ?_ (m := C.length) ⟨0, Q1, Q1, sE, hl⟩
 clear hl; rintro m Le S' ⟨i, hi, rfl, AL, hl⟩; refine AK AL ?_
 refine zg ?_
 constructor <;> intro HS
 ·
  have AJ : i < C.length := dT HS
  obtain ⟨s, hs⟩ := Ac AJ
  obtain ⟨h1, h4⟩ := hC s (Am hs)
  obtain ⟨b1, o1, Ai, ha, _, AY, Ab⟩ := hv.elem hs
  refine zg ?_; refine aL hl ((FB.cells.set 0 (.int .i64 0))) fun B6 S6 hl => ?_; refine sL hl 0 s.cells fun S7 hl => ?_; refine zg ?_
  refine zc hl rfl (AD2 s h1) ?_; rintro v S8 Al rfl hl
  rw [h1]
  refine zg ?_
  constructor <;> intro NA
  ·
   refine zg ?_
   exact ⟨C.length - (i + 1), Q1, i + 1, Q1, rfl, sE, hl.tail⟩
  exfalso
  have : s.kind = 4 := by simpa using NA
  exact h4 this
 refine zg ?_
 refine WZ (y2 rfl rfl ⟨hl.AA, rfl⟩)
theorem AD6 (a : Option Addr) (cap : Nat) (C : List Sg) (hn : C.length ≤ 400) (hv : Bh S (.slice a C.length cap) C) : CC Tryz.prog KK 75 [.slice a C.length cap] S (fun v S' => AG S S' ∧ ∃ av, v = .slice av C.length C.length ∧ AU S S' (gR av C)) := by
 refine ce 8 Tryz.func75 fun hl => ?_; refine zg ?_; refine rr rfl (Ff rfl rfl rfl (eq_nil Tryz.underlying23)) ?_; refine zg ?_
 constructor <;> intro h4
 ·
  obtain rfl := Vs hv h4
  refine zg ?_
  exact (z1 rfl ⟨hl.AA, none, rfl, .inl ⟨rfl, rfl, rfl⟩⟩)
 refine zg ?_; refine Qn hl 17 rfl rfl rfl rfl rfl Tryz.underlying23 rfl (c := []) aP rfl ?_; intro v5 S1 hl; refine zg ?_; refine DX hl 0 rfl rfl (by simp) rfl rfl rfl rfl rfl rfl rfl Tryz.underlying23 Tryz.underlying23 rfl rfl aP (hv.move (hl.since 0 rfl)).cells (Da (f := Sg.cells) (z := 17) (fun _ => rfl) _) (K6 (f := Sg.cells) (fun _ => rfl) _) aP (by show 0 + C.length ≤ AQ; unfold AQ; omega) ?_; intro v7 S2 hl
 obtain ⟨av, rfl⟩ : ∃ x, v7 = .slice x (0 + C.length) (0 + C.length) := AU.is (hl.gr _ aQ)
 have hg := hl.gr _ aQ
 rw [Nat.zero_add, List.nil_append] at hg
 refine zg ?_
 refine y1 rfl ⟨hl.AA, av, by rw [Nat.zero_add], hg⟩
end Go.Proofs.YtnhalpkekpehpaaGreatDoor
namespace Go.Proofs.YtnhalpkekpehpaaGreatDoor
open Go.Cm Go
set_option maxRecDepth 100000
variable {S : St}
theorem kh {k : Int} (h1 : 1 ≤ k) (h2 : k ≤ 12) : k = 1 ∨ k = 2 ∨ k = 3 ∨ k = 4 ∨ k = 5 ∨ k = 6 ∨ k = 7 ∨ k = 8 ∨ k = 9 ∨ k = 10 ∨ k = 11 ∨ k = 12 := by omega
def fh : List Value := [.int .i64 0, .int .i64 1, .int .i64 1, .int .i64 2, .int .i64 1, .int .i64 3, .int .i64 3, .int .i64 4, .int .i64 4, .int .i64 3, .int .i64 3, .int .i64 4, .int .i64 4]
def Gc (S : St) : Prop := 1 < S.size ∧ S.get 1 = some (.cells fh 0 false false [])
theorem Gc.AA {S T : St} (h : Gc S) (k : AG S T) : Gc T := ⟨Nat.lt_of_lt_of_le h.1 k.1, (k.2 1 h.1).trans h.2⟩
theorem sq {k : Int} (h1 : 1 ≤ k) (h2 : k ≤ 12) : nth fh (0 + k.toNat * 1) = some (.int .i64 (CV k)) := by
 rcases kh h1 h2 with rfl | rfl | rfl | rfl | rfl | rfl | rfl | rfl | rfl | rfl | rfl | rfl <;> rfl
theorem AD3 (k : Int) (hG : Gc S) (h : 1 ≤ k ∧ k ≤ 12) : CC Tryz.prog KK 72 [.int .i64 k] S (fun v S' => AG S S' ∧ v = AN [.int .i64 (CV k), .int .i64 0]) := by
 refine ce 13 Tryz.func72 fun hl => ?_; refine zS ?_; refine AV rfl ?_; refine AV rfl (Bz hl 9 (.bool (decide (k < 1) || decide (k > 12))) ?_ rfl ?_)
 ·
  refine zg ?_; refine BH (d := 6) rfl (fun h6 => ?_) (fun h6 => ?_)
  ·
   refine zg ?_
   exact ⟨rfl, bl (by first | (simp [h6]; done) | (simp only [h6, Mk])), sB, hl⟩
  refine zg ?_
  exact ⟨rfl, bl (by first | (simp [h6]; done) | (simp only [h6, Mk])), sB, hl⟩
 intro S1 hl
 refine zg ?_
 constructor <;> intro h9
 ·
  exfalso
  simp at h9
  omega
 refine zg ?_; refine rr rfl (Qm rfl rfl rfl (kU (z := 1) Tryz.underlying155 aP ⟨Q1, Q1⟩)) ?_; refine rr rfl (Ba rfl rfl (l1 (hG.AA hl.AA).2 (sq h.1 h.2))) ?_; refine zg ?_
 refine y2 rfl rfl ⟨hl.AA, rfl⟩
theorem oK (s : Sg) (hG : Gc S) (h : 1 ≤ s.kind ∧ s.kind ≤ 12) : CC Tryz.prog KK 60 [s.v] S (fun v S' => AG S S' ∧ v = .int .i64 (CV s.kind)) := by
 refine ce 12 Tryz.func60 fun hl => ?_; refine zg ?_; refine bL hl fun B1 S1 hl => ?_; refine zg ?_
 refine zc hl rfl (AD3 s.kind (hG.AA hl.AA) h) ?_; rintro v S2 Al rfl hl
 refine zg ?_
 refine y1 rfl ⟨hl.AA, rfl⟩
end Go.Proofs.YtnhalpkekpehpaaGreatDoor
namespace Go.Proofs.YtnhalpkekpehpaaGreatDoor
open Go.Cm Go
set_option maxRecDepth 100000
variable {S : St}
variable {nm : ByteArray} [Nonempty (GR nm)]
theorem AD0 (a : Option Addr) (cap : Nat) (C : List Sg) (hF : Ad S) (hG : Gl S) (hn : C.length ≤ 400) (hC : ∀ s, s ∈ C → one s = 0 ∧ s.kind ≠ 4) (hv : Bh S (.slice a C.length cap) C) : CC Tryz.prog KK 62 [AM [.string nm, .slice a C.length cap]] S (fun v S' => AG S S' ∧ ∃ av, v = AN [AM [.string nm, .slice av C.length C.length], .int .i64 0] ∧ AU S S' (gR av C)) := by
 refine ce 102 Tryz.func62 fun hl => ?_; refine zg ?_; refine bL hl fun B1 S1 hl => ?_; refine aL hl ([.string ⟨#[]⟩, .slice none 0 0]) fun B2 S2 hl => ?_; refine zg ?_; refine dh rfl ?_; refine zg ?_
 refine zc hl rfl (oJ a cap C (hG.AA hl.AA) hn hC (hv.move (hl.since 0 rfl))) ?_; rintro v S3 Al rfl hl
 refine zg ?_; refine A4 (idx := [0, 1, 2, 3, 6, 4, 5, 7]) rfl aP aP ?_; refine zg ?_; refine IM hF hl rfl rfl rfl rfl rfl (z := [.string ⟨#[]⟩, .slice none 0 0]) aP ?_; intro B6 S6 hl
 have MD := hl
 refine zp hl rfl (AD6 a cap C hn (hv.move (hl.since 0 rfl))) ?_; rintro v S7 NQ ⟨av, rfl, hg⟩ hl
 have Yw : AU S S7 (gR av C) := AU.base hg MD.AA.1
 have Ov : Bh S7 (.slice av C.length C.length) C := AU.ls (f := Sg.cells) (fun _ => rfl) hg
 refine ⟨zt, ?_⟩
 have hl := (hl.mark).EP Yw
 refine pr rfl (Ak rfl rfl (v := AM [.string nm, .slice av C.length C.length]) (by rfl)) ?_
 refine pL hl 0 [.string nm, .slice av C.length C.length] (h := fun S8 hl => ⟨zt, ?_⟩)
 refine zg ?_; refine dg rfl ?_; refine AV rfl ?_; refine BF rfl ?_; refine AK (L' := [(8, .int .i64 (0 : Int)), (7, .int .i64 0), (6, ptrTo B6 0), (3, .int .i64 0), (2, ptrTo B2 0), (1, ptrTo B1 0)]) sE ?_
 refine Au rfl (fun m Le S' => ∃ i : Nat, i ≤ C.length ∧ m = C.length - i ∧ Af [(8, .int .i64 (i : Int)), (7, .int .i64 0), (6, ptrTo B6 0), (3, .int .i64 0), (2, ptrTo B2 0), (1, ptrTo B1 0)] Le ∧ AB S [S7, S] S' [(B6, .cells [.string nm, .slice av C.length C.length] 25 false true []), (B2, .cells [.string ⟨#[]⟩, .slice none 0 0] 25 false true []), (B1, .cells [.string nm, .slice a C.length cap] 25 false true [])] [gR av C]) ?_ (m := C.length) ⟨0, Q1, Q1, sE, hl⟩
 clear hl; rintro m Le S' ⟨i, hi, rfl, AL, hl⟩; refine AK AL ?_
 refine zg ?_
 constructor <;> intro NA
 ·
  have AJ : i < C.length := dT NA
  obtain ⟨s, hs⟩ := Ac AJ
  obtain ⟨h1, h4⟩ := hC s (Am hs)
  obtain ⟨b1, o1, Ai, ha, _, AY, Ab⟩ := Ov.elem hs
  refine zg ?_
  constructor <;> intro HU
  ·
   refine zg ?_
   exact ⟨C.length - (i + 1), Q1, i + 1, Q1, rfl, sE, hl⟩
  exfalso
  have : s.kind = 4 := by simpa using HU
  exact h4 this
 refine zg ?_; refine sL hl 1 [.string nm, .slice av C.length C.length] fun S9 hl => ?_; refine zg ?_
 refine WZ (CK (D9 rfl (lN (z := 2) (hl.get 1 rfl) rfl) (A7 rfl rfl)) ⟨hl.AA, av, rfl, hl.gr _ aQ⟩)
end Go.Proofs.YtnhalpkekpehpaaGreatDoor
namespace Go.Proofs.YtnhalpkekpehpaaGreatDoor
open Go.Cm Go
set_option maxRecDepth 100000
variable {S : St}
def De (f t a b c d : Int) : List Value := [.int .i64 f, .int .i64 t, .int .i64 a, .int .i64 b, .int .i64 c, .int .i64 d, .int .i64 0, .int .i64 0]
abbrev Nt := Nat × Sg
def nd (s : Sg) : Bool := (CV s.kind == 1) || (CV s.kind == 2)
def Bw : List Sg → Nat → List Nt → List (List Nt)
 | [], _, cur => bif cur.isEmpty then [] else [cur]
 | s :: r, i, cur => bif nd s then Bw r (i + 1) (cur ++ [(i, s)]) else bif CV s.kind == 3 then (bif cur.isEmpty then [] else [cur]) ++ Bw r (i + 1) [] else Bw r (i + 1) cur
def A2 (C : List Sg) : List (List Nt) := Bw C 0 []
def EW (cur : List Nt) : Nat := match cur with
 | [] => 0
 | e :: _ => e.1
def toN (cur : List Nt) : Nat := match cur.getLast? with
 | none => 0
 | some e => e.1 + 1
def HO (cur : List Nt) : Int := bif cur.isEmpty then -1 else (EW cur : Int)
def toI (cur : List Nt) : Int := (toN cur : Int)
theorem dD (cur : List Nt) (e : Nt) : toN (cur ++ [e]) = e.1 + 1 := by unfold toN; rw [List.getLast?_concat]
theorem YE {cur : List Nt} (e : Nt) (h : cur ≠ []) : EW (cur ++ [e]) = EW cur := by
 cases cur with
 | nil => exact (h rfl).elim
 | cons x l => rfl
theorem YB {cur : List Nt} (h : cur ≠ []) : HO cur = (EW cur : Int) := by
 cases cur with
 | nil => exact (h rfl).elim
 | cons x l => rfl
theorem Ua {cur : List Nt} {e : Nt} : cur ++ [e] ≠ [] := by simp
theorem Tr {s : Sg} {r : List Sg} {i : Nat} {cur : List Nt} (h : nd s = true) : Bw (s :: r) i cur = Bw r (i + 1) (cur ++ [(i, s)]) := by rw [Bw, h]; rfl
theorem bj {s : Sg} {r : List Sg} {i : Nat} {cur : List Nt} (h : CV s.kind = 3) (hc : cur ≠ []) : Bw (s :: r) i cur = cur :: Bw r (i + 1) [] := by
 have h1 : nd s = false := by unfold nd; rw [h]; rfl
 rw [Bw, h1, h]
 cases cur with
 | nil => exact (hc rfl).elim
 | cons x l => rfl
theorem WU {s : Sg} {r : List Sg} {i : Nat} (h : CV s.kind = 3) : Bw (s :: r) i [] = Bw r (i + 1) [] := by
 have h1 : nd s = false := by unfold nd; rw [h]; rfl
 rw [Bw, h1, h]
 rfl
theorem bm {s : Sg} {r : List Sg} {i : Nat} {cur : List Nt} (h : CV s.kind = 4) : Bw (s :: r) i cur = Bw r (i + 1) cur := by
 have h1 : nd s = false := by unfold nd; rw [h]; rfl
 rw [Bw, h1, h]
 rfl
theorem nV {i : Nat} {cur : List Nt} (hc : cur ≠ []) : Bw [] i cur = [cur] := by
 cases cur with
 | nil => exact (hc rfl).elim
 | cons x l => rfl
def Jq (C : List Sg) (a : Nat) : Nat → List Nt
 | 0 => []
 | n + 1 => Jq C a n ++ (match nth C (a + n) with
  | some s => bif nd s then [(a + n, s)] else []
  | none => [])
structure Ju (p q r t : Int) (C : List Sg) (i : Nat) (cur : List Nt) : Prop where
 Qx : cur ≠ [] → cur = Jq C (EW cur) (i - EW cur) ∧ cur = Jq C (EW cur) (toN cur - EW cur)
 bd : cur ≠ [] → EW cur < toN cur ∧ toN cur ≤ i
 run : Br [p, q, r, t] (cur.map Prod.snd)
 last : ∀ x, (Df (C.take i)).1 = some x → nth (cur.map Prod.snd) (cur.length - 1) = some x ∧ cur ≠ []
structure RL (p q r t : Int) (C : List Sg) (cur : List Nt) : Prop where
 ne : cur ≠ []
 Qx : cur = Jq C (EW cur) (toN cur - EW cur)
 bd : EW cur < toN cur ∧ toN cur ≤ C.length
 run : Br [p, q, r, t] (cur.map Prod.snd)
theorem AAi {s : Sg} (h : NX s) : nd s = true := by unfold nd; rw [(TU h).2]; rfl
theorem Q7 {p q r t : Int} {l : Option Sg × Bool} {s : Sg} (h : Step p q r t l s) : (1 ≤ s.kind ∧ s.kind ≤ 12) ∧ ((CV s.kind = 1 ∧ l.2 = true ∧ NX s) ∨ (CV s.kind = 2 ∧ l.2 = true ∧ s = FB ∧ ∃ x, l.1 = some x ∧ NX x ∧ C9 [p, q, r, t] x ≠ []) ∨ (CV s.kind = 3 ∧ ((∃ b, s = Cs p q r t b) ∨ (l.2 = true ∧ (s.kind == 5) = false))) ∨ CV s.kind = 4) := by
 rcases h with h | ⟨h, h2⟩ | ⟨b, rfl⟩ | ⟨h, h2⟩ | ⟨rfl, h2, h3⟩
 ·exact ⟨(al h).1, .inr (.inr (.inr (al h).2))⟩
 ·exact ⟨(TU h).1, .inl ⟨(TU h).2, h2, h⟩⟩
 ·exact ⟨⟨by show (1 : Int) ≤ 5; decide, by show (5 : Int) ≤ 12; decide⟩, .inr (.inr (.inl ⟨rfl, .inl ⟨b, rfl⟩⟩))⟩
 ·exact ⟨(Rk h).1, .inr (.inr (.inl ⟨(Rk h).2.1, .inr ⟨h2, (Rk h).2.2⟩⟩))⟩
 exact ⟨by decide, .inr (.inl ⟨rfl, h2, rfl, h3⟩)⟩
theorem Qy {C : List Sg} {a i : Nat} {s : Sg} (h : nth C i = some s) (ha : a ≤ i) : Jq C a (i + 1 - a) = Jq C a (i - a) ++ (bif nd s then [(i, s)] else []) := by
 rw [show i + 1 - a = (i - a) + 1 by omega]
 show Jq C a (i - a) ++ (match nth C (a + (i - a)) with
  | some s => bif nd s then [(a + (i - a), s)] else []
  | none => []) = _
 rw [show a + (i - a) = i by omega, h]
theorem Ju.nil {p q r t : Int} {C : List Sg} {i : Nat} (h : (Df (C.take i)).1 = none) : Ju p q r t C i [] := ⟨fun h => (h rfl).elim, fun h => (h rfl).elim, Br.nil, fun x hx => by rw [h] at hx; cases hx⟩
theorem IQ {C : List Sg} {i : Nat} {s : Sg} (h : nth C i = some s) : Df (C.take (i + 1)) = Em (Df (C.take i)) s := by rw [CJ h, JA]
theorem Ju.nd {p q r t : Int} {C : List Sg} {i : Nat} {cur : List Nt} {s : Sg} (h : Ju p q r t C i cur) (hs : nth C i = some s) (Ag : Step p q r t (Df (C.take i)) s) (hn : nd s = true) : Ju p q r t C (i + 1) (cur ++ [(i, s)]) := by
 have KG : EW (cur ++ [(i, s)]) ≤ i := by
  by_cases hc : cur = []
  ·subst hc; exact Nat.le_refl i
  rw [YE _ hc]; have := h.bd hc; omega
 have Vd : cur ++ [(i, s)] = Jq C (EW (cur ++ [(i, s)])) (i + 1 - EW (cur ++ [(i, s)])) := by
  by_cases hc : cur = []
  ·subst hc
   show [(i, s)] = Jq C i (i + 1 - i)
   rw [Qy hs (Nat.le_refl i), Nat.sub_self, hn]
   rfl
  rw [YE _ hc, Qy hs (by have := h.bd hc; omega), hn, ← (h.Qx hc).1]
  rfl
 have em : (cur ++ [(i, s)]).map Prod.snd = cur.map Prod.snd ++ [s] := by rw [mAp]; rfl
 have el : (cur ++ [(i, s)]).length - 1 = (cur.map Prod.snd).length := by rw [ay, cw]; rfl
 refine ⟨fun _ => ⟨Vd, by rw [dD]; exact Vd⟩, fun _ => by rw [dD]; exact ⟨by show _ < i + 1; omega, Nat.le_refl _⟩, ?_, fun x hx => ?_⟩
 ·rw [em]
  rcases Q7 Ag with ⟨_, ⟨_, _, h2⟩ | ⟨_, _, rfl, x, h2, h3, h4⟩ | ⟨h2, _⟩ | h2⟩
  ·exact h.run.app h2
  ·exact h.run.dot h3 h4 (by rw [cw]; exact (h.last x h2).1)
  ·unfold Go.Proofs.YtnhalpkekpehpaaGreatDoor.nd at hn; rw [h2] at hn; cases hn
  unfold Go.Proofs.YtnhalpkekpehpaaGreatDoor.nd at hn; rw [h2] at hn; cases hn
 rw [IQ hs] at hx
 refine ⟨?_, Ua⟩
 rw [em, el]
 rcases Q7 Ag with ⟨_, ⟨_, _, h2⟩ | ⟨_, _, rfl, _⟩ | ⟨h2, _⟩ | h2⟩
 ·rw [Wo h2] at hx
  cases hx
  exact Nk
 ·rw [oT] at hx; cases hx
 ·unfold Go.Proofs.YtnhalpkekpehpaaGreatDoor.nd at hn; rw [h2] at hn; cases hn
 unfold Go.Proofs.YtnhalpkekpehpaaGreatDoor.nd at hn; rw [h2] at hn; cases hn
theorem Ju.ps {p q r t : Int} {C : List Sg} {i : Nat} {cur : List Nt} {s : Sg} (h : Ju p q r t C i cur) (hs : nth C i = some s) (hc : CV s.kind = 4) : Ju p q r t C (i + 1) cur := by
 have hn : Go.Proofs.YtnhalpkekpehpaaGreatDoor.nd s = false := by unfold Go.Proofs.YtnhalpkekpehpaaGreatDoor.nd; rw [hc]; rfl
 have Rl : Em (Df (C.take i)) s = Df (C.take i) := by unfold Em; rw [hc]; rfl
 refine ⟨fun h0 => ⟨?_, (h.Qx h0).2⟩, fun h0 => ?_, h.run, fun x hx => h.last x (by rw [IQ hs, Rl] at hx; exact hx)⟩
 ·rw [Qy hs (by have := h.bd h0; omega), hn]
  exact ((h.Qx h0).1).trans (List.append_nil _).symm
 have := h.bd h0; omega
theorem Ju.sec {p q r t : Int} {C : List Sg} {i : Nat} {cur : List Nt} (h : Ju p q r t C i cur) (hi : i ≤ C.length) (hc : cur ≠ []) : RL p q r t C cur := ⟨hc, (h.Qx hc).2, by have := h.bd hc; omega, h.run⟩
theorem PJ {C : List Sg} {i : Nat} {s : Sg} (hs : nth C i = some s) (hc : CV s.kind = 3) : (Df (C.take (i + 1))).1 = none := by
 rw [IQ hs]
 unfold Em
 rw [hc]
 rfl
theorem Qv {p q r t : Int} {C : List Sg} (hC : CA p q r t C) : ∀ (n i : Nat) (cur : List Nt), i + n = C.length → Ju p q r t C i cur → ∀ c, c ∈ Bw (C.drop i) i cur → RL p q r t C c
 | 0, i, cur, hi, h, c, hc => by
  rw [List.drop_eq_nil_of_le Q1] at hc
  by_cases h0 : cur = []
  ·subst h0; exact (List.not_mem_nil hc).elim
  rw [nV h0] at hc
  rw [List.mem_singleton.1 hc]
  exact h.sec Q1 h0
 | n + 1, i, cur, hi, h, c, hc => by
  obtain ⟨s, hs⟩ := Ac (l := C) (i := i) Q1
  rw [D4 hs] at hc
  have Ag := hC i s hs
  rcases Q7 Ag with ⟨_, ⟨h1, _⟩ | ⟨h1, _⟩ | ⟨h1, _⟩ | h1⟩
  ·have hn : nd s = true := by unfold nd; rw [h1]; rfl
   rw [Tr hn] at hc
   exact Qv hC n (i + 1) _ Q1 (h.nd hs Ag hn) c hc
  ·have hn : nd s = true := by unfold nd; rw [h1]; rfl
   rw [Tr hn] at hc
   exact Qv hC n (i + 1) _ Q1 (h.nd hs Ag hn) c hc
  ·by_cases h0 : cur = []
   ·subst h0
    rw [WU h1] at hc
    exact Qv hC n (i + 1) _ Q1 (.nil (PJ hs h1)) c hc
   rw [bj h1 h0] at hc
   rcases List.mem_cons.1 hc with rfl | hc
   ·exact h.sec Q1 h0
   exact Qv hC n (i + 1) _ Q1 (.nil (PJ hs h1)) c hc
  rw [bm h1] at hc
  exact Qv hC n (i + 1) _ Q1 (h.ps hs h1) c hc
theorem bn {p q r t : Int} {C : List Sg} (hC : CA p q r t C) : ∀ c, c ∈ A2 C → RL p q r t C c := by
 have h := Qv hC C.length 0 [] Q1 (.nil rfl)
 rw [List.drop_zero] at h
 exact h
theorem WY : ∀ (C : List Sg) (i : Nat) (cur : List Nt), (Bw C i cur).length ≤ C.length + 1
 | [], i, cur => by
  unfold Bw
  cases cur.isEmpty
  ·exact Nat.le_refl 1
  exact Nat.zero_le _
 | s :: r, i, cur => by
  unfold Bw
  have h1 := WY r (i + 1) (cur ++ [(i, s)])
  have h2 := WY r (i + 1) []
  have h3 := WY r (i + 1) cur
  cases nd s
  ·cases CV s.kind == 3
   ·show (Bw r (i + 1) cur).length ≤ r.length + 1 + 1; omega
   show ((bif cur.isEmpty then [] else [cur]) ++ Bw r (i + 1) []).length ≤ r.length + 1 + 1
   rw [ay]
   cases cur.isEmpty
   ·show 1 + _ ≤ _; omega
   show 0 + _ ≤ _; omega
  show (Bw r (i + 1) (cur ++ [(i, s)])).length ≤ r.length + 1 + 1; omega
noncomputable def fO : Code := Tryz.f43.body.getD .skip
noncomputable def rf : Code := pA (pB (pA (pB (pB (pB (pB fO))))))
structure Fr where
 lb : Nat
 db : Nat
 bp : Nat
 b1 : Nat
 b2 : Nat
 b3 : Nat
 b4 : Nat
 t : Tm
 c1 : List Value
 c2 : List Value
 cp : List Value
 e4 : Value
noncomputable def Fr.lo (z : Fr) : Nat × AD := (z.lb, .loop .ready none 25 z.t (BO rf) (BL rf) (BN rf) z.db)
noncomputable def Fr.l (z : Fr) (av : Option Addr) (k : Nat) : List (Nat × AD) := [(z.b4, .cells [z.e4] 36 false true []), (z.b3, .cells [.slice av k k] 68 false true []), (z.b2, .cells z.c2 25 false true []), (z.b1, .cells z.c1 25 false true []), z.lo, (z.db, .defs false), (z.bp, .cells z.cp 25 false true [])]
def gS (av : Option Addr) (D : List (List Value)) : Gr := ⟨.slice av D.length D.length, 90, 8, D.flatten, D.length⟩
theorem nJ {Sb T S : St} (z : Fr) (hz : Has 25 ⟨25, z.t, []⟩ [(3, ptrTo z.b3 0)]) {own : List (Nat × AD)} (ho : (own.all fun p => !LM p.2) = true) {av : Option Addr} {D : List (List Value)} {f g ma mb mc md : Int} (hD : D.length ≤ 1000) (hl : AB Sb [T] S (own ++ z.l av D.length) [gS av D]) :
  CT Tryz.prog KK (.fn (.yield z.lb) #[]) [AM (De f g ma mb mc md)] S fun r S' => r = .returned (.bool true) ∧ ∃ DR, AB Sb [T] S' (own ++ z.l DR (D ++ [De f g ma mb mc md]).length) [gS DR (D ++ [De f g ma mb mc md])] := by
 have hl := hl.perm List.perm_append_comm
 refine Lq (hl.get 4 rfl) hz rfl rfl ?_; refine N1 rfl aP ?_; refine aL hl [.int .i64 0, .int .i64 0, .int .i64 0, .int .i64 0, .int .i64 0, .int .i64 0, .int .i64 0, .int .i64 0] fun B5 S5 hl => ?_; refine Qo hl 0 rfl rfl rfl rfl rfl rfl rfl aP rfl ?_; intro S1 hl; refine MW rfl ?_
 refine ⟨rfl, _, _, _, _, _, _, _, hl.get 5 rfl, ?_⟩
 have hl := hl.put (k := 5) rfl rfl (.loop .busy none 25 z.t (BO rf) (BL rf) (BN rf) z.db)
 refine BF rfl ?_; refine N1 rfl aP ?_; refine MX rfl rfl rfl rfl (Ba rfl rfl (Jh aP (hl.get 2 rfl) rfl)) ?_; refine MX rfl rfl rfl rfl (Ba rfl rfl (KV (z := 8) aP aP (hl.get 0 rfl) rfl)) ?_; refine dL hl (De f g ma mb mc md) Tryz.underlying68 fun B21 S1 xQ hl => ?_; refine DX hl 0 rfl ho (by simp) rfl rfl rfl rfl rfl rfl rfl Tryz.underlying68 Tryz.underlying68 rfl rfl aP (Bf (new := De f g ma mb mc md) xQ rfl) rfl rfl aP (by show D.length + 1 ≤ AQ; unfold AQ; omega) ?_; intro v22 S1 hl
 obtain ⟨AT, rfl⟩ : ∃ AT, v22 = .slice AT (D.length + 1) (D.length + 1) := AU.is (hl.gr _ aQ)
 refine Qo hl 2 rfl rfl rfl rfl rfl rfl rfl aP rfl ?_; intro S1 hl; refine MW rfl ?_
 refine ⟨_, _, _, _, _, _, _, _, hl.get 5 rfl, rfl, AT, ?_⟩
 have hl := (hl.put (k := 5) rfl rfl (.loop .ready none 25 z.t (BO rf) (BL rf) (BN rf) z.db)).tail
 have eD : (D ++ [De f g ma mb mc md]).length = D.length + 1 := by simp
 have eF : (D ++ [De f g ma mb mc md]).flatten = D.flatten ++ De f g ma mb mc md := by simp
 unfold gS
 rw [eD, eF]
 exact AB.perm (l := z.l AT (D.length + 1) ++ own) hl List.perm_append_comm
theorem qU {P : Program} {t : TypeId} {z : Value} {d : TypeDesc} (hu : P.underlying t = some d) (hd : AAd d = true) (hz : zeroV P t = some z) : RB P .nilIface t true = some (.tuple #[z, .bool false]) := by
 unfold RB
 rw [hu]
 cases d <;> first | (simp [hz]; done) | cases hd
noncomputable def sP : Code := Tryz.f63.body.getD .skip
def A6 (e q : Int) (r : Bool) : Cm.Mode := Cm.Mode.A6 [{ v := .iface 126 (AM [.int .i64 e, .int .i64 q]), recovered := r }]
theorem tJ {Sb S : St} {Ts : List St} {gs : List Gr} {rest : List (Nat × AD)} {b2 b3 b4 : Nat} {c2 : List Value} {v3 v4 : Value} (_ : Ad Sb) (hl : AB Sb Ts S ((b4, .cells [v4] 36 false true []) :: (b3, .cells [v3] 68 false true []) :: (b2, .cells c2 25 false true []) :: rest) gs) (h2 : ∃ x y, c2 = [x, y]) :
  DD Tryz.prog KK 63 [ptrTo b2 0, ptrTo b3 0, ptrTo b4 0] .ret S fun C0 S' => C0 = .ret ∧ AB Sb Ts S' ((b4, .cells [v4] 36 false true []) :: (b3, .cells [v3] 68 false true []) :: (b2, .cells c2 25 false true []) :: rest) gs := by
 obtain ⟨x2, y2, rfl⟩ := h2
 refine tI (c := sP) (n := 15) Tryz.func63 rfl aP rfl rfl ?_; refine pG rfl ?_; refine pF rfl aP ?_; refine ABO rfl rfl rfl rfl rfl ?_; refine Td rfl rfl rfl rfl rfl (ABH rfl rfl (qU (z := AM [.int .i64 0, .int .i64 0]) Tryz.underlying126 rfl aP)) ?_; refine Td rfl rfl rfl rfl rfl (Tc rfl rfl) ?_; iterate 2 refine Td rfl rfl rfl rfl rfl (bE rfl rfl rfl) ?_
 refine ABN hl rfl rfl rfl rfl rfl (z := [.int .i64 0, .int .i64 0]) aP ?_; intro B3 S3 hl; refine ABQ hl 0 rfl rfl rfl rfl rfl rfl rfl aP (c' := [.int .i64 0, .int .i64 0]) rfl ?_; intro S1 hl; refine Td rfl rfl rfl rfl rfl (mq rfl rfl) ?_; refine mw rfl ?_; refine pG rfl ?_; refine pF rfl aP ?_; refine Td rfl rfl rfl rfl rfl (Tc rfl rfl) ?_; refine mw rfl ?_; refine AFU rfl rfl (fun GZ => ?_) (fun GZ => ?_)
 ·cases GZ
 refine AFV rfl ?_
 exact ⟨⟨_, rfl⟩, rfl, hl.tail⟩
end Go.Proofs.YtnhalpkekpehpaaGreatDoor
namespace Go.Proofs.YtnhalpkekpehpaaGreatDoor
open Go.Cm Go
set_option maxRecDepth 100000
variable {S : St}
variable {nm : ByteArray} [Nonempty (GR nm)]
abbrev Q4 := Int × Int × Int × Int
def z4 : Q4 := (0, 0, 0, 0)
def IN (p q r t : Int) (cur : List Nt) : List Value := De (HO cur) (toI cur) p q r t
theorem oR {l : Option Sg × Bool} {s : Sg} (hc : CV s.kind = 3) : (Em l s).2 = (l.2 || (s.kind == 5)) := by unfold Em; rw [hc]; rfl
theorem cl {l : Option Sg × Bool} {s : Sg} (hc : nd s = true) : (Em l s).2 = l.2 := by
 unfold nd at hc
 unfold Em
 cases h4 : CV s.kind == 4 with
 | true => rfl
 | false =>
  cases h1 : CV s.kind == 1 with
  | true => rfl
  | false =>
   cases h2 : CV s.kind == 2 with
   | true => rfl
   | false => rw [h1, h2] at hc; cases hc
structure SI (p q r t : Int) (X : List Sg) (i : Nat) (cur : List Nt) (u w : Q4) (kb : Bool) : Prop where
 lo : (Df (X.take i)).2 = false → cur = [] ∧ u = z4 ∧ w = z4
 hi : (Df (X.take i)).2 = true → kb = true ∧ u = (p, q, r, t) ∧ w = (p, q, r, t)
 pv : ∀ x, (Df (X.take i)).1 = some x → cur ≠ []
theorem iA {cur : List Nt} (h : decide (HO cur < 0) = true) : cur = [] := by
 cases cur with
 | nil => rfl
 | cons x l => have := oTr h; have h2 : HO (x :: l) = (x.1 : Int) := rfl; omega
theorem uH {cur : List Nt} (h : decide (HO cur < 0) = false) : cur ≠ [] := by
 rintro rfl
 cases h
theorem iB {cur : List Nt} (h : decide (HO cur ≥ 0) = true) : cur ≠ [] := by
 rintro rfl
 cases h
theorem iC {cur : List Nt} (h : decide (HO cur ≥ 0) = false) : cur = [] := by
 cases cur with
 | nil => rfl
 | cons x l => have := oFa h; have h2 : HO (x :: l) = (x.1 : Int) := rfl; omega
theorem iD {cur : List Nt} (e : Nt) (h : cur ≠ []) : HO (cur ++ [e]) = HO cur := by rw [YB h, YB Ua, YE e h]
theorem toI_push (cur : List Nt) (i : Nat) (s : Sg) : toI (cur ++ [(i, s)]) = (i : Int) + 1 := by unfold toI; rw [dD]; show ((i + 1 : Nat) : Int) = _; omega
theorem gC {P : Program} {rs : List ResultVar} {L : Env} {S : St} {vs : List Value} {Q : Ending → St → Prop} (h : Dy P L S rs = some vs) (hq : Q (.returned (AN vs)) S) : dq P rs Q .normal L S := ⟨vs, h, hq⟩
def p4 (p q r t : Int) (Sb T : St) (z : Fr) (X : List Sg) (e : Ending) (S' : St) : Prop := e = .returned (AN []) ∧ ∃ av D, D = (A2 X).map (IN p q r t) ∧ AB Sb [T] S' (z.l av D.length) [gS av D]
omit [Nonempty (GR nm)] in
theorem AD7 {Sb T : St} (z : Fr) (hz : Has 25 ⟨25, z.t, []⟩ [(3, ptrTo z.b3 0)]) (p q r t : Int) (aX : Option Addr) (cX : Nat) (X : List Sg) (hX : CA p q r t X) (vd : z.cp = [.string nm, .slice aX X.length cX]) (hn : X.length ≤ 60) (hG : Gc Sb) (hv : Bh T (.slice aX X.length cX) X) {av0 : Option Addr} (hl : AB Sb [T] S (z.l av0 ([] : List (List Value)).length) [gS av0 []]) : CE Tryz.prog KK 77 [.func (.yield z.lb) #[] #[], ptrTo z.bp 0] S (p4 p q r t Sb T z X) := by
 refine sc (c := (cb Tryz.f77)) (n := 72) Tryz.func77 rfl rfl rfl aP rfl rfl ?_; refine zg ?_; refine aL hl [.int .i64 0, .int .i64 0, .int .i64 0, .int .i64 0] fun B3 S3 hl => ?_; refine zg ?_; refine rr rfl (Ak rfl rfl (v := AM (De (-1) 0 0 0 0 0)) (by rfl)) ?_; refine aL hl [.int .i64 0, .int .i64 0, .int .i64 0, .int .i64 0, .int .i64 0, .int .i64 0, .int .i64 0, .int .i64 0] fun B5 S5 hl => ?_; refine sL hl 0 (De (-1) 0 0 0 0 0) fun S6 hl => ?_; refine zg ?_; refine rr rfl (Ba rfl rfl (l1 (hl.get 8 rfl) (by rw [vd]; rfl))) ?_; refine zg ?_
 refine AK (L' := [(12, .int .i64 0), (11, .int .i64 X.length), (10, .slice aX X.length cX), (5, ptrTo B5 0), (4, .bool false), (3, ptrTo B3 0), (0, .func (.yield z.lb) #[] #[])]) sE ?_
 refine Au rfl (fun m Le S' => ∃ (i : Nat) (cur : List Nt) (u w : Q4) (kb : Bool) (av : Option Addr) (D : List (List Value)), i ≤ X.length ∧ m = X.length - i ∧ SI p q r t X i cur u w kb ∧ (D.length ≤ i ∧ D ++ (Bw (X.drop i) i cur).map (IN p q r t) = (A2 X).map (IN p q r t)) ∧ Af [(12, .int .i64 (i : Int)), (11, .int .i64 X.length), (10, .slice aX X.length cX), (5, ptrTo B5 0), (4, .bool kb), (3, ptrTo B3 0), (0, .func (.yield z.lb) #[] #[])] Le ∧ AB Sb [T] S' ([(B5, .cells (De (HO cur) (toI cur) u.1 u.2.1 u.2.2.1 u.2.2.2) 90 false true []), (B3, .cells [.int .i64 w.1, .int .i64 w.2.1, .int .i64 w.2.2.1, .int .i64 w.2.2.2] 28 false true [])] ++ z.l av D.length) [gS av D]) ?_ (m := X.length) ⟨0, [], z4, z4, false, av0, [], Q1, Q1, ⟨fun _ => ⟨rfl, rfl, rfl⟩, fun h => (by cases h), fun x h => (by cases h)⟩, ⟨by simp, rfl⟩, sE, hl⟩
 clear hl; rintro m Le S' ⟨i, cur, u, w, kb, av, D, hi, rfl, hI, ⟨JT, A8⟩, AL, hl⟩; refine AK AL ?_
 refine zg ?_
 constructor <;> intro Ga
 ·
  have AJ : i < X.length := dT Ga
  obtain ⟨s, hs⟩ := Ac AJ
  have Ag := hX i s hs
  obtain ⟨NP, Cd⟩ := Q7 Ag
  rw [D4 hs] at A8
  obtain ⟨b1, o1, Ai, ha, _, AY, Ab⟩ := hv.elem hs
  refine zg ?_; refine aL hl ((FB.cells.set 0 (.int .i64 0))) fun B7 S7 hl => ?_; refine zg ?_; refine sL hl 0 s.cells fun S8 hl => ?_; refine zg ?_
  refine zc hl rfl (oK s (hG.AA hl.AA) NP) ?_; rintro v S9 Al rfl hl
  rcases Cd with ⟨hc, h2, ME⟩ | ⟨hc, h2, rfl, x, GG, DU, QS⟩ | ⟨hc, Y9⟩ | hc
  ·
   obtain ⟨rfl, rfl, rfl⟩ := hI.hi h2
   have CW : nd s = true := AAi ME
   rw [hc]
   refine zg ?_; refine rr rfl (BC rfl rfl rfl) ?_; refine zg ?_
   constructor <;> intro DG
   ·
    obtain rfl := iA DG
    refine zg ?_; refine sL hl 1 (De (i : Int) 0 p q r t) fun Ld hl => ?_; refine zg ?_; refine sL hl 1 (De (i : Int) ((i : Int) + 1) p q r t) fun Kt hl => ?_; refine zg ?_
    exact ⟨X.length - (i + 1), Q1, i + 1, [(i, s)], (p, q, r, t), (p, q, r, t), true, av, D, Q1, rfl, ⟨fun h => (by rw [IQ hs, cl CW, h2] at h; cases h), fun _ => ⟨rfl, rfl, rfl⟩, fun x hx => List.cons_ne_nil _ _⟩, ⟨Q1, by rw [← A8, Tr CW]; rfl⟩, sE, hl.tail⟩
   have AR := uH DG
   refine zg ?_; refine sL hl 1 (De (HO cur) ((i : Int) + 1) p q r t) fun Kt hl => ?_; refine zg ?_
   exact ⟨X.length - (i + 1), Q1, i + 1, cur ++ [(i, s)], (p, q, r, t), (p, q, r, t), true, av, D, Q1, rfl, ⟨fun h => (by rw [IQ hs, cl CW, h2] at h; cases h), fun _ => ⟨rfl, rfl, rfl⟩, fun x hx => Ua⟩, ⟨Q1, by rw [← A8, Tr CW]⟩, sE, by rw [iD _ AR, toI_push]; exact hl.tail⟩
  ·
   obtain ⟨rfl, rfl, rfl⟩ := hI.hi h2
   have CW : nd FB = true := rfl
   have AR := hI.pv x GG
   rw [hc]
   refine zg ?_
   constructor <;> intro K7
   ·
    exact absurd (iA K7) AR
   refine zg ?_; refine sL hl 1 (De (HO cur) ((i : Int) + 1) p q r t) fun Kt hl => ?_; refine zg ?_
   exact ⟨X.length - (i + 1), Q1, i + 1, cur ++ [(i, FB)], (p, q, r, t), (p, q, r, t), true, av, D, Q1, rfl, ⟨fun h => (by rw [IQ hs, cl CW, h2] at h; cases h), fun _ => ⟨rfl, rfl, rfl⟩, fun x hx => Ua⟩, ⟨Q1, by rw [← A8, Tr CW]⟩, sE, by rw [iD _ AR, toI_push]; exact hl.tail⟩
  ·
   rw [hc]
   refine zg ?_
   cases h2 : (Df (X.take i)).2 with
   | false =>
    obtain ⟨rfl, rfl, rfl⟩ := hI.lo h2
    obtain ⟨b, rfl⟩ : ∃ b, s = Cs p q r t b := by
     rcases Y9 with h | ⟨h, _⟩
     ·exact h
     rw [h2] at h; cases h
    refine zg ?_; refine sL hl 2 [.int .i64 p, .int .i64 q, .int .i64 r, .int .i64 t] fun Ld hl => ?_; refine zg ?_; refine rr rfl (Ak rfl rfl (v := AM (De (-1) 0 p q r t)) (by rfl)) ?_; refine sL hl 1 (De (-1) 0 p q r t) fun Kt hl => ?_; refine zg ?_
    exact ⟨X.length - (i + 1), Q1, i + 1, [], (p, q, r, t), (p, q, r, t), true, av, D, Q1, rfl, ⟨fun h => (by rw [IQ hs, Wn] at h; cases h), fun _ => ⟨rfl, rfl, rfl⟩, fun x hx => by rw [PJ hs hc] at hx; cases hx⟩, ⟨Q1, by rw [← A8, WU hc]⟩, sE, hl.tail⟩
   | true =>
    obtain ⟨rfl, rfl, rfl⟩ := hI.hi h2
    refine BH (d := 52) rfl (fun P0 => ?_) (fun P0 => ?_)
    ·
     have AR := iB P0
     refine zg ?_
     refine I8 rfl rfl rfl rfl rfl rfl rfl (Es (nJ z hz (own := [(B7, .cells s.cells 34 false true []), (B5, .cells (De (HO cur) (toI cur) p q r t) 90 false true []), (B3, .cells [.int .i64 p, .int .i64 q, .int .i64 r, .int .i64 t] 28 false true [])]) rfl Q1 hl) ?_); rintro e Lc ⟨rfl, AT, hl⟩
     refine zg ?_; refine rr rfl (BC rfl rfl rfl) ?_
     rcases Y9 with ⟨b, rfl⟩ | ⟨_, FZ⟩
     ·
      refine zg ?_; refine sL hl 2 [.int .i64 p, .int .i64 q, .int .i64 r, .int .i64 t] fun Ld hl => ?_; refine zg ?_; refine rr rfl (Ak rfl rfl (v := AM (De (-1) 0 p q r t)) (by rfl)) ?_; refine sL hl 1 (De (-1) 0 p q r t) fun Kt hl => ?_; refine zg ?_
      exact ⟨X.length - (i + 1), Q1, i + 1, [], (p, q, r, t), (p, q, r, t), true, AT, _, Q1, rfl, ⟨fun h => (by rw [IQ hs, Wn] at h; cases h), fun _ => ⟨rfl, rfl, rfl⟩, fun x hx => by rw [PJ hs hc] at hx; cases hx⟩, ⟨(by simp; omega), by rw [← A8, bj hc AR, List.append_assoc]; rfl⟩, sE, hl.tail⟩
     refine zg ?_
     constructor <;> intro G6
     ·rw [FZ] at G6; cases G6
     refine zg ?_; refine rr rfl (Ak rfl rfl (v := AM (De (-1) 0 p q r t)) (by rfl)) ?_; refine sL hl 1 (De (-1) 0 p q r t) fun Kt hl => ?_; refine zg ?_
     exact ⟨X.length - (i + 1), Q1, i + 1, [], (p, q, r, t), (p, q, r, t), true, AT, _, Q1, rfl, ⟨fun h => (by rw [IQ hs, oR hc, h2, Bool.true_or] at h; cases h), fun _ => ⟨rfl, rfl, rfl⟩, fun x hx => by rw [PJ hs hc] at hx; cases hx⟩, ⟨(by simp; omega), by rw [← A8, bj hc AR, List.append_assoc]; rfl⟩, sE, hl.tail⟩
    obtain rfl := iC P0
    rcases Y9 with ⟨b, rfl⟩ | ⟨_, FZ⟩
    ·
     refine zg ?_; refine sL hl 2 [.int .i64 p, .int .i64 q, .int .i64 r, .int .i64 t] fun Ld hl => ?_; refine zg ?_; refine rr rfl (Ak rfl rfl (v := AM (De (-1) 0 p q r t)) (by rfl)) ?_; refine sL hl 1 (De (-1) 0 p q r t) fun Kt hl => ?_; refine zg ?_
     exact ⟨X.length - (i + 1), Q1, i + 1, [], (p, q, r, t), (p, q, r, t), true, av, D, Q1, rfl, ⟨fun h => (by rw [IQ hs, Wn] at h; cases h), fun _ => ⟨rfl, rfl, rfl⟩, fun x hx => by rw [PJ hs hc] at hx; cases hx⟩, ⟨Q1, by rw [← A8, WU hc]⟩, sE, hl.tail⟩
    refine zg ?_
    constructor <;> intro G6
    ·rw [FZ] at G6; cases G6
    refine zg ?_; refine rr rfl (Ak rfl rfl (v := AM (De (-1) 0 p q r t)) (by rfl)) ?_; refine sL hl 1 (De (-1) 0 p q r t) fun Kt hl => ?_; refine zg ?_
    exact ⟨X.length - (i + 1), Q1, i + 1, [], (p, q, r, t), (p, q, r, t), true, av, D, Q1, rfl, ⟨fun h => (by rw [IQ hs, oR hc, h2, Bool.true_or] at h; cases h), fun _ => ⟨rfl, rfl, rfl⟩, fun x hx => by rw [PJ hs hc] at hx; cases hx⟩, ⟨Q1, by rw [← A8, WU hc]⟩, sE, hl.tail⟩
  have Rl : Em (Df (X.take i)) s = Df (X.take i) := by unfold Em; rw [hc]; rfl
  rw [hc]
  refine zg ?_
  exact ⟨X.length - (i + 1), Q1, i + 1, cur, u, w, kb, av, D, Q1, rfl, ⟨fun h => hI.lo (by rw [IQ hs, Rl] at h; exact h), fun h => hI.hi (by rw [IQ hs, Rl] at h; exact h), fun x h => hI.pv x (by rw [IQ hs, Rl] at h; exact h)⟩, ⟨Q1, by rw [← A8, bm hc]⟩, sE, hl.tail⟩
 rw [List.drop_eq_nil_of_le (dF Ga)] at A8
 refine zg ?_
 constructor <;> intro P4
 ·
  refine zg ?_
  have AR := iB P4
  obtain ⟨rfl, rfl, rfl⟩ : kb = true ∧ u = (p, q, r, t) ∧ w = (p, q, r, t) := by
   cases h2 : (Df (X.take i)).2 with
   | false => exact absurd (hI.lo h2).1 AR
   | true => exact hI.hi h2
  refine I8 rfl rfl rfl rfl rfl rfl rfl (Es (nJ z hz (own := [(B5, .cells (De (HO cur) (toI cur) p q r t) 90 false true []), (B3, .cells [.int .i64 p, .int .i64 q, .int .i64 r, .int .i64 t] 28 false true [])]) rfl Q1 hl) ?_); rintro e Lc ⟨rfl, AT, hl⟩
  refine zg ?_
  exact gC rfl ⟨rfl, AT, _, by rw [← A8, nV AR]; rfl, hl.tail.tail⟩
 obtain rfl := iC P4
 refine zg ?_
 exact gC rfl ⟨rfl, av, D, by rw [← A8]; exact (List.append_nil _).symm, hl.tail.tail⟩
theorem sb {P : Program} {K : A1} {f : FuncId} {args : List Value} {S : St} {Q : Value → St → Prop} (h : CE P K f args S fun r S' => ∃ v, r = .returned v ∧ Q v S') : CC P K f args S Q := by
 obtain ⟨m, r, S', h1, v, rfl, h2⟩ := h
 exact ⟨m, v, S', h1, h2⟩
theorem AD1 (x y : Value) : CC Tryz.prog KK 64 [AM [x, y]] S (fun v S' => AG S S' ∧ ∃ B, v = .func (.func 77) #[] #[ptrTo B 0] ∧ S.size ≤ B ∧ B < S'.size ∧ S'.get B = some (.cells [x, y] 25 false true [])) := by
 refine ce 4 Tryz.func64 fun hl => ?_; refine zg ?_; refine bL hl fun B1 S1 hl => ?_; refine zg ?_; refine rr rfl (Fg rfl rfl rfl) ?_; refine zg ?_
 refine y1 rfl ⟨hl.AA, ⟨_, rfl, (hl.at_ _ _ aQ).2.1, (hl.at_ _ _ aQ).2.2, hl.get 0 rfl⟩⟩
theorem oI (a : Option Addr) (cap : Nat) (C : List Sg) (p q r t : Int) (hn : C.length ≤ 60) (hX : CA p q r t C) (hC : ∀ s, s ∈ C → one s = 0 ∧ s.kind ≠ 4) (hG : Gl S) (Cq : Gc S) (hF : Ad S) (hv : Bh S (.slice a C.length cap) C) : CC Tryz.prog KK 43 [AM [.string nm, .slice a C.length cap]] S (fun v S' => AG S S' ∧ ∃ aX av D, v = AN [AM [.string nm, .slice aX C.length C.length], .slice av D.length D.length, .int .i64 0] ∧ Bh S' (.slice aX C.length C.length) C ∧ D = (A2 C).map (IN p q r t) ∧ AU S S' (gS av D)) := by
 refine sb (sd (c := fO) (n := 25) Tryz.func43 rfl rfl rfl aP rfl rfl ?_)
 have hl := Jv.start S
 refine N3 rfl (N2 rfl (BE ?_))
 refine N1 rfl aP ?_; refine bL hl fun B1 S1 hl => ?_; refine aL hl ([.string ⟨#[]⟩, .slice none 0 0]) fun B2 S2 hl => ?_; refine aL hl [.slice none 0 0] fun B3 S3 hl => ?_; refine aL hl [.int .i64 0] fun B4 S4 hl => ?_; refine MW rfl ?_
 refine N3 rfl (N2 rfl (BE ?_))
 refine N1 rfl aP ?_; refine MX rfl rfl rfl rfl (Ba rfl rfl (KV (z := 2) aP aP (hl.get 3 rfl) rfl)) ?_
 refine zc hl rfl (AD0 a cap C (hl.AA.3 hF) (hG.AA hl.AA) Q1 hC (hv.move (hl.since 0 rfl))) ?_; rintro v S5 FZ ⟨aX, rfl, Yw⟩ hl
 have Ov : Bh S5 (.slice aX C.length C.length) C := AU.ls (f := Sg.cells) (fun _ => rfl) Yw
 have hl := hl.mark
 refine MX rfl rfl rfl rfl (Tc rfl rfl) ?_; iterate 2 refine MX rfl rfl rfl rfl (bE rfl rfl rfl) ?_
 refine Qo hl 2 rfl rfl rfl rfl rfl rfl rfl aP rfl ?_; intro S1 hl; refine Qo hl 0 rfl rfl rfl rfl rfl rfl rfl aP rfl ?_; intro S1 hl; refine MW rfl ?_; refine N3 rfl ?_
 refine N3 rfl (N2 rfl (BE ?_))
 refine N1 rfl aP ?_; refine MX rfl rfl rfl rfl (Ba rfl rfl (Jh aP (hl.get 0 rfl) rfl)) ?_; refine MX rfl rfl rfl rfl (Ff rfl rfl rfl rfl) ?_; refine MW rfl ?_; refine AFY rfl rfl (fun CL => by cases CL) (fun CL => ?_)
 refine N2 rfl (BE (Fl rfl ?_))
 refine N3 rfl ?_; refine AFZ rfl rfl aP ?_; refine ABl rfl rfl rfl rfl (Fg rfl rfl rfl) ?_; refine ABi rfl rfl rfl rfl rfl rfl ?_; refine ABj rfl ?_; refine N3 rfl ?_
 refine N3 rfl (N2 rfl (BE ?_))
 refine N1 rfl aP ?_; refine MX rfl rfl rfl rfl (Ba rfl rfl (KV (z := 2) aP aP (hl.get 2 rfl) rfl)) ?_
 have DT := hl
 refine my hl rfl rfl rfl rfl rfl rfl rfl (AD1 _ _) ?_; rintro v S6 G6 ⟨bp, rfl, EJ, CB, Io⟩ hl
 have hl := hl.add DT.below DT.AA EJ CB Io
 refine MW rfl ?_
 refine N2 rfl (Kl rfl (Mh rfl rfl rfl aP ?_))
 intro tm ht
 have hl := ((hl.new (.defs false)).new (.loop .ready none 25 tm (BO rf) (BL rf) (BN rf) S6.size)).marks (Us := [S5]) (fun T hT => by rw [List.mem_singleton.1 hT]; exact aQ)
 have hl := hl.perm (List.perm_append_comm (l₁ := [_, _, _]))
 have hl := hl.EP (g := gS none []) (.inl ⟨rfl, rfl, rfl⟩)
 let z : Fr := ⟨S6.size + 1, S6.size, bp, B1, B2, B3, B4, tm, [.string nm, .slice a C.length cap], [.string nm, .slice aX C.length C.length], [.string nm, .slice aX C.length C.length], .int .i64 0⟩
 refine Es (Lp (AD7 z (ht.sub (L' := [(3, ptrTo B3 0)]) sE) p q r t aX C.length C hX rfl hn Cq Ov (av0 := none) hl)) ?_
 rintro e7 S7 ⟨rfl, av, D, ud, hl⟩
 refine ⟨_, _, _, _, _, _, _, _, hl.get 4 rfl, rfl, ?_⟩
 have hl := hl.put (k := 4) rfl rfl (.loop .exhausted none 25 tm (BO rf) (BL rf) (BN rf) S6.size)
 refine N3 rfl (N2 rfl (BE ?_))
 refine A4 (idx := [0, 1, 2, 3, 4]) rfl aP aP ?_; refine bV rfl rfl rfl rfl rfl (Ba rfl rfl (KV (z := 2) aP aP (hl.get 2 rfl) rfl)) ?_; refine bV rfl rfl rfl rfl rfl (Ba rfl rfl (Jh aP (hl.get 1 rfl) rfl)) ?_
 refine WL hl 2 rfl rfl rfl rfl rfl rfl rfl aP rfl ?_; intro S1 hl; refine ⟨Wu ⟨HC (X := True) rfl rfl (Jh aP (hl.get 1 rfl) rfl) (WT (Lh _ _ _)) rfl trivial, HC (X := True) rfl rfl (KV (z := 2) aP aP (hl.get 2 rfl) rfl) (WS rfl (Hu (Pe _) (Hu (Lh _ _ _) RS))) rfl trivial, trivial⟩, ?_⟩
 refine WL hl 1 rfl rfl rfl rfl rfl rfl rfl aP rfl ?_; intro S1 hl; refine ⟨Wu (RQ ⟨HC (X := True) rfl rfl (Jh aP (hl.get 1 rfl) rfl) (WT (Lh _ _ _)) rfl trivial, HC (X := True) rfl rfl (KV (z := 2) aP aP (hl.get 2 rfl) rfl) (WS rfl (Hu (Pe _) (Hu (Lh _ _ _) RS))) rfl trivial, trivial⟩), ?_⟩
 refine WL hl 0 rfl rfl rfl rfl rfl rfl rfl aP rfl ?_; intro S1 hl; refine ⟨Wu (RQ (RQ ⟨HC (X := True) rfl rfl (Jh aP (hl.get 1 rfl) rfl) (WT (Lh _ _ _)) rfl trivial, HC (X := True) rfl rfl (KV (z := 2) aP aP (hl.get 2 rfl) rfl) (WS rfl (Hu (Pe _) (Hu (Lh _ _ _) RS))) rfl trivial, trivial⟩)), ?_⟩
 refine WJ rfl ?_
 refine N2 rfl (BE (Mi rfl ?_))
 refine zw (hl.get 5 rfl) ?_
 have hl := hl.put (k := 5) rfl rfl (.defs true)
 refine zu ?_
 obtain ⟨m, md, S8, e1, rfl, hl⟩ := tJ hF hl ⟨_, _, rfl⟩
 exact ⟨m, _, S8, e1, zx ⟨_, D9 rfl (KV (z := 2) aP aP (hl.get 2 rfl) rfl) (D9 rfl (Jh aP (hl.get 1 rfl) rfl) (D9 rfl (Jh aP (hl.get 0 rfl) rfl) rfl)), _, rfl, hl.AA, aX, av, D, rfl, Ov.move (hl.since 0 rfl), ud, hl.gr _ aQ⟩⟩
abbrev gV (p q r t : Int) (av : Option Addr) (P : List (List Nt)) : Gr := Eu 90 8 (IN p q r t) (.slice av P.length P.length) P
theorem iI {p q r t : Int} {av : Option Addr} {P : List (List Nt)} : gS av (P.map (IN p q r t)) = gV p q r t av P := by
 unfold gS gV Eu
 rw [cw]
theorem Wb (C : List Sg) : (A2 C).length ≤ C.length + 1 := WY C 0 []
theorem cc (a : Option Addr) (cap : Nat) (C : List Sg) (p q r t : Int) (hn : C.length ≤ 60) (hm : Ap p q r t = 0) (hX : CA p q r t C) (hG : Gl S) (Cq : Gc S) (hF : Ad S) (hv : Bh S (.slice a C.length cap) C) : CC Tryz.prog KK 26 [AM [.string nm, .slice a C.length cap]] S (fun v S' => AG S S' ∧ ∃ av, v = AN [.slice av (A2 C).length (A2 C).length, .int .i64 0] ∧ AU S S' (gV p q r t av (A2 C))) := by
 refine ce 15 Tryz.func26 fun hl => ?_; refine zg ?_; refine bL hl fun B1 S1 hl => ?_; refine zg ?_
 have QG := hl
 refine zc hl rfl (oI a cap C p q r t hn hX (Zx hm hX) (hG.AA hl.AA) (Cq.AA hl.AA) (hl.AA.3 hF) (hv.move (hl.since 0 rfl))) ?_; rintro v S2 Al ⟨aX, av, D, rfl, Ov, rfl, hg⟩ hl
 rw [iI] at hg
 have hl := hl.EP (AU.base hg QG.AA.1)
 rw [cw]
 refine zg ?_; refine aL hl ([.string ⟨#[]⟩, .slice none 0 0]) fun B4 S4 hl => ?_; refine sL hl 0 [.string nm, .slice aX C.length C.length] fun S5 hl => ?_; refine zg ?_
 refine y2 rfl rfl ⟨hl.AA, av, rfl, hl.gr _ aQ⟩
theorem nZ (C : List Sg) (a : Nat) : ∀ n, (Jq C a n).length ≤ n
 | 0 => Nat.le_refl 0
 | n + 1 => by
  have h := nZ C a n
  unfold Jq
  rw [ay]
  cases nth C (a + n) with
  | none => show _ + 0 ≤ _; omega
  | some s =>
   show _ + (bif nd s then [(a + n, s)] else []).length ≤ _
   cases nd s
   ·show _ + 0 ≤ _; omega
   show _ + 1 ≤ _; omega
def DV (e : Nt) : Int := (e.1 : Int)
abbrev gE (av : Option Addr) (E : List Nt) : Gr := Eu 34 17 (fun e : Nt => e.2.cells) (.slice av E.length E.length) E
abbrev gF (av : Option Addr) (E : List Nt) : Gr := Eu 3 1 (fun e : Nt => ic (DV e)) (.slice av E.length E.length) E
theorem ADq (a : Option Addr) (cap : Nat) (C : List Sg) (p q r t : Int) (hn : C.length ≤ 60) (hm : Ap p q r t = 0) (hX : CA p q r t C) (hG : Gl S) (Cq : Gc S) (hF : Ad S) (hv : Bh S (.slice a C.length cap) C) (k : Nat) (cur : List Nt) (hk : nth (A2 C) k = some cur) : CC Tryz.prog KK 40 [AM [.string nm, .slice a C.length cap], .int .i64 k] S (fun v S' => AG S S' ∧ ∃ ar an, v = AN [.slice ar cur.length cur.length, .slice an cur.length cur.length, .int .i64 0] ∧ AU S S' (gE ar cur) ∧ AU S S' (gF an cur)) := by
 refine ce 71 Tryz.func40 fun hl => ?_; refine zg ?_; refine bL hl fun B2 S2 hl => ?_; refine zg ?_
 refine zc hl rfl (oI a cap C p q r t hn hX (Zx hm hX) (hG.AA hl.AA) (Cq.AA hl.AA) (hl.AA.3 hF) (hv.move (hl.since 0 rfl))) ?_; rintro v S3 Al ⟨aX, av, D, rfl, Ov, rfl, hg⟩ hl
 rw [iI] at hg
 have hl := hl.mark
 have QP : AZ 90 8 (IN p q r t) S3 (.slice av (A2 C).length (A2 C).length) (A2 C) := AU.ls (f := IN p q r t) (fun _ => rfl) hg
 have Oe := CS hk
 have So := Wb C
 rw [cw]
 have SK := bn hX cur (Am hk)
 have VN := SK.ne
 have EJ := SK.bd
 have KG := YB VN
 have ZT : toI cur = (toN cur : Int) := rfl
 obtain ⟨bp, op, csp, SE, _, AF7, kD⟩ := QP.elem hk
 unfold IN at kD
 rw [KG, ZT] at kD
 have Vd := SK.Qx
 refine zg ?_; refine aL hl ([.string ⟨#[]⟩, .slice none 0 0]) fun B7 S7 hl => ?_; refine sL hl 0 [.string nm, .slice aX C.length C.length] fun S8 hl => ?_; refine zg ?_
 constructor <;> intro FU
 ·
  exfalso
  have := oTr FU
  omega
 refine zg ?_
 have hl := (hl.EP (g := gE none []) (.inl ⟨rfl, rfl, rfl⟩)).EP (g := gF none []) (.inl ⟨rfl, rfl, rfl⟩)
 refine AK (L' := [(12, .int .i64 (EW cur : Int)), (11, .slice none ([] : List Nt).length ([] : List Nt).length), (10, .slice none ([] : List Nt).length ([] : List Nt).length), (8, .slice av (A2 C).length (A2 C).length), (7, ptrTo B7 0), (6, .int .i64 0), (5, .slice none 0 0), (4, .slice none 0 0), (1, .int .i64 (k : Int))]) sE ?_
 refine Au rfl (fun m Le S' => ∃ (i : Nat) (ar an : Option Addr) (E : List Nt), (EW cur ≤ i ∧ i ≤ toN cur) ∧ m = toN cur - i ∧ E = Jq C (EW cur) (i - EW cur) ∧ Af [(12, .int .i64 (i : Int)), (11, .slice an E.length E.length), (10, .slice ar E.length E.length), (8, .slice av (A2 C).length (A2 C).length), (7, ptrTo B7 0), (6, .int .i64 0), (5, .slice none 0 0), (4, .slice none 0 0), (1, .int .i64 (k : Int))] Le ∧ AB S [S3, S] S' [(B7, .cells [.string nm, .slice aX C.length C.length] 25 false true []), (B2, .cells [.string nm, .slice a C.length cap] 25 false true [])] [gF an E, gE ar E]) ?_ (m := toN cur - EW cur) ⟨EW cur, none, none, [], ⟨Nat.le_refl _, Q1⟩, rfl, by rw [Nat.sub_self]; rfl, sE, hl⟩
 clear hl; rintro m Le S' ⟨i, ar, an, E, ⟨KJ, C8⟩, rfl, hE, AL, hl⟩; refine AK AL ?_
 have hEl : E.length ≤ 60 := by
  have h := nZ C (EW cur) (i - EW cur)
  rw [← hE] at h
  omega
 refine zg ?_
 constructor <;> intro Px
 ·
  have AJ : i < toN cur := dT Px
  obtain ⟨s, hs⟩ := Ac (l := C) (i := i) Q1
  obtain ⟨NP, Cd⟩ := Q7 (hX i s hs)
  obtain ⟨b1, o1, Ai, ha, _, AY, Ab⟩ := Ov.elem hs
  refine zg ?_
  refine zc hl rfl (oK s (Cq.AA hl.AA) NP) ?_; rintro v S9 Ar rfl hl
  have vW : (nd s = true ∧ (CV s.kind = 1 ∨ CV s.kind = 2)) ∨ (nd s = false ∧ (CV s.kind = 3 ∨ CV s.kind = 4)) := by
   rcases Cd with ⟨h1, _⟩ | ⟨h1, _⟩ | ⟨h1, _⟩ | h1
   ·exact .inl ⟨by unfold nd; rw [h1]; rfl, .inl h1⟩
   ·exact .inl ⟨by unfold nd; rw [h1]; rfl, .inr h1⟩
   ·exact .inr ⟨by unfold nd; rw [h1]; rfl, .inl h1⟩
   exact .inr ⟨by unfold nd; rw [h1]; rfl, .inr h1⟩
  rcases vW with ⟨CW, hc | hc⟩ | ⟨CW, hc⟩
  ·
   rw [hc]
   refine zg ?_; refine dL hl s.cells Tryz.underlying23 fun pX Co ZL hl => ?_; refine DX hl 1 rfl rfl (show ([3, 34] : List TypeId).Nodup by decide) rfl rfl rfl rfl rfl rfl rfl Tryz.underlying23 Tryz.underlying23 rfl rfl aP (Bf (new := s.cells) ZL rfl) rfl rfl aP (by show E.length + 1 ≤ AQ; unfold AQ; omega) ?_; intro dV D3 hl
   obtain ⟨DB, rfl⟩ : ∃ x, dV = .slice x (E.length + 1) (E.length + 1) := AU.is (hl.gr _ (cy aQ))
   refine zg ?_; refine dL hl (ic (i : Int)) Tryz.underlying22 fun RD Ep ZM hl => ?_; refine DX hl 0 rfl rfl (show ([3, 34] : List TypeId).Nodup by decide) rfl rfl rfl rfl rfl rfl rfl Tryz.underlying22 Tryz.underlying22 rfl rfl aP (Bf (new := ic (i : Int)) ZM rfl) rfl rfl aP (by show E.length + 1 ≤ AQ; unfold AQ; omega) ?_; intro W2 EC hl
   obtain ⟨RR, rfl⟩ : ∃ x, W2 = .slice x (E.length + 1) (E.length + 1) := AU.is (hl.gr _ aQ)
   refine zg ?_
   refine ⟨toN cur - (i + 1), Q1, i + 1, DB, RR, E ++ [(i, s)], ⟨Q1, Q1⟩, rfl, by rw [Qy hs KJ, hE, CW]; rfl, ⟨rfl, congrArg some (congrArg (fun n => Value.slice RR n n) (by rw [ay]; rfl)), congrArg some (congrArg (fun n => Value.slice DB n n) (by rw [ay]; rfl)), rfl, rfl, rfl, rfl, rfl, rfl, trivial⟩, ?_⟩
   rw [gE, gF, EH, EH]
   exact hl
  ·
   rw [hc]
   refine zg ?_; refine dL hl s.cells Tryz.underlying23 fun pX Co ZL hl => ?_; refine DX hl 1 rfl rfl (show ([3, 34] : List TypeId).Nodup by decide) rfl rfl rfl rfl rfl rfl rfl Tryz.underlying23 Tryz.underlying23 rfl rfl aP (Bf (new := s.cells) ZL rfl) rfl rfl aP (by show E.length + 1 ≤ AQ; unfold AQ; omega) ?_; intro dV D3 hl
   obtain ⟨DB, rfl⟩ : ∃ x, dV = .slice x (E.length + 1) (E.length + 1) := AU.is (hl.gr _ (cy aQ))
   refine zg ?_; refine dL hl (ic (i : Int)) Tryz.underlying22 fun RD Ep ZM hl => ?_; refine DX hl 0 rfl rfl (show ([3, 34] : List TypeId).Nodup by decide) rfl rfl rfl rfl rfl rfl rfl Tryz.underlying22 Tryz.underlying22 rfl rfl aP (Bf (new := ic (i : Int)) ZM rfl) rfl rfl aP (by show E.length + 1 ≤ AQ; unfold AQ; omega) ?_; intro W2 EC hl
   obtain ⟨RR, rfl⟩ : ∃ x, W2 = .slice x (E.length + 1) (E.length + 1) := AU.is (hl.gr _ aQ)
   refine zg ?_
   refine ⟨toN cur - (i + 1), Q1, i + 1, DB, RR, E ++ [(i, s)], ⟨Q1, Q1⟩, rfl, by rw [Qy hs KJ, hE, CW]; rfl, ⟨rfl, congrArg some (congrArg (fun n => Value.slice RR n n) (by rw [ay]; rfl)), congrArg some (congrArg (fun n => Value.slice DB n n) (by rw [ay]; rfl)), rfl, rfl, rfl, rfl, rfl, rfl, trivial⟩, ?_⟩
   rw [gE, gF, EH, EH]
   exact hl
  rcases hc with hc | hc
  all_goals
   rw [hc]
   refine zg ?_
   exact ⟨toN cur - (i + 1), Q1, i + 1, ar, an, E, ⟨Q1, Q1⟩, rfl, by rw [Qy hs KJ, hE, CW]; exact (List.append_nil _).symm, sE, hl⟩
 have jV : i = toN cur := dF Px
 rw [jV, ← Vd] at hE
 subst hE
 refine zg ?_
 exact CK (A7 rfl (A7 rfl (A7 rfl rfl))) ⟨hl.AA, ar, an, rfl, hl.gr _ (cy aQ), hl.gr _ aQ⟩
end Go.Proofs.YtnhalpkekpehpaaGreatDoor
