/-
  align.moments. The frame of align.Slices. slices as data. the iterator. align.slicesOf, Slices. parallel: opened, sounds, sign. parallel: moves, perfect, upper. parallel: kind. the numbers of the slices. the frame of parallel.Find.
-/
import Derived.Test.YtlnenodplgpceaaDoorSmB
import Derived.Test.YtlnenodplgpceaaDoorSy2
namespace Go.Proofs.YtlnenodplgpceaaDoor
open Go.Cm Go
set_option maxRecDepth 100000
variable {S : St}
theorem psh_len (O : List Ti) (x : Ti) : (psh O x).length ≤ O.length + 1 := by
 unfold psh
 cases psB O x with
 | true => show (O ++ [x]).length ≤ _; rw [List.length_append]; exact Nat.le_refl _
 | false => show O.length ≤ _; omega
theorem mgG_len : ∀ (n : Nat) (A B O : List Ti), (mgG n A B O).length ≤ O.length + n
 | 0, _, _, O => Nat.le_refl _
 | n + 1, A, B, O => by
  rw [mgG]
  split
  ·omega
  ·rename_i x r h
   have := mgG_len n r (swp A B).2 (psh O x)
   have := psh_len O x
   omega
theorem mgE_len (A B : List Ti) : (mgE A B).length ≤ A.length + B.length := by
 have := mgG_len (A.length + B.length) A B []
 unfold mgE
 simpa using this
def owE (v : List Ev) : List Ti := v.map Ev.at_ ++ bif decide ((v.length : Int) > 0) then [(endE v).1] else []
theorem ow_1 {v : List Ev} (h : decide ((v.length : Int) > 0) = true) : owE v = v.map Ev.at_ ++ [(endE v).1] := by unfold owE; rw [h]; rfl
theorem ow_2 {v : List Ev} (h : decide ((v.length : Int) > 0) = false) : owE v = v.map Ev.at_ := by unfold owE; rw [h]; exact List.append_nil _
theorem ow_len (v : List Ev) : (owE v).length ≤ v.length + 1 := by
 cases h : decide ((v.length : Int) > 0) with
 | true => rw [ow_1 h]; simp
 | false => rw [ow_2 h]; simp
theorem mo_step {v : List Ev} {r : List (List Ev)} {O : List Ti} : moG (v :: r) O = moG r (mgE O (owE v)) := rfl
theorem HoldG.shrink {S0 S : St} {Ts Us : List St} {l l' : List (Nat × Blk)} {gs gs' : List Gr} (h : HoldG S0 Ts S l gs) (hl : l'.Sublist l) (hg : ∀ g, g ∈ gs' → g ∈ gs) (ht : ∀ T, T ∈ Us → T ∈ Ts) : HoldG S0 Us S l' gs' :=
 ⟨h.keep, ((hl.map (·.1)).nodup h.nd), fun b x hx => h.at_ b x (hl.subset hx), fun T hT => h.rk T (ht T hT), fun g hgg => h.gr g (hg g hgg)⟩
theorem mo_end {S S' : St} {V : List (List Ev)} {O : List Ti} {ao : Option Addr} {i : Nat} (hp : moG (V.drop i) O = moE V) (h : V.length ≤ i) (hg : Grow S S' (gOf 33 2 Ti.cells (.slice ao O.length O.length) O)) : ∃ av, (tupV [.slice ao O.length O.length] : Value) = .slice av (moE V).length (moE V).length ∧ Grow S S' (gOf 33 2 Ti.cells (.slice av (moE V).length (moE V).length) (moE V)) := by
 rw [List.drop_eq_nil_of_le h] at hp
 have he : moE V = O := hp.symm
 rw [he]
 exact ⟨ao, rfl, hg⟩
noncomputable def c74 : Code := Tryd.f74.body.getD .skip
theorem spec74 (a : Option Addr) (cap : Nat) (V : List (List Ev)) (hF : Fresh S) (hn : V.length ≤ 8) (hV : ∀ x, x ∈ V → x.length ≤ 2000) (hv : Vs S (.slice a V.length cap) V) : CC Tryd.prog KK 74 [.slice a V.length cap] S (fun v S' => Keep S S' ∧ ∃ av, v = .slice av (moE V).length (moE V).length ∧ Grow S S' (gOf 33 2 Ti.cells (.slice av (moE V).length (moE V).length) (moE V))) := by
 refine cc_enter (c := c74) (n := 46) Tryd.func74 rfl rfl rfl (by kernel_rfl) rfl rfl ?_
 have hl := Hold.start S
 refine xs (by kernel_rfl) ?_; refine rm rfl ?_; refine re_end rfl ?_; refine xs (by kernel_rfl) ?_; refine rm rfl ?_; refine re_end rfl ?_; refine xp_seq rfl ?_; refine xs (by kernel_rfl) ?_; refine rm rfl ?_; refine rr rfl (rd_len rfl rfl (len_slice Tryd.underlying25)) ?_; refine rm rfl ?_; refine re_end rfl ?_; refine xp_block rfl ?_
 -- LOOP
 refine xe_sub (L' := [(13, .int .i64 0), (12, .int .i64 V.length), (11, .slice a V.length cap), (3, .slice none ([] : List Ti).length ([] : List Ti).length), (2, .slice none 0 0)]) ⟨rfl, rfl, rfl, rfl, rfl, trivial⟩ ?_
 refine xp_loop rfl (fun m Le S' => ∃ (i : Nat) (O : List Ti) (ao : Option Addr), i ≤ V.length ∧ m = V.length - i ∧ O.length ≤ 2001 * i ∧ moG (V.drop i) O = moE V ∧ SubE [(13, .int .i64 (i : Int)), (12, .int .i64 V.length), (11, .slice a V.length cap), (3, .slice ao O.length O.length), (2, .slice none 0 0)] Le ∧ Grow S S' (gOf 33 2 Ti.cells (.slice ao O.length O.length) O) ∧ HoldG S [S] S' [] []) ?_ (m := V.length) ⟨0, [], none, by omega, rfl, by simp, rfl, ⟨rfl, rfl, rfl, rfl, rfl, trivial⟩, .inl ⟨rfl, rfl, rfl⟩, hl⟩
 clear hl; rintro m Le Sh ⟨i, O, ao, hi, rfl, hO, hpr, hsub, hOG, hl⟩; refine xe_sub hsub ?_
 refine xs (by kernel_rfl) ?_; refine rr rfl (rd_bin rfl rfl rfl rfl) ?_; refine re_end rfl ?_; refine xp_seq rfl ?_; refine xp_cond rfl rfl (fun h14 => ?_) (fun h14 => ?_)
 ·
  have hOT := Grow.ls (f := Ti.cells) (v := .slice ao O.length O.length) (C := O) (e := 33) (z := 2) (fun _ => rfl) hOG
  have hl := hl.mark
  have hlt : i < V.length := by have := of_decide_eq_true h14; omega
  obtain ⟨x, hx⟩ := nth_some hlt
  obtain ⟨b1, o1, cs1, aw, cw, ha, _, hrow, htk, hvx⟩ := hv.elem hx
  have hxl : x.length ≤ 2000 := hV x (nth_mem hx)
  rw [drop_nth' hx, mo_step] at hpr
  refine xp_skip rfl ?_; refine xp_seq rfl ?_; refine xp_block rfl ?_; refine xs (by kernel_rfl) ?_; refine rr rfl (rd_indexAddr rfl rfl rfl (indexAddr_sl (z := 1) ha Tryd.underlying25 (by kernel_rfl) ⟨by omega, by omega⟩)) ?_; refine rr rfl (rd_load rfl rfl (load1_row (by kernel_rfl) (row_move (hl.since 1 rfl) hrow) htk)) ?_; refine rm rfl ?_; refine re_end rfl ?_; refine xs (by kernel_rfl) ?_; refine rm rfl ?_; refine re_end rfl ?_; refine xp_seq rfl ?_; refine xs (by kernel_rfl) ?_; refine rm rfl ?_; refine rr rfl (rd_len rfl rfl (len_slice Tryd.underlying23)) ?_; refine rm rfl ?_
  refine re_end rfl ?_; refine xp_block rfl ?_
  -- LOOP
  have hl := hl.addG (g := gOf 33 2 Ti.cells (.slice none 0 0) []) (.inl ⟨rfl, rfl, rfl⟩)
  refine xe_sub (L' := [(19, .int .i64 0), (18, .int .i64 x.length), (17, .slice aw x.length cw), (6, .slice none ([] : List Ti).length ([] : List Ti).length), (5, .slice aw x.length cw), (13, .int .i64 (i : Int)), (12, .int .i64 V.length), (11, .slice a V.length cap), (3, .slice ao O.length O.length), (2, .slice none 0 0)]) ⟨rfl, rfl, rfl, rfl, rfl, rfl, rfl, rfl, rfl, rfl, trivial⟩ ?_
  refine xp_loop rfl (fun m Le S' => ∃ (k : Nat) (Q : List Ti) (ap : Option Addr), k ≤ x.length ∧ m = x.length - k ∧ Q = ((x.take k).map Ev.at_) ∧ Q.length = k ∧ SubE [(19, .int .i64 (k : Int)), (18, .int .i64 x.length), (17, .slice aw x.length cw), (6, .slice ap Q.length Q.length), (5, .slice aw x.length cw), (13, .int .i64 (i : Int)), (12, .int .i64 V.length), (11, .slice a V.length cap), (3, .slice ao O.length O.length), (2, .slice none 0 0)] Le ∧ HoldG S [Sh, S] S' [] [gOf 33 2 Ti.cells (.slice ap Q.length Q.length) Q]) ?_ (m := x.length) ⟨0, [], none, by omega, rfl, rfl, rfl, ⟨rfl, rfl, rfl, rfl, rfl, rfl, rfl, rfl, rfl, rfl, trivial⟩, hl⟩
  clear hl; rintro m Le S' ⟨k, Q, ap, hk, rfl, hQ, hQl, hsub2, hl⟩; refine xe_sub hsub2 ?_
  refine xs (by kernel_rfl) ?_; refine rr rfl (rd_bin rfl rfl rfl rfl) ?_; refine re_end rfl ?_; refine xp_seq rfl ?_; refine xp_cond rfl rfl (fun h20 => ?_) (fun h20 => ?_)
  ·
   have hlt2 : k < x.length := by have := of_decide_eq_true h20; omega
   obtain ⟨y, hy⟩ := nth_some hlt2
   obtain ⟨b2, o2, cs2, ha2, _, hrow2, htk2⟩ := hvx.elem hy
   refine xp_skip rfl ?_; refine xp_seq rfl ?_; refine xp_block rfl ?_; refine xs (by kernel_rfl) ?_; refine rr rfl (rd_indexAddr rfl rfl rfl (indexAddr_sl (z := 10) ha2 Tryd.underlying23 (by kernel_rfl) ⟨by omega, by first | omega | (simp only [List.length_cons]; omega)⟩)) ?_; refine rr rfl (rd_load rfl rfl (loadN_row (z := 10) (by kernel_rfl) (by kernel_rfl) (row_move (hl.since 1 rfl) hrow2) htk2)) ?_
   refine re_allocL hl rfl rfl rfl rfl rfl (z := [.int .i64 0, .int .i64 0, .int .i64 0, .int .i64 0, .int .i64 0, .int .i64 0, .int .i64 0, .bool false, .int .i64 0, .int .i64 0]) (by kernel_rfl) ?_; intro B8 S8 hl; refine re_storeL hl 0 rfl rfl rfl rfl rfl rfl rfl (by kernel_rfl) rfl ?_; intro S1 hl; refine re_end rfl ?_; refine xg (by kernel_rfl) ?_; refine rm rfl ?_; refine rr rfl (rd_fieldAddr rfl rfl (fa Tryd.underlying39 az39 rfl)) ?_; refine rr rfl (rd_load rfl rfl (loadN_of (z := 2) (by kernel_rfl) (by kernel_rfl) (hl.get 0 rfl) rfl)) ?_
   refine re_buildSliceR hl rfl rfl rfl rfl rfl Tryd.underlying44 rfl (c := y.at_.cells) (by kernel_rfl) ?_; intro B26 S1 hr26 hl; refine re_appendG hl 0 rfl rfl (by simp) rfl rfl rfl rfl rfl rfl rfl Tryd.underlying44 Tryd.underlying44 rfl rfl (by kernel_rfl) (src_row (new := y.at_.cells) hr26 rfl) rfl rfl (by kernel_rfl) (by show Q.length + 1 ≤ maxNeed; unfold maxNeed; omega) ?_; intro v27 S1 hl
   obtain ⟨av3, rfl⟩ : ∃ av3, v27 = .slice av3 (Q.length + 1) (Q.length + 1) := Grow.is (hl.gr _ (List.mem_cons_self ..))
   refine rm rfl ?_; refine re_end rfl ?_; refine xg (by kernel_rfl) ?_; refine rr rfl (rd_bin rfl rfl rfl (i6 (by omega))) ?_; refine rm rfl ?_; refine re_end rfl ?_
   refine ⟨x.length - (k + 1), by omega, k + 1, Q ++ [y.at_], av3, by omega, rfl, by rw [hQ, take_nth' hy, List.map_append]; rfl, by rw [List.length_append, hQl]; rfl, ⟨rfl, rfl, rfl, congrArg some (congrArg (fun n => Value.slice av3 n n) (by rw [List.length_append]; rfl)), rfl, rfl, rfl, rfl, rfl, rfl, trivial⟩, ?_⟩
   rw [gOf_push]
   exact hl.tail
  ·
   have hQx : Q = x.map Ev.at_ := by rw [hQ, List.take_of_length_le (by have := of_decide_eq_false h20; omega)]
   refine xp_exit rfl ?_; refine xs (by kernel_rfl) ?_; refine rm rfl ?_
   refine re_callL hl rfl rfl rfl rfl rfl rfl rfl (spec77 aw cw x (hl.keep.3 hF) (hvx.move (hl.since 1 rfl))) ?_; rintro v S1 hk1 rfl hl
   iterate 3 refine rm rfl ?_
   refine re_allocL hl rfl rfl rfl rfl rfl (z := [.int .i64 0, .int .i64 0]) (by kernel_rfl) ?_; intro B9 S9 hl; refine re_storeL hl 0 rfl rfl rfl rfl rfl rfl rfl (by kernel_rfl) rfl ?_; intro S1 hl; refine rm rfl ?_; refine re_end rfl ?_
   refine xp_seq rfl (xe_cut (fun Le S' => ∃ (Q2 : List Ti) (ap2 : Option Addr), Q2 = owE x ∧ SubE [(18, .int .i64 x.length), (17, .slice aw x.length cw), (6, .slice ap2 Q2.length Q2.length), (5, .slice aw x.length cw), (13, .int .i64 (i : Int)), (12, .int .i64 V.length), (11, .slice a V.length cap), (3, .slice ao O.length O.length), (2, .slice none 0 0)] Le ∧ HoldG S [Sh, S] S' [(B9, .cells (endE x).1.cells 33 false true [])] [gOf 33 2 Ti.cells (.slice ap2 Q2.length Q2.length) Q2]) ?_ ?_)
   ·
    refine xs (by kernel_rfl) ?_; refine rm rfl ?_; refine rr rfl (rd_len rfl rfl (len_slice Tryd.underlying23)) ?_; refine rr rfl (rd_bin rfl rfl rfl rfl) ?_; refine re_end rfl ?_; refine xp_cond rfl rfl (fun h36 => ?_) (fun h36 => ?_)
    ·
     refine xg (by kernel_rfl) ?_; refine rm rfl ?_; refine rr rfl (rd_load rfl rfl (loadN_of (z := 2) (by kernel_rfl) (by kernel_rfl) (hl.get 0 rfl) rfl)) ?_; refine re_buildSliceR hl rfl rfl rfl rfl rfl Tryd.underlying44 rfl (c := (endE x).1.cells) (by kernel_rfl) ?_; intro B39 S1 hr39 hl; refine re_appendG hl 0 rfl rfl (by simp) rfl rfl rfl rfl rfl rfl rfl Tryd.underlying44 Tryd.underlying44 rfl rfl (by kernel_rfl) (src_row (new := (endE x).1.cells) hr39 rfl) rfl rfl (by kernel_rfl) (by show Q.length + 1 ≤ maxNeed; unfold maxNeed; omega) ?_; intro v40 S1 hl
     obtain ⟨av3, rfl⟩ : ∃ av3, v40 = .slice av3 (Q.length + 1) (Q.length + 1) := Grow.is (hl.gr _ (List.mem_cons_self ..))
     refine rm rfl ?_; refine re_end rfl ?_
     refine ⟨rfl, Q ++ [(endE x).1], av3, by rw [ow_1 h36, hQx], ⟨rfl, rfl, congrArg some (congrArg (fun n => Value.slice av3 n n) (by rw [List.length_append]; rfl)), rfl, rfl, rfl, rfl, rfl, rfl, trivial⟩, ?_⟩
     rw [gOf_push]
     exact hl
    ·
     refine xp_skip rfl ?_
     exact ⟨rfl, Q, ap, by rw [ow_2 h36, hQx], ⟨rfl, rfl, rfl, rfl, rfl, rfl, rfl, rfl, rfl, trivial⟩, hl⟩
   clear hl; rintro Le3 S1 ⟨Q2, ap2, hQ2, hsub3, hl⟩; refine xe_sub hsub3 ?_
   have hQl2 : Q2.length ≤ 2001 := by rw [hQ2]; have := ow_len x; omega
   refine xg (by kernel_rfl) ?_; iterate 2 refine rm rfl ?_
   refine re_callL hl rfl rfl rfl rfl rfl rfl rfl (spec85 ao ap2 O.length Q2.length O Q2 (hl.keep.3 hF) (by omega) (hOT.move (hl.since 0 rfl)) (Grow.ls (f := Ti.cells) (fun _ => rfl) (hl.gr _ (List.mem_cons_self ..)))) ?_; have hle := hl.keep.1; rintro v S1 hk1 ⟨av4, rfl, hg⟩ hl
   refine rm rfl ?_; refine re_end rfl ?_; refine xg (by kernel_rfl) ?_; refine rr rfl (rd_bin rfl rfl rfl (i6 (by omega))) ?_; refine rm rfl ?_; refine re_end rfl ?_
   refine ⟨V.length - (i + 1), by omega, i + 1, mgE O Q2, av4, by omega, rfl, by have := mgE_len O Q2; omega, by rw [hQ2]; exact hpr, ⟨rfl, rfl, rfl, rfl, rfl, trivial⟩, Grow.base hg hle, ?_⟩
   exact HoldG.shrink hl (l' := []) (Us := [S]) (gs' := []) (List.nil_sublist _) (fun g hg => (List.not_mem_nil hg).elim) (fun T hT => List.mem_cons_of_mem _ hT)
 ·
  refine xp_exit rfl ?_; refine xs (by kernel_rfl) ?_; iterate 2 refine rm rfl ?_
  refine re_end rfl ?_; refine xp_ret rfl ?_
  refine done_ret (ress_tmp rfl rfl) ⟨hl.keep, (mo_end hpr (by have := of_decide_eq_false h14; omega) hOG)⟩
end Go.Proofs.YtlnenodplgpceaaDoor
namespace Go.Proofs.YtlnenodplgpceaaDoor
open Go.Cm Go
set_option maxRecDepth 100000
variable {S : St}
structure Sl where
 at_ : Ti
 dur : Ti
 ev : List Int
def slC (x : Sl × Value) : List Value := [.int .i64 x.1.at_.n, .int .i64 x.1.at_.d, .int .i64 x.1.dur.n, .int .i64 x.1.dur.d, x.2]
noncomputable def c47 : Code := Tryd.f47.body.getD .skip
noncomputable def rf : Code := pA (Cm.pB (pA (Cm.pB (Cm.pB (Cm.pB c47)))))
structure Fr where
 lb : Nat
 db : Nat
 bp : Nat
 b2 : Nat
 b3 : Nat
 b6 : Nat
 t : Tm
 cp : Value
noncomputable def Fr.l (z : Fr) (ov : Value) : List (Nat × Blk) := [(z.b6, .cells [ov] 88 false true []), (z.b3, .cells [.int .i64 0] 28 false true []), (z.b2, .cells [.slice none 0 0] 88 false true []), (z.lb, .loop .ready none 29 z.t (rgP rf) (rgA rf) (rgB rf) z.db), (z.db, .defs false), (z.bp, .cells [z.cp] 25 false true [])]
noncomputable def Fr.le (z : Fr) (ov : Value) (e : Int) : List (Nat × Blk) := [(z.b6, .cells [ov] 88 false true []), (z.b3, .cells [.int .i64 e] 28 false true []), (z.b2, .cells [.slice none 0 0] 88 false true []), (z.lb, .loop .done (some .ret) 29 z.t (rgP rf) (rgA rf) (rgB rf) z.db), (z.db, .defs false), (z.bp, .cells [z.cp] 25 false true [])]
theorem GB.is {v : Value} {e : TypeId} {z : Nat} {c : List Value} {m : Nat} {fr : List (Nat × Blk)} (h : GB v e z c m fr) : ∃ a, v = .slice a m m := by
 rcases h with ⟨h, _, rfl, _⟩ | ⟨b, kin, h, _⟩
 ·exact ⟨none, h⟩
 ·exact ⟨_, h⟩
def zSl : List Value := [.int .i64 0, .int .i64 0, .int .i64 0, .int .i64 0, .slice none 0 0]
def cD (D : List (Sl × Value)) : List Value := (D.map slC).flatten
theorem cD_push (D : List (Sl × Value)) (x : Sl × Value) : cD (D ++ [x]) = cD D ++ slC x := by unfold cD; simp
theorem round_ok {Sb S : St} (z : Fr) (hz : Has 29 ⟨29, z.t, []⟩ [(6, ptrTo z.b6 0), (3, ptrTo z.b3 0), (2, ptrTo z.b2 0)]) {own fo : List (Nat × Blk)} {ov : Value} {D : List (Sl × Value)} {x : Sl} {a : Option Addr} {m c : Nat} (hD : D.length ≤ 100000) (hg : GB ov 131 5 (cD D) D.length fo) (hl : HoldG Sb [Sb] S (own ++ (z.l ov ++ fo)) []) :
  CT Tryd.prog KK (.fn (.yield z.lb) #[]) [aggL (slC (x, Value.slice a m c)), .int .i64 0] S fun r S' => r = .returned (.bool true) ∧ ∃ ov' fo', GB ov' 131 5 (cD (D ++ [(x, Value.slice a m c)])) (D ++ [(x, Value.slice a m c)]).length fo' ∧ HoldG Sb [Sb] S' (own ++ (z.l ov' ++ fo')) [] := by
 have hl := hl.perm (l' := z.l ov ++ (fo ++ own)) ((List.perm_append_comm).trans (by rw [List.append_assoc]))
 refine ct_round (hl.get 3 rfl) hz rfl rfl ?_; refine xs (by kernel_rfl) ?_; refine re_allocL hl rfl rfl rfl rfl rfl (z := zSl) (by kernel_rfl) ?_; intro B7 S7 hl; refine re_storeL hl 0 rfl rfl rfl rfl rfl rfl rfl (by kernel_rfl) rfl ?_; intro S1 hl; refine re_end rfl ?_; refine xg (by kernel_rfl) ?_; refine rm rfl ?_; refine re_end rfl ?_
 refine ⟨rfl, _, _, _, _, _, _, _, hl.get 4 rfl, ?_⟩
 have hl := hl.put (k := 4) rfl rfl (.loop .busy none 29 z.t (rgP rf) (rgA rf) (rgB rf) z.db)
 refine xp_block rfl ?_; refine xp_seq rfl ?_; refine xs (by kernel_rfl) ?_; refine rm rfl ?_; refine rr rfl (rd_bin rfl rfl rfl rfl) ?_; refine re_end rfl ?_; refine xp_cond rfl rfl (fun h22 => ?_) (fun h22 => ?_)
 ·exact absurd h22 (by decide)
 refine xp_skip rfl ?_; refine xg (by kernel_rfl) ?_; refine rr rfl (rl hl 1 rfl rfl (by kernel_rfl) rfl rfl) ?_; refine rr rfl (rd_load rfl rfl (loadN_of (z := 5) (by kernel_rfl) (by kernel_rfl) (hl.get 0 rfl) rfl)) ?_; refine re_buildSliceR hl rfl rfl rfl rfl rfl Tryd.underlying88 rfl (c := slC (x, Value.slice a m c)) (by kernel_rfl) ?_; intro B26 S1 hr26 hl
 have hl : HoldG Sb [Sb] _ ((B7, .cells (slC (x, Value.slice a m c)) 131 false true []) :: putB 3 (.loop .busy none 29 z.t (rgP rf) (rgA rf) (rgB rf) z.db) (z.l ov) ++ (fo ++ own)) [] := hl
 have hl := hl.perm (List.perm_append_comm_assoc _ fo own)
 refine re_appendB hl hg rfl rfl rfl rfl rfl rfl rfl Tryd.underlying88 Tryd.underlying88 rfl rfl (by decide) (by kernel_rfl) (src_row (new := slC (x, Value.slice a m c)) hr26 rfl) rfl rfl (by kernel_rfl) (by show D.length + 1 ≤ maxNeed; unfold maxNeed; omega) ?_; intro ov' fo' S2 hg' hl
 have hl := hl.perm (List.perm_append_comm_assoc fo' ((B7, .cells (slC (x, Value.slice a m c)) 131 false true []) :: putB 3 (.loop .busy none 29 z.t (rgP rf) (rgA rf) (rgB rf) z.db) (z.l ov)) own)
 obtain ⟨oa, rfl⟩ := GB.is hg'
 refine re_storeL hl 1 rfl rfl rfl rfl rfl rfl rfl (by kernel_rfl) rfl ?_; intro S1 hl; refine re_end rfl ?_
 refine ⟨_, _, _, _, _, _, _, _, hl.get 4 rfl, rfl, .slice oa (D.length + 1) (D.length + 1), fo', ?_, ?_⟩
 ·rw [cD_push, List.length_append]; exact hg'
 have hl := (hl.put (k := 4) rfl rfl (.loop .ready none 29 z.t (rgP rf) (rgA rf) (rgB rf) z.db)).tail
 exact HoldG.perm (l := z.l (.slice oa (D.length + 1) (D.length + 1)) ++ (fo' ++ own)) hl ((List.Perm.of_eq (List.append_assoc _ _ _).symm).trans List.perm_append_comm)
theorem round_err {Sb S : St} (z : Fr) (hz : Has 29 ⟨29, z.t, []⟩ [(6, ptrTo z.b6 0), (3, ptrTo z.b3 0), (2, ptrTo z.b2 0)]) {own fo : List (Nat × Blk)} {ov : Value} {x : Sl} {a : Option Addr} {m c : Nat} {e : Int} (he : (e != 0) = true) (hl : HoldG Sb [Sb] S (own ++ (z.l ov ++ fo)) []) :
  CT Tryd.prog KK (.fn (.yield z.lb) #[]) [aggL (slC (x, Value.slice a m c)), .int .i64 e] S fun r S' => r = .returned (.bool false) ∧ HoldG Sb [Sb] S' (own ++ (z.le ov e ++ fo)) [] := by
 have hl := hl.perm (l' := z.l ov ++ (fo ++ own)) ((List.perm_append_comm).trans (by rw [List.append_assoc]))
 refine ct_round (hl.get 3 rfl) hz rfl rfl ?_; refine xs (by kernel_rfl) ?_; refine re_allocL hl rfl rfl rfl rfl rfl (z := zSl) (by kernel_rfl) ?_; intro B7 S7 hl; refine re_storeL hl 0 rfl rfl rfl rfl rfl rfl rfl (by kernel_rfl) rfl ?_; intro S1 hl; refine re_end rfl ?_; refine xg (by kernel_rfl) ?_; refine rm rfl ?_; refine re_end rfl ?_
 refine ⟨rfl, _, _, _, _, _, _, _, hl.get 4 rfl, ?_⟩
 have hl := hl.put (k := 4) rfl rfl (.loop .busy none 29 z.t (rgP rf) (rgA rf) (rgB rf) z.db)
 refine xp_block rfl ?_; refine xp_seq rfl ?_; refine xs (by kernel_rfl) ?_; refine rm rfl ?_; refine rr rfl (rd_bin rfl rfl rfl rfl) ?_; refine re_end rfl ?_; refine xp_cond rfl rfl (fun h22 => ?_) (fun h22 => ?_)
 ·refine xs (by kernel_rfl) ?_
  refine rm rfl ?_; refine re_storeL hl 3 rfl rfl rfl rfl rfl rfl rfl (by kernel_rfl) rfl ?_; intro S1 hl; refine re_storeL hl 2 rfl rfl rfl rfl rfl rfl rfl (by kernel_rfl) rfl ?_; intro S1 hl; refine re_end rfl ?_; refine xp_ret rfl ?_
  refine ⟨_, _, _, _, _, _, _, _, hl.get 4 rfl, rfl, ?_⟩
  have hl := (hl.put (k := 4) rfl rfl (.loop .done (some .ret) 29 z.t (rgP rf) (rgA rf) (rgB rf) z.db)).tail
  exact HoldG.perm (l := z.le ov e ++ (fo ++ own)) hl ((List.Perm.of_eq (List.append_assoc _ _ _).symm).trans List.perm_append_comm)
 ·rw [he] at h22; cases h22
end Go.Proofs.YtlnenodplgpceaaDoor
namespace Go.Proofs.YtlnenodplgpceaaDoor
open Go.Cm Go
set_option maxRecDepth 100000
variable {S : St}
def iz (k : Nat) : Value := .int .i64 (k : Int)
def atT (v : List Ev) (k : Nat) : Ti := ((nth v k).map Ev.at_).getD zT
def advB (v : List Ev) (t : Ti) (k : Nat) : Bool := decide ((k : Int) + 1 < (v.length : Int)) && decide ((cmpE (atT v (k + 1)) t).1 ≤ 0)
def adv : Nat → List Ev → Ti → Nat → Nat
 | 0, _, _, k => k
 | f + 1, v, t, k => bif advB v t k then adv f v t (k + 1) else k
def advE (v : List Ev) (t : Ti) (k : Nat) : Nat := adv (v.length - k) v t k
theorem advB_lt {v : List Ev} {t : Ti} {k : Nat} (h : advB v t k = true) : k + 1 < v.length := by
 unfold advB at h
 rw [Bool.and_eq_true] at h
 have := of_decide_eq_true h.1
 omega
theorem advE_go {v : List Ev} {t : Ti} {k : Nat} (h : advB v t k = true) : advE v t k = advE v t (k + 1) := by
 have hl := advB_lt h
 unfold advE
 rw [show v.length - k = (v.length - (k + 1)) + 1 by omega, adv, h]
 rfl
theorem advE_stop {v : List Ev} {t : Ti} {k : Nat} (h : advB v t k = false) : advE v t k = k := by
 unfold advE
 cases v.length - k with
 | zero => rfl
 | succ f => rw [adv, h]; rfl
theorem adv_le : ∀ (f : Nat) (v : List Ev) (t : Ti) (k : Nat), k ≤ v.length → adv f v t k ≤ v.length
 | 0, _, _, _, h => h
 | f + 1, v, t, k, h => by
  rw [adv]
  cases hb : advB v t k with
  | true => exact adv_le f v t (k + 1) (by have := advB_lt hb; omega)
  | false => exact h
def hrE (v : List Ev) (t : Ti) (k : Nat) : Int := bif decide ((cmpE (endE v).1 t).1 ≤ 0) then -1 else (k : Int)
def upd (V : List (List Ev)) (t : Ti) (A : List Nat) : List Nat := List.zipWith (fun v k => advE v t k) V A
def evs (V : List (List Ev)) (t : Ti) (A : List Nat) : List Int := List.zipWith (fun v k => hrE v t (advE v t k)) V A
def slG (V : List (List Ev)) : List Ti → List Nat → List Sl × Int
 | t :: u :: r, A => bif (subE u t).2 != 0 then ([], (subE u t).2) else (⟨t, (subE u t).1, evs V t A⟩ :: (slG V (u :: r) (upd V t A)).1, (slG V (u :: r) (upd V t A)).2)
 | _, _ => ([], 0)
def slE (V : List (List Ev)) : List Sl × Int := slG V (moE V) (V.map fun _ => 0)
theorem slG_1 {V : List (List Ev)} {t u : Ti} {r : List Ti} {A : List Nat} (h : ((subE u t).2 != 0) = true) : slG V (t :: u :: r) A = ([], (subE u t).2) := by rw [slG, h]; rfl
theorem slG_2 {V : List (List Ev)} {t u : Ti} {r : List Ti} {A : List Nat} (h : ((subE u t).2 != 0) = false) : slG V (t :: u :: r) A = (⟨t, (subE u t).1, evs V t A⟩ :: (slG V (u :: r) (upd V t A)).1, (slG V (u :: r) (upd V t A)).2) := by rw [slG, h]; rfl
theorem slG_end {V : List (List Ev)} {l : List Ti} {A : List Nat} (h : l.length ≤ 1) : slG V l A = ([], 0) := by
 match l, h with
 | [], _ => rfl
 | [_], _ => rfl
 | _ :: _ :: _, h => simp at h
def EvIn (x : Sl × Value) (rest : List (Nat × Blk)) : Prop := ∃ fr, GB x.2 3 1 (x.1.ev.map (Value.int .i64)) x.1.ev.length fr ∧ ∀ p, p ∈ fr → p ∈ rest
theorem EvIn.mono {x : Sl × Value} {r r' : List (Nat × Blk)} (h : EvIn x r) (hs : ∀ p, p ∈ r → p ∈ r') : EvIn x r' := by
 obtain ⟨fr, h1, h2⟩ := h
 exact ⟨fr, h1, fun p hp => hs p (h2 p hp)⟩
def SlQ (Sb : St) (z : Fr) (V : List (List Ev)) (S' : St) : Prop := ((slE V).2 = 0 ∧ ∃ (D : List (Sl × Value)) (ov : Value) (fo rest : List (Nat × Blk)), D.map (·.1) = (slE V).1 ∧ (∀ x, x ∈ D → EvIn x rest) ∧ GB ov 131 5 (cD D) D.length fo ∧ HoldG Sb [Sb] S' (z.l ov ++ (fo ++ rest)) []) ∨
 ((slE V).2 ≠ 0 ∧ ∃ (ov : Value) (rest : List (Nat × Blk)), HoldG Sb [Sb] S' (z.le ov (slE V).2 ++ rest) [])
theorem perm5 {α : Type} (A Z B F O R : List α) : (A ++ (Z ++ (B ++ (F ++ (O ++ R))))).Perm ((A ++ (B ++ (F ++ R))) ++ (Z ++ O)) := by
 classical
 rw [List.perm_iff_count]
 intro a
 simp only [List.count_append]
 omega
theorem perm6 {α : Type} (A C Z B F O R : List α) : (((A ++ C) ++ (B ++ (F ++ R))) ++ (Z ++ O)).Perm (C ++ (Z ++ (B ++ (O ++ (F ++ (A ++ R)))))) := by
 classical
 rw [List.perm_iff_count]
 intro a
 simp only [List.count_append]
 omega
theorem perm7 {α : Type} (A Z O : List α) : (A ++ (Z ++ O)).Perm (Z ++ (O ++ A)) := by
 classical
 rw [List.perm_iff_count]
 intro a
 simp only [List.count_append]
 omega
theorem perm8 {α : Type} (C Z B O R : List α) : (C ++ (Z ++ (B ++ (O ++ R)))).Perm (Z ++ (O ++ (C ++ (B ++ R)))) := by
 classical
 rw [List.perm_iff_count]
 intro a
 simp only [List.count_append]
 omega
theorem tk_part {z w o j : Nat} {c l l2 : List Value} (h : takeN z (dropN o c) = some l) (hj : takeN w (dropN j l) = some l2) : takeN w (dropN (o + j) c) = some l2 := by
 obtain ⟨_, h1, e⟩ := takeN_spec _ _ _ h
 obtain ⟨_, h2, e2⟩ := takeN_spec _ _ _ hj
 subst e
 rw [dropN_add]
 generalize dropN o c = X at *
 rw [dropN_eq] at h2 e2 ⊢
 rw [List.drop_take] at e2 h2
 have h3 : w ≤ z - j := by rw [List.length_take] at h2; omega
 rw [List.take_take, Nat.min_eq_left h3] at e2
 rw [takeN_some _ _ (by rw [List.length_take] at h2; omega), e2]
theorem nth_mid {α : Type} : ∀ {a b : List α} {x : α}, nth (a ++ x :: b) a.length = some x
 | [], _, _ => rfl
 | _ :: a, b, x => nth_mid (a := a)
theorem HoldG.grow {S0 S S' : St} {l : List (Nat × Blk)} {g : Gr} (hl : HoldG S0 [S0] S l []) (hk : Keep S S') (hg : Grow S S' g) : ∃ fr, GB g.v g.e g.z g.c g.n fr ∧ HoldG S0 [S0] S' (fr ++ l) [] := by
 have h2 := hl.call hk
 rcases hg with ⟨h, hc, hn⟩ | ⟨b, kin, h1, hb, hb2, hgt, hlen⟩
 ·exact ⟨[], .inl ⟨h, hc, hn, rfl⟩, h2⟩
 ·refine ⟨[(b, .cells g.c g.e true true kin)], .inr ⟨b, kin, h1, hlen, rfl⟩, h2.keep, ?_, fun c y hc => ?_, h2.rk, fun g hg => (List.not_mem_nil hg).elim⟩
  ·refine List.nodup_cons.2 ⟨fun hm => ?_, h2.nd⟩
   obtain ⟨⟨c, y⟩, hc, rfl⟩ := List.mem_map.1 hm
   have := (hl.at_ c y hc).2.2
   have hb' : S.size ≤ c := hb
   omega
  ·rcases List.mem_cons.1 hc with e | hc
   ·cases e
    exact ⟨hgt, Nat.le_trans hl.keep.1 hb, hb2⟩
   ·exact h2.at_ c y hc
theorem nth_zip {α β γ : Type} (f : α → β → γ) : ∀ {l : List α} {r : List β} {i : Nat} {x : α} {y : β}, nth l i = some x → nth r i = some y → nth (List.zipWith f l r) i = some (f x y)
 | _ :: _, _ :: _, 0, _, _, h, k => by cases h; cases k; rfl
 | _ :: l, _ :: r, i + 1, x, y, h, k => nth_zip f (l := l) (r := r) (i := i) h k
theorem repl_iz : ∀ V : List (List Ev), replL V.length [Value.int .i64 0] = (V.map fun _ => 0).map iz
 | [] => rfl
 | _ :: V => by
  show [Value.int .i64 0] ++ replL V.length [Value.int .i64 0] = _
  rw [repl_iz V]
  rfl
theorem sl_done {Sb S' : St} {z : Fr} {V : List (List Ev)} {n : Nat} {A : List Nat} {D : List (Sl × Value)} {ov : Value} {fo rest fa C : List (Nat × Blk)} (hn : (moE V).length ≤ n + 1) (h1 : (slE V).1 = D.map (·.1) ++ (slG V ((moE V).drop n) A).1) (h2 : (slE V).2 = (slG V ((moE V).drop n) A).2) (hE : ∀ x, x ∈ D → EvIn x rest) (hg : GB ov 131 5 (cD D) D.length fo) (hl : HoldG Sb [Sb] S' (C ++ (z.l ov ++ (fa ++ (fo ++ rest)))) []) : SlQ Sb z V S' := by
 have e : slG V ((moE V).drop n) A = ([], 0) := slG_end (by rw [List.length_drop]; omega)
 rw [e] at h1 h2
 refine .inl ⟨h2, D, ov, fo, C ++ (fa ++ rest), by rw [h1]; exact (List.append_nil _).symm, fun x hx => (hE x hx).mono fun p hp => by simp [hp], hg, hl.perm (perm8 C (z.l ov) fa fo rest)⟩
theorem nth_unmap2 {α β : Type} {f : α → β} : ∀ {l : List α} {k : Nat} {y : β}, nth (l.map f) k = some y → ∃ x, nth l k = some x ∧ y = f x
 | [], _, _, h => by cases h
 | x :: _, 0, y, h => by cases h; exact ⟨x, rfl, rfl⟩
 | _ :: l, k + 1, y, h => nth_unmap2 (l := l) (k := k) h
theorem nth_at {P Q : List Nat} {k j : Nat} (h : P.length = j) : nth ((P ++ k :: Q).map iz) (0 + ((j : Nat) : Int).toNat * 1) = some (.int .i64 (k : Int)) := by
 subst h
 rw [List.map_append, List.map_cons, show 0 + ((P.length : Nat) : Int).toNat * 1 = (P.map iz).length by rw [List.length_map]; omega]
 exact nth_mid
theorem set_at {P Q : List Nat} {k k2 j : Nat} (h : P.length = j) : setN (0 + ((j : Nat) : Int).toNat * 1) (cellsL (.int .i64 (k2 : Int))) ((P ++ k :: Q).map iz) = some ((P ++ k2 :: Q).map iz) := by
 subst h
 rw [List.map_append, List.map_cons, show 0 + ((P.length : Nat) : Int).toNat * 1 = (P.map iz).length by rw [List.length_map]; omega, List.map_append, List.map_cons]
 exact setN_mid _
theorem moG_len : ∀ (V : List (List Ev)) (O : List Ti), (∀ x, x ∈ V → x.length ≤ 2000) → (moG V O).length ≤ O.length + 2001 * V.length
 | [], O, _ => by show O.length ≤ _; omega
 | v :: r, O, h => by
  rw [mo_step]
  have h1 := moG_len r (mgE O (owE v)) (fun x hx => h x (List.mem_cons_of_mem _ hx))
  have h2 := mgE_len O (owE v)
  have h3 := ow_len v
  have h4 := h v (List.mem_cons_self ..)
  rw [List.length_cons]
  omega
theorem moE_len {V : List (List Ev)} (hn : V.length ≤ 8) (h : ∀ x, x ∈ V → x.length ≤ 2000) : (moE V).length ≤ 20000 := by
 have := moG_len V [] h
 unfold moE
 simp at this
 omega
theorem round_ok0 {Sb S : St} (z : Fr) (hz : Has 29 ⟨29, z.t, []⟩ [(6, ptrTo z.b6 0), (3, ptrTo z.b3 0), (2, ptrTo z.b2 0)]) {own fo : List (Nat × Blk)} {ov : Value} {D : List (Sl × Value)} {x : Sl} {a : Option Addr} {m c : Nat} {e : Int} (he : e = 0) (hD : D.length ≤ 100000) (hg : GB ov 131 5 (cD D) D.length fo) (hl : HoldG Sb [Sb] S (own ++ (z.l ov ++ fo)) []) :
  CT Tryd.prog KK (.fn (.yield z.lb) #[]) [aggL (slC (x, .slice a m c)), .int .i64 e] S fun r S' => r = .returned (.bool true) ∧ ∃ ov' fo', GB ov' 131 5 (cD (D ++ [(x, Value.slice a m c)])) (D ++ [(x, Value.slice a m c)]).length fo' ∧ HoldG Sb [Sb] S' (own ++ (z.l ov' ++ fo')) [] := by
 subst he
 exact round_ok z hz hD hg hl
theorem hr_1 {v : List Ev} {t : Ti} {k : Nat} (h : decide ((cmpE (endE v).1 t).1 ≤ 0) = true) : (-1 : Int) = hrE v t k := by unfold hrE; rw [h]; rfl
theorem hr_2 {v : List Ev} {t : Ti} {k : Nat} (h : decide ((cmpE (endE v).1 t).1 ≤ 0) = false) : (k : Int) = hrE v t k := by unfold hrE; rw [h]; rfl
theorem upd_ok {V : List (List Ev)} {t : Ti} {A : List Nat} (hl : A.length = V.length) (hA : ∀ j k x, nth A j = some k → nth V j = some x → k ≤ x.length) : (upd V t A).length = V.length ∧ ∀ j k x, nth (upd V t A) j = some k → nth V j = some x → k ≤ x.length := by
 refine ⟨by unfold upd; rw [List.length_zipWith]; omega, fun j k x hk hx => ?_⟩
 obtain ⟨k0, hk0⟩ := nth_some (l := A) (i := j) (by have := nth_lt hx; omega)
 have h2 : nth (upd V t A) j = some (advE x t k0) := nth_zip _ hx hk0
 rw [h2] at hk
 cases hk
 exact adv_le _ _ _ _ (hA j k0 x hk0 hx)
end Go.Proofs.YtlnenodplgpceaaDoor
namespace Go.Proofs.YtlnenodplgpceaaDoor
open Go.Cm Go
set_option maxRecDepth 100000
variable {S : St}
noncomputable def c73 : Code := Tryd.f73.body.getD .skip
theorem spec73 {Sb S : St} (z : Fr) (hz : Has 29 ⟨29, z.t, []⟩ [(6, ptrTo z.b6 0), (3, ptrTo z.b3 0), (2, ptrTo z.b2 0)]) (aV : Option Addr) (cV : Nat) (V : List (List Ev)) (hcp : z.cp = .slice aV V.length cV) (hF : Fresh Sb) (hn : V.length ≤ 8) (hV : ∀ x, x ∈ V → x.length ≤ 2000) (hv : Vs Sb (.slice aV V.length cV) V) (hl : HoldG Sb [Sb] S (z.l (.slice none 0 0)) []) : CC Tryd.prog KK 73 [.func (.yield z.lb) #[] #[], ptrTo z.bp 0] S (fun v S' => v = tupV [] ∧ SlQ Sb z V S') := by
 refine cc_enter (c := c73) (n := 117) Tryd.func73 rfl rfl rfl (by kernel_rfl) rfl rfl ?_; refine xs (by kernel_rfl) ?_; refine rr rfl (rd_load rfl rfl (load1_of (v := .slice aV V.length cV) (by kernel_rfl) (hl.get 5 rfl) (congrArg some hcp))) ?_
 refine re_callL hl rfl rfl rfl rfl rfl rfl rfl (spec74 aV cV V (hl.keep.3 hF) hn hV (hv.move (hl.since 0 rfl))) ?_; have hl0 := hl; rintro v S1 hk1 ⟨am, rfl, hgm⟩ hl; obtain ⟨fa, hfa, hl⟩ := HoldG.grow hl0 hk1 hgm; clear hgm hl0; have hl := hl.perm List.perm_append_comm
 refine rm rfl ?_; refine re_end rfl ?_; refine xs (by kernel_rfl) ?_; refine rr rfl (rd_load rfl rfl (load1_of (v := .slice aV V.length cV) (by kernel_rfl) (hl.get 5 rfl) (congrArg some hcp))) ?_; refine rr rfl (rd_len rfl rfl (len_slice Tryd.underlying25)) ?_; refine re_makeSliceK hl rfl rfl rfl rfl rfl rfl rfl rfl rfl Tryd.underlying22 (z := .int .i64 0) (by kernel_rfl) (by kernel_rfl) (by unfold maxNeed; omega) ?_; intro B17 S1 hl; refine rm rfl ?_; refine re_end rfl ?_; refine xs (by kernel_rfl) ?_; refine rm rfl ?_; refine re_end rfl ?_; refine xp_block rfl ?_
 -- LOOP
 have hml : (moE V).length ≤ 20000 := moE_len hn hV
 rw [show cellsL (Value.int .i64 0) = [Value.int .i64 0] from rfl] at hl
 refine xe_sub (L' := [(5, .int .i64 0), (4, .slice (some ⟨B17, 0, none⟩) V.length V.length), (3, .slice am (moE V).length (moE V).length), (0, .func (.yield z.lb) #[] #[]), (1, ptrTo z.bp 0)]) ⟨rfl, rfl, rfl, rfl, rfl, trivial⟩ ?_
 refine xp_loop rfl (fun m Le S' => ∃ (n : Nat) (A : List Nat) (D : List (Sl × Value)) (ov : Value) (fo rest : List (Nat × Blk)), n ≤ (moE V).length ∧ m = (moE V).length - n ∧ A.length = V.length ∧ (∀ j k x, nth A j = some k → nth V j = some x → k ≤ x.length) ∧ D.length = n ∧ (slE V).1 = D.map (·.1) ++ (slG V ((moE V).drop n) A).1 ∧ (slE V).2 = (slG V ((moE V).drop n) A).2 ∧ (∀ x, x ∈ D → EvIn x rest) ∧ GB ov 131 5 (cD D) D.length fo ∧ SubE [(5, .int .i64 (n : Int)), (4, .slice (some ⟨B17, 0, none⟩) V.length V.length), (3, .slice am (moE V).length (moE V).length), (0, .func (.yield z.lb) #[] #[]), (1, ptrTo z.bp 0)] Le ∧ HoldG Sb [Sb] S' ((B17, Blk.cells ((A).map iz) 3 true true []) :: (z.l ov ++ (fa ++ (fo ++ rest)))) []) ?_ (m := (moE V).length) ⟨0, V.map fun _ => 0, [], .slice none 0 0, [], [], Nat.zero_le _, rfl, by simp, by intro j k x hk _; obtain ⟨y, _, e⟩ := nth_unmap2 hk; rw [e]; exact Nat.zero_le _, rfl, rfl, rfl, fun x hx => (List.not_mem_nil hx).elim, .inl ⟨rfl, rfl, rfl, rfl⟩, ⟨rfl, rfl, rfl, rfl, rfl, trivial⟩, by rw [repl_iz] at hl; simpa using hl⟩
 clear hl; rintro m Le S' ⟨n, A, D, ov, fo, rest, hnl, rfl, hAl, hA, hDn, hs1, hs2, hE, hg, hsub, hl⟩; refine xe_sub hsub ?_
 refine xp_seq rfl ?_; refine xs (by kernel_rfl) ?_; refine rm rfl ?_; refine rr rfl (rd_bin rfl rfl rfl (i6 (by omega))) ?_; refine rm rfl ?_; refine rr rfl (rd_len rfl rfl (len_slice Tryd.underlying44)) ?_; refine rr rfl (rd_bin rfl rfl rfl rfl) ?_; refine re_end rfl ?_; refine xp_cond rfl rfl (fun h22 => ?_) (fun h22 => ?_)
 ·
  have hlt : n + 1 < (moE V).length := by have := of_decide_eq_true h22; omega
  obtain ⟨t, ht⟩ := nth_some (l := moE V) (i := n) (by omega)
  obtain ⟨u, hu⟩ := nth_some hlt
  rcases hfa with ⟨_, _, h0, _⟩ | ⟨ba, kin, hva, hcl, rfl⟩
  ·have h0 : (moE V).length = 0 := h0
   omega
  have hva : Value.slice am (moE V).length (moE V).length = .slice (some ⟨ba, 0, none⟩) (moE V).length (moE V).length := hva
  injection hva with hva _ _
  subst hva
  rw [drop_nth' ht, drop_nth' hu] at hs1 hs2
  have hu2 : nth (moE V) (((n : Int) + 1)).toNat = some u := hu
  have hnn : n ≤ 20000 := by omega
  refine xp_skip rfl ?_; refine xp_seq rfl ?_; refine xp_block rfl ?_; refine xp_seq rfl ?_; refine xp_draw (idx := [0, 1, 2, 3, 4, 5, 6, 7, 8, 13, 9, 10, 11, 12, 14, 15]) rfl (by kernel_rfl) (by kernel_rfl) ?_; iterate 2 refine pm rfl ?_
  refine pr rfl (rd_bin rfl rfl rfl (i6 (by omega))) ?_; refine pr rfl (rd_indexAddr rfl rfl rfl (indexAddr_slice (z := 2) Tryd.underlying44 (by kernel_rfl) ⟨by omega, by omega⟩)) ?_; refine pk rfl (rd_load rfl rfl (loadN_of (z := 2) (by kernel_rfl) (by kernel_rfl) (hl.get 7 rfl) (flat_take (f := Ti.cells) (fun _ => rfl) hu2))) ?_; iterate 2 refine pm rfl ?_
  refine pr rfl (rd_indexAddr rfl rfl rfl (indexAddr_slice (z := 2) Tryd.underlying44 (by kernel_rfl) ⟨by omega, by omega⟩)) ?_; refine pk rfl (rd_load rfl rfl (loadN_of (z := 2) (by kernel_rfl) (by kernel_rfl) (hl.get 7 rfl) (flat_take (f := Ti.cells) (fun _ => rfl) ht))) ?_; refine rp_allocL hF hl rfl rfl rfl rfl rfl (z := [.int .i64 0, .int .i64 0]) (by kernel_rfl) ?_; intro B6 S6 hl
  refine rp_callL hl rfl rfl rfl rfl rfl rfl rfl (spec75 u t (hl.keep.3 hF)) ?_; rintro v S1 hk1 rfl hl; refine ⟨by repeat (first | exact trivial | refine stays_left ?_ | (refine ⟨by first | exact stays_load rfl rfl (loadN_of (z := 2) (by kernel_rfl) (by kernel_rfl) (hl.get 8 rfl) (flat_take (f := Ti.cells) (fun _ => rfl) hu2)) (same_agg rfl (by repeat (first | exact atoms_nil | refine atoms_cons (atom_int _ _) ?_ | refine atoms_cons (atom_bool _) ?_ | refine atoms_cons (atom_slice _ _ _) ?_ | refine atoms_cons (atom_string _) ?_))) rfl | exact stays_load rfl rfl (loadN_of (z := 2) (by kernel_rfl) (by kernel_rfl) (hl.get 8 rfl) (flat_take (f := Ti.cells) (fun _ => rfl) ht)) (same_agg rfl (by repeat (first | exact atoms_nil | refine atoms_cons (atom_int _ _) ?_ | refine atoms_cons (atom_bool _) ?_ | refine atoms_cons (atom_slice _ _ _) ?_ | refine atoms_cons (atom_string _) ?_))) rfl | exact stays_new rfl (hl.get 0 rfl) (sameL_atoms _ _ (by simp) (by repeat (first | exact atoms_nil | refine atoms_cons (atom_int _ _) ?_ | refine atoms_cons (atom_bool _) ?_ | refine atoms_cons (atom_slice _ _ _) ?_ | refine atoms_cons (atom_string _) ?_))) | exact stays_load rfl rfl (loadN_of (z := 2) (by kernel_rfl) (by kernel_rfl) (hl.get 0 rfl) rfl) (same_agg rfl (by repeat (first | exact atoms_nil | refine atoms_cons (atom_int _ _) ?_ | refine atoms_cons (atom_bool _) ?_ | refine atoms_cons (atom_slice _ _ _) ?_ | refine atoms_cons (atom_string _) ?_))) rfl | exact stays_load rfl rfl (load1_of (by kernel_rfl) (hl.get 0 rfl) rfl) (same_atom (by first | exact atom_int _ _ | exact atom_bool _ | exact atom_slice _ _ _)) rfl | exact stays_no (by dsimp only; decide +kernel), ?_⟩)), ?_⟩
  iterate 3 refine pm rfl ?_
  refine rp_storeL hl 0 rfl rfl rfl rfl rfl rfl rfl (by kernel_rfl) rfl ?_; intro S1 hl; refine ⟨stays_all (by kernel_rfl), ?_⟩
  refine pm rfl ?_; refine rp_end rfl ?_; refine xp_seq rfl ?_; refine xp_draw (idx := [0, 1, 2, 3, 4, 5, 6, 7]) rfl (by kernel_rfl) (by kernel_rfl) ?_; iterate 2 refine pm rfl ?_
  refine pr rfl (rd_indexAddr rfl rfl rfl (indexAddr_slice (z := 2) Tryd.underlying44 (by kernel_rfl) ⟨by omega, by omega⟩)) ?_; refine pk rfl (rd_load rfl rfl (loadN_of (z := 2) (by kernel_rfl) (by kernel_rfl) (hl.get 8 rfl) (flat_take (f := Ti.cells) (fun _ => rfl) ht))) ?_; refine pk rfl (rd_load rfl rfl (loadN_of (z := 2) (by kernel_rfl) (by kernel_rfl) (hl.get 0 rfl) rfl)) ?_; refine pr rfl (rd_build rfl rfl (v := aggL [.int .i64 t.n, .int .i64 t.d, .int .i64 (subE u t).1.n, .int .i64 (subE u t).1.d, .slice none 0 0]) (by rfl)) ?_
  refine rp_allocL hF hl rfl rfl rfl rfl rfl (z := zSl) (by kernel_rfl) ?_; intro B8 S8 hl
  refine rp_storeL hl 0 rfl rfl rfl rfl rfl rfl rfl (by kernel_rfl) rfl ?_; intro S1 hl; refine ⟨stays_all (by kernel_rfl), ?_⟩
  refine rp_end rfl ?_; refine xp_seq rfl ?_; refine xs (by kernel_rfl) ?_; refine rr rfl (rd_load rfl rfl (load1_of (v := .slice aV V.length cV) (by kernel_rfl) (hl.get 8 rfl) (congrArg some hcp))) ?_; refine rr rfl (rd_len rfl rfl (len_slice Tryd.underlying25)) ?_; refine rm rfl ?_; refine re_end rfl ?_; refine xp_block rfl ?_
  -- LOOP
  refine xe_sub (L' := [(46, .int .i64 0), (45, .int .i64 V.length), (8, ptrTo B8 0), (7, .int .i64 (subE u t).2), (5, .int .i64 (n : Int)), (4, .slice (some ⟨B17, 0, none⟩) V.length V.length), (3, .slice (some ⟨ba, 0, none⟩) (moE V).length (moE V).length), (0, .func (.yield z.lb) #[] #[]), (1, ptrTo z.bp 0)]) ⟨rfl, rfl, rfl, rfl, rfl, rfl, rfl, rfl, rfl, trivial⟩ ?_
  refine xp_loop rfl (fun m Le S' => ∃ (j : Nat) (E : List Int) (ev : Value) (fe : List (Nat × Blk)), j ≤ V.length ∧ m = V.length - j ∧ E = (evs V t A).take j ∧ E.length = j ∧ GB ev 3 1 (E.map (Value.int .i64)) E.length fe ∧ SubE [(46, .int .i64 (j : Int)), (45, .int .i64 V.length), (8, ptrTo B8 0), (7, .int .i64 (subE u t).2), (5, .int .i64 (n : Int)), (4, .slice (some ⟨B17, 0, none⟩) V.length V.length), (3, .slice (some ⟨ba, 0, none⟩) (moE V).length (moE V).length), (0, .func (.yield z.lb) #[] #[]), (1, ptrTo z.bp 0)] Le ∧ HoldG Sb [Sb] S' ((B8, Blk.cells [.int .i64 t.n, .int .i64 t.d, .int .i64 (subE u t).1.n, .int .i64 (subE u t).1.d, ev] 131 false true []) :: (B6, Blk.cells (subE u t).1.cells 33 false true []) :: (B17, Blk.cells (((upd V t A).take j ++ A.drop j).map iz) 3 true true []) :: (z.l ov ++ ([(ba, Blk.cells ((moE V).map Ti.cells).flatten 33 true true kin)] ++ (fe ++ (fo ++ rest))))) []) ?_ (m := V.length) ⟨0, [], .slice none 0 0, [], Nat.zero_le _, rfl, rfl, rfl, .inl ⟨rfl, rfl, rfl, rfl⟩, ⟨rfl, rfl, rfl, rfl, rfl, rfl, rfl, rfl, rfl, trivial⟩, hl⟩
  clear hl; rintro m Le S' ⟨j, E, ev, fe, hj, rfl, hEe, hEl, hge, hsub2, hl⟩; refine xe_sub hsub2 ?_
  refine xs (by kernel_rfl) ?_; refine rr rfl (rd_bin rfl rfl rfl rfl) ?_; refine re_end rfl ?_; refine xp_seq rfl ?_; refine xp_cond rfl rfl (fun h47 => ?_) (fun h47 => ?_)
  ·
   have hlt2 : j < V.length := by have := of_decide_eq_true h47; omega
   obtain ⟨x, hx⟩ := nth_some hlt2
   obtain ⟨k0, hk0⟩ := nth_some (l := A) (i := j) (by omega)
   obtain ⟨b1, o1, cs1, aw, cw, ha, _, hrow, htk, hvx⟩ := hv.elem hx
   have hxl : x.length ≤ 2000 := hV x (nth_mem hx)
   have hk0x := hA j k0 x hk0 hx
   have hPl : (upd V t A).length = V.length := by unfold upd; rw [List.length_zipWith]; omega
   have hPt : ((upd V t A).take j).length = j := by rw [List.length_take]; omega
   have hUj : nth (upd V t A) j = some (advE x t k0) := nth_zip _ hx hk0
   have hEj : nth (evs V t A) j = some (hrE x t (advE x t k0)) := nth_zip _ hx hk0
   rw [drop_nth' hk0] at hl
   refine xp_skip rfl ?_; refine xp_seq rfl ?_; refine xp_block rfl ?_; refine xs (by kernel_rfl) ?_; iterate 2 refine rm rfl ?_
   refine re_end rfl ?_; refine xp_seq rfl ?_; refine xp_block rfl ?_
   -- LOOP
   refine xe_sub (L' := [(9, .int .i64 (j : Int)), (46, .int .i64 (j : Int)), (45, .int .i64 V.length), (8, ptrTo B8 0), (7, .int .i64 (subE u t).2), (5, .int .i64 (n : Int)), (4, .slice (some ⟨B17, 0, none⟩) V.length V.length), (3, .slice (some ⟨ba, 0, none⟩) (moE V).length (moE V).length), (0, .func (.yield z.lb) #[] #[]), (1, ptrTo z.bp 0)]) ⟨rfl, rfl, rfl, rfl, rfl, rfl, rfl, rfl, rfl, rfl, trivial⟩ ?_
   refine xp_loop rfl (fun m Le S' => ∃ k : Nat, k ≤ x.length ∧ m = x.length - k ∧ advE x t k = advE x t k0 ∧ SubE [(9, .int .i64 (j : Int)), (46, .int .i64 (j : Int)), (45, .int .i64 V.length), (8, ptrTo B8 0), (7, .int .i64 (subE u t).2), (5, .int .i64 (n : Int)), (4, .slice (some ⟨B17, 0, none⟩) V.length V.length), (3, .slice (some ⟨ba, 0, none⟩) (moE V).length (moE V).length), (0, .func (.yield z.lb) #[] #[]), (1, ptrTo z.bp 0)] Le ∧ HoldG Sb [Sb] S' ((B8, Blk.cells [.int .i64 t.n, .int .i64 t.d, .int .i64 (subE u t).1.n, .int .i64 (subE u t).1.d, ev] 131 false true []) :: (B6, Blk.cells (subE u t).1.cells 33 false true []) :: (B17, Blk.cells (((upd V t A).take j ++ k :: A.drop (j + 1)).map iz) 3 true true []) :: (z.l ov ++ ([(ba, Blk.cells ((moE V).map Ti.cells).flatten 33 true true kin)] ++ (fe ++ (fo ++ rest))))) []) ?_ (m := x.length - k0) ⟨k0, hk0x, rfl, rfl, ⟨rfl, rfl, rfl, rfl, rfl, rfl, rfl, rfl, rfl, rfl, trivial⟩, hl⟩
   clear hl; rintro m Le S' ⟨k, hkx, rfl, hadv, hsub3, hl⟩; refine xe_sub hsub3 ?_
   have hat : ∀ k : Nat, nth (((upd V t A).take j ++ k :: A.drop (j + 1)).map iz) (0 + ((j : Nat) : Int).toNat * 1) = some (.int .i64 (k : Int)) := fun k => nth_at hPt
   refine xp_seq rfl ?_; refine xp_seq rfl (xe_toE hl 79 (.bool (advB x t k)) ?_ rfl ?_)
   ·
    refine xp_draw (idx := [0, 1, 2, 3, 4, 5, 6, 7, 8, 9, 10, 11, 12, 13, 14, 15, 16, 17, 18, 19, 20, 21, 22, 23, 24, 25, 26, 27, 28, 29, 30]) rfl (by kernel_rfl) (by kernel_rfl) ?_; iterate 2 refine pm rfl ?_
    refine pr rfl (rd_indexAddr rfl rfl rfl (indexAddr_slice (z := 1) Tryd.underlying22 (by kernel_rfl) ⟨by omega, by omega⟩)) ?_; refine pk rfl (rd_load rfl rfl (load1_of (by kernel_rfl) (hl.get 2 rfl) (hat k))) ?_; refine pr rfl (rd_bin rfl rfl rfl (i6 (by omega))) ?_; refine pk rfl (rd_load rfl rfl (load1_of (v := .slice aV V.length cV) (by kernel_rfl) (hl.get 8 rfl) (congrArg some hcp))) ?_; refine pm rfl ?_; refine pr rfl (rd_indexAddr rfl rfl rfl (indexAddr_sl (z := 1) ha Tryd.underlying25 (by kernel_rfl) ⟨by omega, by omega⟩)) ?_
    refine pk rfl (rd_load rfl rfl (load1_row (by kernel_rfl) (row_move (hl.since 0 rfl) hrow) htk)) ?_; refine pk rfl (rd_len rfl rfl (len_slice Tryd.underlying23)) ?_; refine pr rfl (rd_bin rfl rfl rfl rfl) ?_; refine pm rfl ?_; refine rp_bool (d := 60) rfl (fun h60 => ?_) (fun h60 => ?_)
    ·
     refine pk rfl (rd_load rfl rfl (load1_of (v := .slice aV V.length cV) (by kernel_rfl) (hl.get 8 rfl) (congrArg some hcp))) ?_
     have hk1 : k + 1 < x.length := by have := of_decide_eq_true h60; omega
     obtain ⟨y, hy⟩ := nth_some hk1
     obtain ⟨b2, o2, cs2, ha2, _, hrow2, htk2⟩ := hvx.elem hy
     refine pm rfl ?_; refine pr rfl (rd_indexAddr rfl rfl rfl (indexAddr_sl (z := 1) ha Tryd.underlying25 (by kernel_rfl) ⟨by omega, by omega⟩)) ?_; refine pk rfl (rd_load rfl rfl (load1_row (by kernel_rfl) (row_move (hl.since 0 rfl) hrow) htk)) ?_; iterate 2 refine pm rfl ?_
     refine pr rfl (rd_indexAddr rfl rfl rfl (indexAddr_slice (z := 1) Tryd.underlying22 (by kernel_rfl) ⟨by omega, by omega⟩)) ?_; refine pk rfl (rd_load rfl rfl (load1_of (by kernel_rfl) (hl.get 2 rfl) (hat k))) ?_; refine pr rfl (rd_bin rfl rfl rfl (i6 (by omega))) ?_; refine pr rfl (rd_indexAddr rfl rfl rfl (indexAddr_sl (z := 10) ha2 Tryd.underlying23 (by kernel_rfl) ⟨by omega, by omega⟩)) ?_; refine pr rfl (rd_fieldAddr rfl rfl (fa Tryd.underlying39 az39 rfl)) ?_
     refine pk rfl (rd_load rfl rfl (loadN_row (z := 2) (l := y.at_.cells) (by kernel_rfl) (by kernel_rfl) (row_move (hl.since 0 rfl) hrow2) (tk_part (j := 0) (l2 := y.at_.cells) htk2 rfl))) ?_; iterate 2 refine pm rfl ?_
     refine pr rfl (rd_indexAddr rfl rfl rfl (indexAddr_slice (z := 2) Tryd.underlying44 (by kernel_rfl) ⟨by omega, by omega⟩)) ?_; refine pk rfl (rd_load rfl rfl (loadN_of (z := 2) (by kernel_rfl) (by kernel_rfl) (hl.get 9 rfl) (flat_take (f := Ti.cells) (fun _ => rfl) ht))) ?_
     refine rp_callL hl rfl rfl rfl rfl rfl rfl rfl (spec76 y.at_ t) ?_; rintro v S1 hk1 rfl hl; refine ⟨stays_all (by kernel_rfl), ?_⟩
     refine pr rfl (rd_bin rfl rfl rfl rfl) ?_; refine pm rfl ?_; refine rp_end rfl ?_
     exact ⟨rfl, bl (by unfold advB atT; rw [h60, hy]; rfl), by repeat (first | exact subL_refl _ | refine subL_skip rfl ?_), hl⟩
    ·
     iterate 18 refine pz rfl ?_
     refine pm rfl ?_; refine rp_end rfl ?_
     exact ⟨rfl, bl (by unfold advB; rw [h60]; rfl), by repeat (first | exact subL_refl _ | refine subL_skip rfl ?_), hl⟩
   intro S1 hl
   refine xp_cond rfl rfl (fun h79 => ?_) (fun h79 => ?_)
   ·
    have hk1 := advB_lt h79
    refine xp_skip rfl ?_; refine xp_block rfl ?_; refine xg (by kernel_rfl) ?_; iterate 2 refine rm rfl ?_
    refine rr rfl (rd_indexAddr rfl rfl rfl (indexAddr_slice (z := 1) Tryd.underlying22 (by kernel_rfl) ⟨by omega, by omega⟩)) ?_; refine rr rfl (rd_load rfl rfl (load1_of (by kernel_rfl) (hl.get 2 rfl) (hat k))) ?_; refine rr rfl (rd_bin rfl rfl rfl (i6 (by omega))) ?_; refine rr rfl (rd_indexAddr rfl rfl rfl (indexAddr_slice (z := 1) Tryd.underlying22 (by kernel_rfl) ⟨by omega, by omega⟩)) ?_; refine re_storeR hl 2 rfl rfl rfl rfl rfl rfl rfl (by kernel_rfl) (set_at (k2 := k + 1) hPt) ?_; intro S1 hl; refine re_end rfl ?_
    exact ⟨x.length - (k + 1), by omega, k + 1, by omega, rfl, by rw [← advE_go h79]; exact hadv, ⟨rfl, rfl, rfl, rfl, rfl, rfl, rfl, rfl, rfl, rfl, trivial⟩, hl⟩
   ·
    have hke : k = advE x t k0 := by rw [← hadv, advE_stop h79]
    refine xp_exit rfl ?_; refine xs (by kernel_rfl) ?_; iterate 2 refine rm rfl ?_
    refine rr rfl (rd_indexAddr rfl rfl rfl (indexAddr_slice (z := 1) Tryd.underlying22 (by kernel_rfl) ⟨by omega, by omega⟩)) ?_; refine rr rfl (rd_load rfl rfl (load1_of (by kernel_rfl) (hl.get 2 rfl) (hat k))) ?_; refine rm rfl ?_; refine re_end rfl ?_
    refine xp_seq rfl (xe_cut (fun Le S' => SubE [(10, .int .i64 (hrE x t k)), (9, .int .i64 (j : Int)), (46, .int .i64 (j : Int)), (45, .int .i64 V.length), (8, ptrTo B8 0), (7, .int .i64 (subE u t).2), (5, .int .i64 (n : Int)), (4, .slice (some ⟨B17, 0, none⟩) V.length V.length), (3, .slice (some ⟨ba, 0, none⟩) (moE V).length (moE V).length), (0, .func (.yield z.lb) #[] #[]), (1, ptrTo z.bp 0)] Le ∧ HoldG Sb [Sb] S' ((B8, Blk.cells [.int .i64 t.n, .int .i64 t.d, .int .i64 (subE u t).1.n, .int .i64 (subE u t).1.d, ev] 131 false true []) :: (B6, Blk.cells (subE u t).1.cells 33 false true []) :: (B17, Blk.cells (((upd V t A).take j ++ k :: A.drop (j + 1)).map iz) 3 true true []) :: (z.l ov ++ ([(ba, Blk.cells ((moE V).map Ti.cells).flatten 33 true true kin)] ++ (fe ++ (fo ++ rest))))) []) ?_ ?_)
    ·
     refine xs (by kernel_rfl) ?_; refine rr rfl (rd_load rfl rfl (load1_of (v := .slice aV V.length cV) (by kernel_rfl) (hl.get 8 rfl) (congrArg some hcp))) ?_; refine rm rfl ?_; refine rr rfl (rd_indexAddr rfl rfl rfl (indexAddr_sl (z := 1) ha Tryd.underlying25 (by kernel_rfl) ⟨by omega, by omega⟩)) ?_; refine rr rfl (rd_load rfl rfl (load1_row (by kernel_rfl) (row_move (hl.since 0 rfl) hrow) htk)) ?_
     refine re_callL hl rfl rfl rfl rfl rfl rfl rfl (spec77 aw cw x (hl.keep.3 hF) (hvx.move (hl.since 0 rfl))) ?_; rintro v S1 hk1 rfl hl
     iterate 3 refine rm rfl ?_
     refine re_allocL hl rfl rfl rfl rfl rfl (z := [.int .i64 0, .int .i64 0]) (by kernel_rfl) ?_; intro B11 S11 hl; refine re_storeL hl 0 rfl rfl rfl rfl rfl rfl rfl (by kernel_rfl) rfl ?_; intro S1 hl; refine rm rfl ?_; refine re_end rfl ?_; refine xp_seq rfl ?_; refine xp_draw (idx := [0, 1, 2, 3, 4, 5, 6]) rfl (by kernel_rfl) (by kernel_rfl) ?_; refine pk rfl (rd_load rfl rfl (loadN_of (z := 2) (by kernel_rfl) (by kernel_rfl) (hl.get 0 rfl) rfl)) ?_; iterate 2 refine pm rfl ?_
     refine pr rfl (rd_indexAddr rfl rfl rfl (indexAddr_slice (z := 2) Tryd.underlying44 (by kernel_rfl) ⟨by omega, by omega⟩)) ?_; refine pk rfl (rd_load rfl rfl (loadN_of (z := 2) (by kernel_rfl) (by kernel_rfl) (hl.get 10 rfl) (flat_take (f := Ti.cells) (fun _ => rfl) ht))) ?_
     refine rp_callL hl rfl rfl rfl rfl rfl rfl rfl (spec76 (endE x).1 t) ?_; rintro v S1 hk1 rfl hl; refine ⟨stays_all (by kernel_rfl), ?_⟩
     refine pr rfl (rd_bin rfl rfl rfl rfl) ?_; refine rp_end rfl ?_; refine xp_cond rfl rfl (fun h104 => ?_) (fun h104 => ?_)
     ·
      refine xg (by kernel_rfl) ?_; refine rm rfl ?_; refine re_end rfl ?_
      exact ⟨rfl, ⟨congrArg some (congrArg (Value.int .i64) (hr_1 h104)), rfl, rfl, rfl, rfl, rfl, rfl, rfl, rfl, rfl, rfl, trivial⟩, hl.tail⟩
     ·
      refine xp_skip rfl ?_
      exact ⟨rfl, ⟨congrArg some (congrArg (Value.int .i64) (hr_2 h104)), rfl, rfl, rfl, rfl, rfl, rfl, rfl, rfl, rfl, rfl, trivial⟩, hl.tail⟩
    clear hl; rintro Le4 S1 ⟨hsub4, hl⟩; refine xe_sub hsub4 ?_
    refine xg (by kernel_rfl) ?_; refine rr rfl (rd_fieldAddr rfl rfl (fa Tryd.underlying131 az131 rfl)) ?_; refine rr rfl (rl hl 0 rfl rfl (by kernel_rfl) rfl rfl) ?_; refine rm rfl ?_; refine re_buildSliceR hl rfl rfl rfl rfl rfl Tryd.underlying22 rfl (c := [.int .i64 (hrE x t k)]) (by kernel_rfl) ?_; intro B108 S1 hr108 hl
    have hl : HoldG Sb [Sb] _ (([(B8, Blk.cells [.int .i64 t.n, .int .i64 t.d, .int .i64 (subE u t).1.n, .int .i64 (subE u t).1.d, ev] 131 false true []), (B6, Blk.cells (subE u t).1.cells 33 false true []), (B17, Blk.cells (((upd V t A).take j ++ k :: A.drop (j + 1)).map iz) 3 true true [])] ++ (z.l ov ++ [(ba, Blk.cells ((moE V).map Ti.cells).flatten 33 true true kin)])) ++ (fe ++ (fo ++ rest))) [] := hl
    have hl := hl.perm (List.perm_append_comm_assoc _ fe (fo ++ rest))
    refine re_appendB hl hge rfl rfl rfl rfl rfl rfl rfl Tryd.underlying22 Tryd.underlying22 rfl rfl (by decide) (by kernel_rfl) (src_row (new := [.int .i64 (hrE x t k)]) hr108 rfl) rfl rfl (by kernel_rfl) (by show E.length + 1 ≤ maxNeed; unfold maxNeed; omega) ?_; intro ev2 fe2 S1 hge2 hl
    have hl := hl.perm (List.perm_append_comm_assoc fe2 _ (fo ++ rest))
    obtain ⟨ea, rfl⟩ := GB.is hge2
    have hl : HoldG Sb [Sb] _ ((B8, Blk.cells [.int .i64 t.n, .int .i64 t.d, .int .i64 (subE u t).1.n, .int .i64 (subE u t).1.d, ev] 131 false true []) :: (B6, Blk.cells (subE u t).1.cells 33 false true []) :: (B17, Blk.cells (((upd V t A).take j ++ k :: A.drop (j + 1)).map iz) 3 true true []) :: (z.l ov ++ ([(ba, Blk.cells ((moE V).map Ti.cells).flatten 33 true true kin)] ++ (fe2 ++ (fo ++ rest))))) [] := hl
    refine rr rfl (rd_fieldAddr rfl rfl (fa Tryd.underlying131 az131 rfl)) ?_; refine re_storeL hl 0 rfl rfl rfl rfl rfl rfl rfl (by kernel_rfl) rfl ?_; intro S1 hl; refine re_end rfl ?_; refine xg (by kernel_rfl) ?_; refine rr rfl (rd_bin rfl rfl rfl (i6 (by omega))) ?_; refine rm rfl ?_; refine re_end rfl ?_
    refine ⟨V.length - (j + 1), by omega, j + 1, E ++ [hrE x t k], .slice ea (E.length + 1) (E.length + 1), fe2, by omega, rfl, by rw [take_nth' hEj, ← hEe, ← hke], by rw [List.length_append, hEl]; rfl, by rw [List.map_append, List.length_append]; exact hge2, ⟨rfl, rfl, rfl, rfl, rfl, rfl, rfl, rfl, rfl, trivial⟩, ?_⟩
    rw [take_nth' hUj, ← hke, List.append_assoc]
    exact hl
  ·
   refine xp_exit rfl ?_; refine xs (by kernel_rfl) ?_; refine rm rfl ?_; refine rr rfl (rd_load rfl rfl (loadN_of (z := 5) (by kernel_rfl) (by kernel_rfl) (hl.get 0 rfl) rfl)) ?_; refine rm rfl ?_
   have hjV : j = V.length := by have := of_decide_eq_false h47; omega
   have hUl0 := (upd_ok (t := t) hAl hA).1
   obtain ⟨ea, rfl⟩ := GB.is hge
   have hEV : E = evs V t A := by rw [hEe, List.take_of_length_le (by unfold evs; rw [List.length_zipWith]; omega)]
   rw [List.take_of_length_le (by omega), List.drop_eq_nil_of_le (by omega), List.append_nil] at hl
   have hl : HoldG Sb [Sb] _ ([(B8, Blk.cells [.int .i64 t.n, .int .i64 t.d, .int .i64 (subE u t).1.n, .int .i64 (subE u t).1.d, (.slice ea E.length E.length)] 131 false true []), (B6, Blk.cells (subE u t).1.cells 33 false true []), (B17, Blk.cells (((upd V t A)).map iz) 3 true true [])] ++ (z.l ov ++ ([(ba, Blk.cells ((moE V).map Ti.cells).flatten 33 true true kin)] ++ (fe ++ (fo ++ rest))))) [] := hl
   have hl := hl.perm (perm5 _ _ _ _ _ _)
   cases he : ((subE u t).2 != 0) with
   | true =>
    rw [slG_1 he] at hs2
    refine re_callT rfl rfl rfl rfl rfl rfl rfl (ct_mono (round_err z hz (x := ⟨t, (subE u t).1, E⟩) he hl) ?_); rintro r S2 ⟨rfl, hl⟩
    refine rr rfl (rd_un rfl rfl rfl) ?_; refine re_end rfl ?_; refine xp_cond rfl rfl (fun h116 => ?_) (fun h116 => ?_)
    ·refine xp_ret rfl ?_
     refine blk_ret (thn_ret (round_ret (blk_ret (done_ret rfl ⟨rfl, .inr ⟨by rw [hs2]; simpa using he, ov, fo ++ ([(B8, Blk.cells [.int .i64 t.n, .int .i64 t.d, .int .i64 (subE u t).1.n, .int .i64 (subE u t).1.d, (.slice ea E.length E.length)] 131 false true []), (B6, Blk.cells (subE u t).1.cells 33 false true []), (B17, Blk.cells (((upd V t A)).map iz) 3 true true [])] ++ ([(ba, Blk.cells ((moE V).map Ti.cells).flatten 33 true true kin)] ++ (fe ++ rest))), by rw [hs2]; exact hl.perm (perm7 _ _ _)⟩⟩))))
    ·exact absurd h116 (by decide)
   | false =>
    have he0 : (subE u t).2 = 0 := by simpa using he
    rw [slG_2 he] at hs1 hs2
    rw [← hEV] at hs1
    refine re_callT rfl rfl rfl rfl rfl rfl rfl (ct_mono (round_ok0 z hz (x := ⟨t, (subE u t).1, E⟩) he0 (by omega) hg hl) ?_); rintro r S2 ⟨rfl, ov2, fo2, hg2, hl⟩
    refine rr rfl (rd_un rfl rfl rfl) ?_; refine re_end rfl ?_; refine xp_cond rfl rfl (fun h116 => ?_) (fun h116 => ?_)
    ·exact absurd h116 (by decide)
    refine xp_skip rfl ?_; refine xg (by kernel_rfl) ?_; refine rm rfl ?_; refine rr rfl (rd_bin rfl rfl rfl (i6 (by omega))) ?_; refine rm rfl ?_; refine re_end rfl ?_
    obtain ⟨hUl, hUo⟩ := upd_ok (t := t) hAl hA
    refine ⟨(moE V).length - (n + 1), by omega, n + 1, upd V t A, D ++ [((⟨t, (subE u t).1, E⟩ : Sl), Value.slice ea E.length E.length)], ov2, fo2, fe ++ ([(B8, Blk.cells [.int .i64 t.n, .int .i64 t.d, .int .i64 (subE u t).1.n, .int .i64 (subE u t).1.d, (.slice ea E.length E.length)] 131 false true []), (B6, Blk.cells (subE u t).1.cells 33 false true [])] ++ rest), by omega, rfl, hUl, hUo, by rw [List.length_append, hDn]; rfl, ?_, ?_, ?_, hg2, ⟨rfl, rfl, rfl, rfl, rfl, trivial⟩, hl.perm (perm6 [(B8, Blk.cells [.int .i64 t.n, .int .i64 t.d, .int .i64 (subE u t).1.n, .int .i64 (subE u t).1.d, (.slice ea E.length E.length)] 131 false true []), (B6, Blk.cells (subE u t).1.cells 33 false true [])] [(B17, Blk.cells (((upd V t A)).map iz) 3 true true [])] (z.l ov2) [(ba, Blk.cells ((moE V).map Ti.cells).flatten 33 true true kin)] fe fo2 rest)⟩
    ·rw [drop_nth' hu, List.map_append, List.append_assoc]; exact hs1
    ·rw [drop_nth' hu]; exact hs2
    ·intro w hw
     rcases List.mem_append.1 hw with hw | hw
     ·exact (hE w hw).mono fun p hp => by simp [hp]
     ·rw [List.mem_singleton.1 hw]
      exact ⟨fe, hge, fun p hp => by simp [hp]⟩
 ·
  refine xp_exit rfl ?_
  exact ⟨[], rfl, rfl, sl_done (C := [(B17, Blk.cells ((A).map iz) 3 true true [])]) (by have := of_decide_eq_false h22; omega) hs1 hs2 hE hg hl⟩
end Go.Proofs.YtlnenodplgpceaaDoor
namespace Go.Proofs.YtlnenodplgpceaaDoor
open Go.Cm Go
set_option maxRecDepth 100000
variable {S : St}
def slsE (V : List (List Ev)) : List Sl × Int := bif (acE V).1 != 0 then ([], (acE V).1) else bif (slE V).2 != 0 then ([], (slE V).2) else ((slE V).1, 0)
theorem sls_1 {V : List (List Ev)} (h : ((acE V).1 != 0) = true) : slsE V = ([], (acE V).1) := by unfold slsE; rw [h]; rfl
theorem sls_2 {V : List (List Ev)} (h : ((acE V).1 != 0) = false) (h2 : (slE V).2 ≠ 0) : slsE V = ([], (slE V).2) := by
 unfold slsE
 rw [h, show ((slE V).2 != 0) = true by simpa using h2]
 rfl
theorem sls_3 {V : List (List Ev)} (h : ((acE V).1 != 0) = false) (h2 : (slE V).2 = 0) : slsE V = ((slE V).1, 0) := by
 unfold slsE
 rw [h, h2]
 rfl
theorem acG_ok : ∀ (V : List (List Ev)) (i : Nat), (acG V i).1 = 0 → ∀ x, x ∈ V → x.length ≤ 2000
 | [], _, _, x, hx => (List.not_mem_nil hx).elim
 | v :: r, i, h, x, hx => by
  cases hb : ((evE v).1 != 0) with
  | true =>
   rw [acG_1 hb] at h
   have h' : (evE v).1 = 0 := h
   rw [h'] at hb; cases hb
  | false =>
   rw [acG_2 hb] at h
   rcases List.mem_cons.1 hx with rfl | hx
   ·exact ev_len hb
   ·exact acG_ok r (i + 1) h x hx
theorem ac_ok {V : List (List Ev)} (h : ((acE V).1 != 0) = false) : V.length ≤ 8 ∧ ∀ x, x ∈ V → x.length ≤ 2000 := by
 cases h1 : decide ((V.length : Int) > 8) with
 | true => rw [ac_1 h1] at h; cases h
 | false =>
  rw [ac_2 h1] at h
  exact ⟨by have := of_decide_eq_false h1; omega, acG_ok V 0 (by simpa using h)⟩
abbrev Ints (S : St) (v : Value) (l : List Int) : Prop := LsOf 3 1 (fun i => [Value.int .i64 i]) S v l
def Sls (S : St) (v : Value) (C : List Sl) : Prop := ∃ D : List (Sl × Value), LsOf 131 5 slC S v D ∧ D.map (·.1) = C ∧ ∀ x, x ∈ D → Ints S x.2 x.1.ev
theorem Sls.move {S S' : St} (h : RK S S') {v : Value} {C : List Sl} (hs : Sls S v C) : Sls S' v C := by
 obtain ⟨D, h1, h2, h3⟩ := hs
 exact ⟨D, h1.move h, h2, fun x hx => (h3 x hx).move h⟩
theorem Sls.nil {S : St} : Sls S (.slice none 0 0) [] := ⟨[], LsOf.nil, rfl, fun x hx => (List.not_mem_nil hx).elim⟩
theorem flat_one : ∀ l : List Int, (l.map fun i => [Value.int .i64 i]).flatten = l.map (Value.int .i64)
 | [] => rfl
 | x :: l => by rw [List.map_cons, List.flatten_cons, flat_one l]; rfl
theorem GB.ls {α : Type} {f : α → List Value} {e : TypeId} {z : Nat} {C : List α} {v : Value} {fr l : List (Nat × Blk)} {S0 S : St} {Ts : List St} (hz : ∀ x, (f x).length = z) (h : GB v e z ((C.map f).flatten) C.length fr) (hl : HoldG S0 Ts S l []) (hm : ∀ p, p ∈ fr → p ∈ l) : LsOf e z f S v C := by
 rcases h with ⟨rfl, _, h3, _⟩ | ⟨b, kin, rfl, _, rfl⟩
 ·have : C = [] := List.length_eq_zero_iff.1 h3
  subst this
  exact LsOf.nil
 ·obtain ⟨h1, _, h2⟩ := hl.at_ b _ (hm _ (List.mem_cons_self ..))
  exact LsOf.row hz ⟨h2, _, _, h1⟩ rfl
theorem sls_of {S0 S : St} {Ts : List St} {l fo : List (Nat × Blk)} {D : List (Sl × Value)} {v : Value} (hg : GB v 131 5 (cD D) D.length fo) (hl : HoldG S0 Ts S l []) (hf : ∀ p, p ∈ fo → p ∈ l) (hE : ∀ x, x ∈ D → EvIn x l) : Sls S v (D.map (·.1)) :=
 ⟨D, GB.ls (fun _ => rfl) hg hl hf, rfl, fun x hx => by
  obtain ⟨fr, h1, h2⟩ := hE x hx
  refine GB.ls (f := fun i => [Value.int .i64 i]) (fun _ => rfl) ?_ hl h2
  rw [flat_one]
  exact h1⟩
theorem tm_one {S : St} {d : Nat} (h : S.get d = some (.defs false)) : takeMarks [markOf d] S = some (S.set d (.defs true)) := by
 unfold markOf takeMarks
 rw [h]
 rfl
noncomputable def c61 : Code := Tryd.f61.body.getD .skip
theorem spec61 (a : Option Addr) (n cap : Nat) : CC Tryd.prog KK 61 [.slice a n cap] S (fun v S' => Keep S S' ∧ ∃ bp, v = .func (.func 73) #[] #[ptrTo bp 0] ∧ HoldG S [S] S' [(bp, .cells [.slice a n cap] 25 false true [])] []) := by
 refine cc_enter (c := c61) (n := 4) Tryd.func61 rfl rfl rfl (by kernel_rfl) rfl rfl ?_
 have hl := Hold.start S
 refine xs (by kernel_rfl) ?_; refine re_boxL hl rfl rfl rfl rfl rfl rfl ?_; intro B1 S1 hl; refine rm rfl ?_; refine re_end rfl ?_; refine xs (by kernel_rfl) ?_; refine rr rfl (rd_func rfl rfl rfl) ?_; refine rm rfl ?_; refine re_end rfl ?_; refine xp_ret rfl ?_
 refine done_ret (ress_tmp rfl rfl) ⟨hl.keep, ⟨B1, rfl, hl⟩⟩
theorem spec47 (a : Option Addr) (cap : Nat) (V : List (List Ev)) (hF : Fresh S) (hv : Vs S (.slice a V.length cap) V) : CC Tryd.prog KK 47 [.slice a V.length cap] S (fun v S' => Keep S S' ∧ ∃ w, v = tupV [w, .int .i64 (slsE V).2] ∧ Sls S' w (slsE V).1) := by
 refine cc_enterM (c := c47) (n := 29) Tryd.func47 rfl rfl rfl (by kernel_rfl) rfl rfl ?_
 have hl := Hold.start S
 refine xdp_seq rfl (xd_of_xe ?_); refine xg (by kernel_rfl) ?_; refine re_allocL hl rfl rfl rfl rfl rfl (z := [.slice none 0 0]) (by kernel_rfl) ?_; intro B2 S2 hl; refine re_allocL hl rfl rfl rfl rfl rfl (z := [.int .i64 0]) (by kernel_rfl) ?_; intro B3 S3 hl; refine re_end rfl ?_; refine xdp_seq rfl (xd_of_xe ?_); refine xs (by kernel_rfl) ?_; refine rm rfl ?_
 refine re_callL hl rfl rfl rfl rfl rfl rfl rfl (spec60 a cap V (hl.keep.3 hF) (hv.move (hl.since 0 rfl))) ?_; rintro v S1 hk1 rfl hl
 iterate 5 refine rm rfl ?_
 refine re_end rfl ?_; refine xs (by kernel_rfl) ?_; refine rm rfl ?_; refine rr rfl (rd_bin rfl rfl rfl rfl) ?_; refine re_end rfl ?_; refine xp_cond rfl rfl (fun h15 => ?_) (fun h15 => ?_)
 ·
  refine xs (by kernel_rfl) ?_; refine rm rfl ?_; refine re_storeL hl 1 rfl rfl rfl rfl rfl rfl rfl (by kernel_rfl) rfl ?_; intro S1 hl; refine re_storeL hl 0 rfl rfl rfl rfl rfl rfl rfl (by kernel_rfl) rfl ?_; intro S1 hl; refine re_end rfl ?_; refine xp_ret rfl ?_
  exact ⟨_, _, rfl, ress_cell rfl (load1_of (by kernel_rfl) (hl.get 1 rfl) rfl) (ress_cell rfl (load1_of (by kernel_rfl) (hl.get 0 rfl) rfl) rfl), hl.keep, .slice none 0 0, by rw [sls_1 h15], by rw [sls_1 h15]; exact Sls.nil⟩
 refine xp_skip rfl ?_
 obtain ⟨hn, hV⟩ := ac_ok h15
 refine xdp_seq rfl (xd_of_xe ?_); refine xg (by kernel_rfl) ?_; refine re_allocL hl rfl rfl rfl rfl rfl (z := [.slice none 0 0]) (by kernel_rfl) ?_; intro B6 S6 hl; refine re_end rfl ?_; refine xdp_seq rfl ?_; refine xdp_seq rfl (xd_of_xe ?_); refine xg (by kernel_rfl) ?_; refine rm rfl ?_
 have hl0 := hl
 refine re_callL hl rfl rfl rfl rfl rfl rfl rfl (spec61 a V.length cap) ?_; rintro v S7 hk7 ⟨bp, rfl, hb⟩ hl
 have hl := HoldG.join hl0 hb
 refine re_end rfl ?_; refine xdp_block rfl (xd_range rfl rfl rfl (by kernel_rfl) ?_)
 intro t ht
 have hl := (hl.new (.defs false)).new (.loop .ready none 29 t (rgP rf) (rgA rf) (rgB rf) S7.size)
 let z : Fr := ⟨S7.size + 1, S7.size, bp, B2, B3, B6, t, .slice a V.length cap⟩
 have hl : HoldG S [S] _ (z.l (.slice none 0 0)) [] := hl.perm (List.Perm.append_right [_] (List.perm_append_comm (l₁ := [_, _]) (l₂ := [_, _, _])))
 refine ct_mono (ct_func (ce_of_cc (spec73 z (ht.sub (L' := [(6, ptrTo B6 0), (3, ptrTo B3 0), (2, ptrTo B2 0)]) ⟨rfl, rfl, rfl, trivial⟩) a cap V rfl hF hn hV hv hl))) ?_
 rintro r S8 ⟨v, rfl, rfl, hq⟩
 rcases hq with ⟨h0, D, ov, fo, rest, hD, hE, hg, hl⟩ | ⟨hne, ov, rest, hl⟩
 ·
  obtain ⟨oa, rfl⟩ := GB.is hg
  refine ⟨_, _, _, _, _, _, _, _, hl.get 3 rfl, rfl, ?_⟩
  have hl := hl.put (k := 3) rfl rfl (.loop .exhausted none 29 t (rgP rf) (rgA rf) (rgB rf) S7.size)
  refine xdp_seq rfl (xd_of_xe ?_); refine xg (by kernel_rfl) ?_; refine rr rfl (rl hl 0 rfl rfl (by kernel_rfl) rfl rfl) ?_; refine re_storeL hl 2 rfl rfl rfl rfl rfl rfl rfl (by kernel_rfl) rfl ?_; intro S1 hl; refine re_storeL hl 1 rfl rfl rfl rfl rfl rfl rfl (by kernel_rfl) rfl ?_; intro S1 hl; refine re_end rfl ?_; refine xd_of_xe (xp_ret rfl ?_)
  have hd := hl.get 4 rfl
  have hl := hl.put (k := 4) rfl rfl (.defs true)
  refine ⟨_, _, tm_one hd, ress_cell rfl (load1_of (by kernel_rfl) (hl.get 2 rfl) rfl) (ress_cell rfl (load1_of (by kernel_rfl) (hl.get 1 rfl) rfl) rfl), hl.keep, .slice oa D.length D.length, by rw [sls_3 h15 h0], ?_⟩
  rw [sls_3 h15 h0, ← hD]
  have hl : HoldG S [S] _ ([(B6, _), (B3, _), (B2, _), (S7.size + 1, _), (S7.size, _), (bp, _)] ++ (fo ++ rest)) [] := hl
  exact sls_of hg hl (fun p hp => List.mem_append.2 (.inr (List.mem_append.2 (.inl hp)))) (fun x hx => (hE x hx).mono fun p hp => List.mem_append.2 (.inr (List.mem_append.2 (.inr hp))))
 ·
  refine ⟨_, _, _, _, _, _, _, _, hl.get 3 rfl, rfl, ?_⟩
  have hl := hl.put (k := 3) rfl rfl (.loop .exhausted (some .ret) 29 t (rgP rf) (rgA rf) (rgB rf) S7.size)
  have hd := hl.get 4 rfl
  have hl := hl.put (k := 4) rfl rfl (.defs true)
  exact ⟨_, _, tm_one hd, ress_cell rfl (load1_of (by kernel_rfl) (hl.get 2 rfl) rfl) (ress_cell rfl (load1_of (by kernel_rfl) (hl.get 1 rfl) rfl) rfl), hl.keep, .slice none 0 0, by rw [sls_2 h15 hne], by rw [sls_2 h15 hne]; exact Sls.nil⟩
end Go.Proofs.YtlnenodplgpceaaDoor
namespace Go.Proofs.YtlnenodplgpceaaDoor
open Go.Cm Go
set_option maxRecDepth 100000
variable {S : St}
theorem Sls.is {S : St} {v : Value} {C : List Sl} (h : Sls S v C) : ∃ a cap, v = .slice a C.length cap := by
 obtain ⟨D, h1, h2, _⟩ := h
 obtain ⟨a, cap, e⟩ := LsOf.is h1
 exact ⟨a, cap, by rw [e, ← h2, List.length_map]⟩
theorem Sls.elem {S : St} {a : Option Addr} {n cap : Nat} {C : List Sl} (h : Sls S (.slice a n cap) C) {k : Nat} {s : Sl} (hk : nth C k = some s) :
  ∃ b o cs aw cw, a = some ⟨b, o, none⟩ ∧ n = C.length ∧ RowAt S b 131 cs ∧ takeN 5 (dropN (o + k * 5) cs) = some [.int .i64 s.at_.n, .int .i64 s.at_.d, .int .i64 s.dur.n, .int .i64 s.dur.d, .slice aw s.ev.length cw] ∧ Ints S (.slice aw s.ev.length cw) s.ev := by
 obtain ⟨D, h1, rfl, h3⟩ := h
 obtain ⟨x, hx, rfl⟩ := nth_unmap2 hk
 obtain ⟨b, o, cs, e1, e2, e3, e4⟩ := LsOf.elem h1 hx
 have hi := h3 x (nth_mem hx)
 obtain ⟨aw, cw, e⟩ := LsOf.is hi
 rw [e] at hi
 refine ⟨b, o, cs, aw, cw, e1, by rw [List.length_map]; exact e2, e3, ?_, hi⟩
 rw [e4]
 unfold slC
 rw [e]
def WF (V : List (List Ev)) (L : List Sl) : Prop := ∀ n s, nth L n = some s → s.ev.length = V.length ∧ ∀ v i x, nth s.ev v = some i → nth V v = some x → i < (x.length : Int)
def e0 : Ev := ⟨t0, t0, p0, false, 0, 0⟩
def evI (L : List Sl) (n v : Nat) : Int := ((nth L n).bind fun s => nth s.ev v).getD (-1)
def evAt (V : List (List Ev)) (v : Nat) (i : Int) : Ev := ((nth V v).bind fun x => nth x i.toNat).getD e0
def snB (V : List (List Ev)) (L : List Sl) (v n : Nat) : Bool := decide (evI L n v < 0) || (evAt V v (evI L n v)).rest
def snE (V : List (List Ev)) (L : List Sl) (v n : Nat) : Ev × Bool := bif snB V L v n then (e0, false) else (evAt V v (evI L n v), true)
theorem sn_1 {V : List (List Ev)} {L : List Sl} {v n : Nat} (h : snB V L v n = true) : snE V L v n = (e0, false) := by unfold snE; rw [h]; rfl
theorem sn_2 {V : List (List Ev)} {L : List Sl} {v n : Nat} (h : snB V L v n = false) : snE V L v n = (evAt V v (evI L n v), true) := by unfold snE; rw [h]; rfl
theorem evI_at {L : List Sl} {n v : Nat} {s : Sl} {i : Int} (hs : nth L n = some s) (hi : nth s.ev v = some i) : evI L n v = i := by unfold evI; rw [hs]; show (nth s.ev v).getD (-1) = _; rw [hi]; rfl
theorem evAt_at {V : List (List Ev)} {v : Nat} {x : List Ev} {i : Int} {y : Ev} (hx : nth V v = some x) (hy : nth x i.toNat = some y) : evAt V v i = y := by unfold evAt; rw [hx]; show (nth x i.toNat).getD e0 = _; rw [hy]; rfl
structure SetAt (S : St) (aV aS : Option Addr) (cV cS : Nat) (V : List (List Ev)) (L : List Sl) : Prop where
 vs : Vs S (.slice aV V.length cV) V
 sl : Sls S (.slice aS L.length cS) L
 wf : WF V L
 hn : V.length ≤ 8
 hV : ∀ x, x ∈ V → x.length ≤ 2000
 hL : L.length ≤ 20000
theorem SetAt.move {S S' : St} {aV aS : Option Addr} {cV cS : Nat} {V : List (List Ev)} {L : List Sl} (h : SetAt S aV aS cV cS V L) (hk : RK S S') : SetAt S' aV aS cV cS V L := ⟨h.vs.move hk, h.sl.move hk, h.wf, h.hn, h.hV, h.hL⟩
def mvN (p q : Ev) : Int := (numE q.p).1 - (numE p.p).1
noncomputable def c36 : Code := Tryd.f36.body.getD .skip
theorem spec36 (a : Option Addr) (cap : Nat) (V : List (List Ev)) (hF : Fresh S) (hv : Vs S (.slice a V.length cap) V) : CC Tryd.prog KK 36 [.slice a V.length cap] S (fun v S' => Keep S S' ∧ ∃ w, v = tupV [aggL [.slice a V.length cap, w], .int .i64 (slsE V).2] ∧ Sls S' w (slsE V).1) := by
 refine cc_enter (c := c36) (n := 15) Tryd.func36 rfl rfl rfl (by kernel_rfl) rfl rfl ?_
 have hl := Hold.start S
 refine xs (by kernel_rfl) ?_; refine re_allocL hl rfl rfl rfl rfl rfl (z := [.slice none 0 0, .slice none 0 0]) (by kernel_rfl) ?_; intro B2 S2 hl; refine rm rfl ?_; refine re_end rfl ?_; refine xs (by kernel_rfl) ?_; refine rm rfl ?_
 refine re_callL hl rfl rfl rfl rfl rfl rfl rfl (spec47 a cap V (hl.keep.3 hF) (hv.move (hl.since 0 rfl))) ?_; rintro v S1 hk1 ⟨w, rfl, hs⟩ hl; have hl := hl.mark; obtain ⟨aS, cS, rfl⟩ := Sls.is hs
 iterate 5 refine rm rfl ?_
 refine re_end rfl ?_; refine xs (by kernel_rfl) ?_; iterate 2 refine rm rfl ?_
 refine rr rfl (rd_build rfl rfl (v := aggL [.slice a V.length cap, .slice aS (slsE V).1.length cS]) (by rfl)) ?_; refine rm rfl ?_; refine re_storeL hl 0 rfl rfl rfl rfl rfl rfl rfl (by kernel_rfl) rfl ?_; intro S1 hl; refine rm rfl ?_; refine re_end rfl ?_; refine xp_ret rfl ?_
 refine done_ret (ress_cell rfl (loadN_of (z := 2) (by kernel_rfl) (by kernel_rfl) (hl.get 0 rfl) rfl) (ress_tmp rfl rfl)) ⟨hl.keep, ⟨_, rfl, Sls.move (hl.since 0 rfl) hs⟩⟩
noncomputable def c62 : Code := Tryd.f62.body.getD .skip
theorem spec62 (aV aS : Option Addr) (cV cS : Nat) (V : List (List Ev)) (L : List Sl) (vv n : Nat) (hs : SetAt S aV aS cV cS V L) (hvv : vv < V.length) (hnn : n < L.length) : CC Tryd.prog KK 62 [aggL [.slice aV V.length cV, .slice aS L.length cS], .int .i64 (vv : Int), .int .i64 (n : Int)] S (fun v S' => Keep S S' ∧ v = tupV [(snE V L vv n).1.v, .bool (snE V L vv n).2]) := by
 refine cc_enter (c := c62) (n := 40) Tryd.func62 rfl rfl rfl (by kernel_rfl) rfl rfl ?_
 have hl := Hold.start S
 obtain ⟨s, hsn⟩ := nth_some hnn
 obtain ⟨x, hx⟩ := nth_some hvv
 obtain ⟨b1, o1, cs1, aw, cw, ha, _, hrow, htk, hiv⟩ := hs.sl.elem hsn
 obtain ⟨hwl, hwi⟩ := hs.wf n s hsn
 obtain ⟨i, hi⟩ := nth_some (l := s.ev) (i := vv) (by omega)
 obtain ⟨b2, o2, cs2, ha2, _, hrow2, htk2⟩ := hiv.elem hi
 obtain ⟨b3, o3, cs3, ax, cx, ha3, _, hrow3, htk3, hvx⟩ := hs.vs.elem hx
 have hix := hwi vv i x hi hx
 have hei := evI_at hsn hi
 refine xs (by kernel_rfl) ?_; refine re_boxL hl rfl rfl rfl rfl rfl rfl ?_; intro B3 S3 hl; refine re_allocL hl rfl rfl rfl rfl rfl (z := [.int .i64 0, .int .i64 0, .int .i64 0, .int .i64 0, .int .i64 0, .int .i64 0, .int .i64 0, .bool false, .int .i64 0, .int .i64 0]) (by kernel_rfl) ?_; intro B6 S6 hl; refine rm rfl ?_; refine re_end rfl ?_; refine xs (by kernel_rfl) ?_; refine rr rfl (rd_fieldAddr rfl rfl (fa Tryd.underlying90 az90 rfl)) ?_; refine rr rfl (rl hl 1 rfl rfl (by kernel_rfl) rfl rfl) ?_; refine rm rfl ?_
 refine rr rfl (rd_indexAddr rfl rfl rfl (indexAddr_sl (z := 5) ha Tryd.underlying88 (by kernel_rfl) ⟨by omega, by omega⟩)) ?_; refine rr rfl (rd_fieldAddr rfl rfl (fa Tryd.underlying131 az131 rfl)) ?_; refine rr rfl (rd_load rfl rfl (load1_row (by kernel_rfl) (row_move (hl.since 0 rfl) hrow) (tk_nth (j := 4) htk rfl))) ?_; refine rm rfl ?_; refine rr rfl (rd_indexAddr rfl rfl rfl (indexAddr_sl (z := 1) ha2 Tryd.underlying22 (by kernel_rfl) ⟨by omega, by omega⟩)) ?_; refine rr rfl (rd_load rfl rfl (load1_row (by kernel_rfl) (row_move (hl.since 0 rfl) hrow2) (tk_nth (j := 0) htk2 rfl))) ?_
 refine rm rfl ?_; refine re_end rfl ?_; refine xp_seq rfl ?_; refine xp_seq rfl (xe_toE hl 30 (.bool (snB V L vv n)) ?_ rfl ?_)
 ·
  refine xg (by kernel_rfl) ?_; refine rm rfl ?_; refine rr rfl (rd_bin rfl rfl rfl rfl) ?_; refine rm rfl ?_; refine re_bool (d := 20) rfl (fun h20 => ?_) (fun h20 => ?_)
  ·
   iterate 9 refine rz rfl ?_
   refine rm rfl ?_; refine re_end rfl ?_
   exact ⟨rfl, bl (by unfold snB; rw [hei, h20]; rfl), by repeat (first | exact subL_refl _ | refine subL_skip rfl ?_), hl⟩
  ·
   have h0 : 0 ≤ i := by have := of_decide_eq_false h20; omega
   obtain ⟨y, hy⟩ := nth_some (l := x) (i := i.toNat) (by omega)
   obtain ⟨b4, o4, cs4, ha4, _, hrow4, htk4⟩ := hvx.elem hy
   have hey := evAt_at hx hy
   refine rr rfl (rd_fieldAddr rfl rfl (fa Tryd.underlying90 az90 rfl)) ?_; refine rr rfl (rl hl 1 rfl rfl (by kernel_rfl) rfl rfl) ?_; refine rm rfl ?_; refine rr rfl (rd_indexAddr rfl rfl rfl (indexAddr_sl (z := 1) ha3 Tryd.underlying25 (by kernel_rfl) ⟨by omega, by omega⟩)) ?_; refine rr rfl (rd_load rfl rfl (load1_row (by kernel_rfl) (row_move (hl.since 0 rfl) hrow3) htk3)) ?_; refine rm rfl ?_; refine rr rfl (rd_indexAddr rfl rfl rfl (indexAddr_sl (z := 10) ha4 Tryd.underlying23 (by kernel_rfl) ⟨by omega, by omega⟩)) ?_; refine rr rfl (rd_fieldAddr rfl rfl (fa Tryd.underlying39 az39 rfl)) ?_
   refine rr rfl (rd_load rfl rfl (load1_row (by kernel_rfl) (row_move (hl.since 0 rfl) hrow4) (tk_nth (j := 7) htk4 rfl))) ?_; refine rm rfl ?_; refine re_end rfl ?_
   exact ⟨rfl, bl (by unfold snB; rw [hei, h20, hey]; rfl), by repeat (first | exact subL_refl _ | refine subL_skip rfl ?_), hl⟩
 intro S1 hl
 refine xp_cond rfl rfl (fun h30 => ?_) (fun h30 => ?_)
 ·
  refine xs (by kernel_rfl) ?_; refine rr rfl (rd_build rfl rfl (v := aggL [.int .i64 0, .int .i64 0, .int .i64 0, .int .i64 0, .int .i64 0, .int .i64 0, .int .i64 0, .bool false, .int .i64 0, .int .i64 0]) (by rfl)) ?_; refine re_storeL hl 0 rfl rfl rfl rfl rfl rfl rfl (by kernel_rfl) rfl ?_; intro S1 hl; refine rm rfl ?_; refine re_end rfl ?_; refine xp_ret rfl ?_
  refine thn_ret (done_ret (ress_cell rfl (loadN_of (z := 10) (by kernel_rfl) (by kernel_rfl) (hl.get 0 rfl) rfl) (ress_tmp rfl rfl)) ⟨hl.keep, by rw [sn_1 h30] <;> rfl⟩)
 ·
  have h0 : 0 ≤ i := by
   cases hd : decide (i < 0) with
   | true => unfold snB at h30; rw [hei, hd] at h30; cases h30
   | false => have := of_decide_eq_false hd; omega
  obtain ⟨y, hy⟩ := nth_some (l := x) (i := i.toNat) (by omega)
  obtain ⟨b4, o4, cs4, ha4, _, hrow4, htk4⟩ := hvx.elem hy
  have hey := evAt_at hx hy
  refine xp_skip rfl ?_; refine xs (by kernel_rfl) ?_; refine rr rfl (rd_fieldAddr rfl rfl (fa Tryd.underlying90 az90 rfl)) ?_; refine rr rfl (rl hl 1 rfl rfl (by kernel_rfl) rfl rfl) ?_; refine rm rfl ?_; refine rr rfl (rd_indexAddr rfl rfl rfl (indexAddr_sl (z := 1) ha3 Tryd.underlying25 (by kernel_rfl) ⟨by omega, by omega⟩)) ?_; refine rr rfl (rd_load rfl rfl (load1_row (by kernel_rfl) (row_move (hl.since 0 rfl) hrow3) htk3)) ?_; refine rm rfl ?_; refine rr rfl (rd_indexAddr rfl rfl rfl (indexAddr_sl (z := 10) ha4 Tryd.underlying23 (by kernel_rfl) ⟨by omega, by omega⟩)) ?_
  refine rr rfl (rd_load rfl rfl (loadN_row (z := 10) (by kernel_rfl) (by kernel_rfl) (row_move (hl.since 0 rfl) hrow4) htk4)) ?_; refine re_storeL hl 0 rfl rfl rfl rfl rfl rfl rfl (by kernel_rfl) rfl ?_; intro S1 hl; refine rm rfl ?_; refine re_end rfl ?_; refine xp_ret rfl ?_
  refine done_ret (ress_cell rfl (loadN_of (z := 10) (by kernel_rfl) (by kernel_rfl) (hl.get 0 rfl) rfl) (ress_tmp rfl rfl)) ⟨hl.keep, by rw [sn_2 h30, hei, hey] <;> rfl⟩
noncomputable def c50 : Code := Tryd.f50.body.getD .skip
theorem spec50 (x : Int) : CC Tryd.prog KK 50 [.int .i64 x] S (fun v S' => Keep S S' ∧ v = .int .i64 (sgn x)) := by
 refine cc_enter (c := c50) (n := 9) Tryd.func50 rfl rfl rfl (by kernel_rfl) rfl rfl ?_
 have hl := Hold.start S
 refine xs (by kernel_rfl) ?_; refine rm rfl ?_; refine re_end rfl ?_; refine xp_seq rfl ?_; refine xp_block rfl ?_; refine xs (by kernel_rfl) ?_; refine rm rfl ?_; refine rr rfl (rd_bin rfl rfl rfl rfl) ?_; refine rm rfl ?_; refine re_end rfl ?_; refine xp_cond rfl rfl (fun h3 => ?_) (fun h3 => ?_)
 ·
  refine xs (by kernel_rfl) ?_; refine rm rfl ?_; refine re_end rfl ?_; refine xp_ret rfl ?_
  refine blk_ret (thn_ret (done_ret (ress_tmp rfl rfl) ⟨hl.keep, congrArg (Value.int .i64) (sgn_1 h3).symm⟩))
 ·
  refine xs (by kernel_rfl) ?_; refine rm rfl ?_; refine rr rfl (rd_bin rfl rfl rfl rfl) ?_; refine rm rfl ?_; refine re_end rfl ?_; refine xp_cond rfl rfl (fun h6 => ?_) (fun h6 => ?_)
  ·
   refine xs (by kernel_rfl) ?_; refine rm rfl ?_; refine re_end rfl ?_; refine xp_ret rfl ?_
   refine blk_ret (thn_ret (done_ret (ress_tmp rfl rfl) ⟨hl.keep, congrArg (Value.int .i64) (sgn_2 h3 h6).symm⟩))
  ·
   refine xp_skip rfl ?_; refine xs (by kernel_rfl) ?_; refine rm rfl ?_; refine re_end rfl ?_; refine xp_ret rfl ?_
   refine done_ret (ress_tmp rfl rfl) ⟨hl.keep, congrArg (Value.int .i64) (sgn_3 h3 h6).symm⟩
end Go.Proofs.YtlnenodplgpceaaDoor
namespace Go.Proofs.YtlnenodplgpceaaDoor
open Go.Cm Go
set_option maxRecDepth 100000
variable {S : St}
def atL (L : List Sl) (n : Nat) : Ti := ((nth L n).map Sl.at_).getD zT
theorem atL_at {L : List Sl} {n : Nat} {s : Sl} (h : nth L n = some s) : atL L n = s.at_ := by unfold atL; rw [h]; rfl
def mvB (V : List (List Ev)) (L : List Sl) (v n : Nat) : Bool := ((!(snE V L v (n - 1)).2) || (!(snE V L v n).2)) || (!decide ((snE V L v n).1.at_ = atL L n))
def mvP (V : List (List Ev)) (L : List Sl) (v n : Nat) : Int × Bool := bif decide ((n : Int) < 1) then (0, false) else bif mvB V L v n then (0, false) else (mvN (snE V L v (n - 1)).1 (snE V L v n).1, true)
theorem mvP_1 {V : List (List Ev)} {L : List Sl} {v n : Nat} (h : decide ((n : Int) < 1) = true) : mvP V L v n = (0, false) := by unfold mvP; rw [h]; rfl
theorem mvP_2 {V : List (List Ev)} {L : List Sl} {v n : Nat} (h : decide ((n : Int) < 1) = false) (h2 : mvB V L v n = true) : mvP V L v n = (0, false) := by unfold mvP; rw [h, h2]; rfl
theorem mvP_3 {V : List (List Ev)} {L : List Sl} {v n : Nat} (h : decide ((n : Int) < 1) = false) (h2 : mvB V L v n = false) : mvP V L v n = (mvN (snE V L v (n - 1)).1 (snE V L v n).1, true) := by unfold mvP; rw [h, h2]; rfl
theorem numE_bd (p : Pt) : 0 ≤ (numE p).1 ∧ (numE p).1 ≤ 62 := by
 cases h : pB p with
 | true => unfold numE; rw [h]; exact ⟨Int.le_refl 0, (by decide : (0 : Int) ≤ 62)⟩
 | false => rw [numE_ok h]; exact num_bd h
def pfE (V : List (List Ev)) (L : List Sl) (a b n : Nat) : Int × Bool := ((spE (snE V L a n).1.p (snE V L b n).1.p).1.st, (kdE (snE V L a n).1.p (snE V L b n).1.p).1 == 1)
def upE (V : List (List Ev)) (L : List Sl) (a b n : Nat) (da db : Int) : Int := bif decide ((numE (snE V L a n).1.p).1 > (numE (snE V L b n).1.p).1) then da else db
theorem up_1 {V : List (List Ev)} {L : List Sl} {a b n : Nat} {da db : Int} (h : decide ((numE (snE V L a n).1.p).1 > (numE (snE V L b n).1.p).1) = true) : upE V L a b n da db = da := by unfold upE; rw [h]; rfl
theorem up_2 {V : List (List Ev)} {L : List Sl} {a b n : Nat} {da db : Int} (h : decide ((numE (snE V L a n).1.p).1 > (numE (snE V L b n).1.p).1) = false) : upE V L a b n da db = db := by unfold upE; rw [h]; rfl
noncomputable def c49 : Code := Tryd.f49.body.getD .skip
theorem spec49 (aV aS : Option Addr) (cV cS : Nat) (V : List (List Ev)) (L : List Sl) (vv n : Nat) (hs : SetAt S aV aS cV cS V L) (hvv : vv < V.length) (hnn : n < L.length) : CC Tryd.prog KK 49 [aggL [.slice aV V.length cV, .slice aS L.length cS], .int .i64 (vv : Int), .int .i64 (n : Int)] S (fun v S' => Keep S S' ∧ v = tupV [.int .i64 (mvP V L vv n).1, .bool (mvP V L vv n).2]) := by
 refine cc_enter (c := c49) (n := 65) Tryd.func49 rfl rfl rfl (by kernel_rfl) rfl rfl ?_
 have hl := Hold.start S
 refine xs (by kernel_rfl) ?_; refine re_boxL hl rfl rfl rfl rfl rfl rfl ?_; intro B3 S3 hl; iterate 2 refine rm rfl ?_
 refine re_end rfl ?_; refine xp_seq rfl ?_; refine xs (by kernel_rfl) ?_; refine rm rfl ?_; refine rr rfl (rd_bin rfl rfl rfl rfl) ?_; refine re_end rfl ?_; refine xp_cond rfl rfl (fun h17 => ?_) (fun h17 => ?_)
 ·
  refine xs (by kernel_rfl) ?_; iterate 2 refine rm rfl ?_
  refine re_end rfl ?_; refine xp_ret rfl ?_
  refine thn_ret (done_ret (ress_tmp rfl (ress_tmp rfl rfl)) ⟨hl.keep, by rw [mvP_1 h17]⟩)
 ·
  have hn1 : 1 ≤ n := by have := of_decide_eq_false h17; omega
  have hL := hs.hL
  obtain ⟨s, hsn⟩ := nth_some hnn
  obtain ⟨b1, o1, cs1, aw, cw, ha, _, hrow, htk, hiv⟩ := hs.sl.elem hsn
  have hal := atL_at hsn
  have hb1 := numE_bd (snE V L vv (n - 1)).1.p
  have hb2 := numE_bd (snE V L vv n).1.p
  refine xp_skip rfl ?_; refine xs (by kernel_rfl) ?_; refine rr rfl (rd_load rfl rfl (loadN_of (z := 2) (by kernel_rfl) (by kernel_rfl) (hl.get 0 rfl) rfl)) ?_; iterate 2 refine rm rfl ?_
  refine rr rfl (rd_bin rfl rfl rfl (congrArg some (congrArg (Value.int .i64) ((IntWalk.i64_in _ (by omega)).trans (show ((n : Int) - 1) = ((n - 1 : Nat) : Int) by omega))))) ?_
  refine re_callL hl rfl rfl rfl rfl rfl rfl rfl (spec62 aV aS cV cS V L vv (n - 1) (hs.move (hl.since 0 rfl)) hvv (by omega)) ?_; rintro v S1 hk1 rfl hl
  iterate 3 refine rm rfl ?_
  refine re_allocL hl rfl rfl rfl rfl rfl (z := [.int .i64 0, .int .i64 0, .int .i64 0, .int .i64 0, .int .i64 0, .int .i64 0, .int .i64 0, .bool false, .int .i64 0, .int .i64 0]) (by kernel_rfl) ?_; intro B8 S8 hl; refine re_storeL hl 0 rfl rfl rfl rfl rfl rfl rfl (by kernel_rfl) rfl ?_; intro S1 hl; refine rm rfl ?_; refine re_end rfl ?_; refine xs (by kernel_rfl) ?_; refine rr rfl (rd_load rfl rfl (loadN_of (z := 2) (by kernel_rfl) (by kernel_rfl) (hl.get 1 rfl) rfl)) ?_; iterate 2 refine rm rfl ?_
  refine re_callL hl rfl rfl rfl rfl rfl rfl rfl (spec62 aV aS cV cS V L vv n (hs.move (hl.since 0 rfl)) hvv hnn) ?_; rintro v S1 hk1 rfl hl
  iterate 3 refine rm rfl ?_
  refine re_allocL hl rfl rfl rfl rfl rfl (z := [.int .i64 0, .int .i64 0, .int .i64 0, .int .i64 0, .int .i64 0, .int .i64 0, .int .i64 0, .bool false, .int .i64 0, .int .i64 0]) (by kernel_rfl) ?_; intro B10 S10 hl; refine re_storeL hl 0 rfl rfl rfl rfl rfl rfl rfl (by kernel_rfl) rfl ?_; intro S1 hl; refine rm rfl ?_; refine re_end rfl ?_; refine xp_seq rfl ?_; refine xp_seq rfl (xe_toE hl 49 (.bool (mvB V L vv n)) ?_ rfl ?_)
  ·
   refine xp_draw (idx := [0, 1, 2, 3, 4, 5, 6, 7, 8, 9, 10, 11, 12, 13, 14, 15, 16]) rfl (by kernel_rfl) (by kernel_rfl) ?_; refine pm rfl ?_; refine pr rfl (rd_un rfl rfl rfl) ?_; refine pm rfl ?_; refine rp_bool (d := 35) rfl (fun h35 => ?_) (fun h35 => ?_)
   ·
    iterate 2 refine pz rfl ?_
    iterate 2 refine pm rfl ?_
    iterate 9 refine pz rfl ?_
    refine pm rfl ?_; refine rp_end rfl ?_
    exact ⟨rfl, bl (by unfold mvB; rw [hal, h35]; rfl), by repeat (first | exact subL_refl _ | refine subL_skip rfl ?_), hl⟩
   ·
    refine pm rfl ?_; refine pr rfl (rd_un rfl rfl rfl) ?_; iterate 2 refine pm rfl ?_
    refine rp_bool (d := 39) rfl (fun h39 => ?_) (fun h39 => ?_)
    ·
     iterate 9 refine pz rfl ?_
     refine pm rfl ?_; refine rp_end rfl ?_
     exact ⟨rfl, bl (by unfold mvB; rw [hal, h35, h39]; rfl), by repeat (first | exact subL_refl _ | refine subL_skip rfl ?_), hl⟩
    ·
     refine pr rfl (rd_fieldAddr rfl rfl (fa Tryd.underlying39 az39 rfl)) ?_; refine pk rfl (rd_load rfl rfl (loadN_of (z := 2) (by kernel_rfl) (by kernel_rfl) (hl.get 0 rfl) rfl)) ?_; refine pr rfl (rd_fieldAddr rfl rfl (fa Tryd.underlying90 az90 rfl)) ?_; refine pk rfl (rl hl 2 rfl rfl (by kernel_rfl) rfl rfl) ?_; refine pm rfl ?_; refine pr rfl (rd_indexAddr rfl rfl rfl (indexAddr_sl (z := 5) ha Tryd.underlying88 (by kernel_rfl) ⟨by omega, by omega⟩)) ?_; refine pr rfl (rd_fieldAddr rfl rfl (fa Tryd.underlying131 az131 rfl)) ?_
     refine pk rfl (rd_load rfl rfl (loadN_row (z := 2) (l := s.at_.cells) (by kernel_rfl) (by kernel_rfl) (row_move (hl.since 0 rfl) hrow) (tk_part (j := 0) (l2 := s.at_.cells) htk rfl))) ?_; refine pr rfl (rd_bin rfl rfl rfl (neTime _ _ (snE V L vv n).1.at_ s.at_)) ?_; refine pm rfl ?_; refine rp_end rfl ?_
     exact ⟨rfl, bl (by unfold mvB; rw [hal, h35, h39]; rfl), by repeat (first | exact subL_refl _ | refine subL_skip rfl ?_), hl⟩
  intro S1 hl
  refine xp_cond rfl rfl (fun h49 => ?_) (fun h49 => ?_)
  ·
   refine xs (by kernel_rfl) ?_; iterate 2 refine rm rfl ?_
   refine re_end rfl ?_; refine xp_ret rfl ?_
   refine thn_ret (done_ret (ress_tmp rfl (ress_tmp rfl rfl)) ⟨hl.keep, by rw [mvP_2 h17 h49]⟩)
  ·
   refine xp_skip rfl ?_; refine xs (by kernel_rfl) ?_; refine rr rfl (rd_fieldAddr rfl rfl (fa Tryd.underlying39 az39 rfl)) ?_; refine rr rfl (rd_load rfl rfl (loadN_of (z := 3) (by kernel_rfl) (by kernel_rfl) (hl.get 1 rfl) rfl)) ?_
   refine re_callL hl rfl rfl rfl rfl rfl rfl rfl (spec63 (snE V L vv (n - 1)).1.p) ?_; rintro v S1 hk1 rfl hl
   iterate 5 refine rm rfl ?_
   refine re_end rfl ?_; refine xs (by kernel_rfl) ?_; refine rr rfl (rd_fieldAddr rfl rfl (fa Tryd.underlying39 az39 rfl)) ?_; refine rr rfl (rd_load rfl rfl (loadN_of (z := 3) (by kernel_rfl) (by kernel_rfl) (hl.get 0 rfl) rfl)) ?_
   refine re_callL hl rfl rfl rfl rfl rfl rfl rfl (spec63 (snE V L vv n).1.p) ?_; rintro v S1 hk1 rfl hl
   iterate 5 refine rm rfl ?_
   refine re_end rfl ?_; refine xs (by kernel_rfl) ?_; iterate 2 refine rm rfl ?_
   refine rr rfl (rd_bin rfl rfl rfl (i6 (by omega))) ?_; iterate 2 refine rm rfl ?_
   refine re_end rfl ?_; refine xp_ret rfl ?_
   refine done_ret (ress_tmp rfl (ress_tmp rfl rfl)) ⟨hl.keep, by rw [mvP_3 h17 h49] <;> rfl⟩
noncomputable def c51 : Code := Tryd.f51.body.getD .skip
theorem spec51 (aV aS : Option Addr) (cV cS : Nat) (V : List (List Ev)) (L : List Sl) (a b n : Nat) (hF : Fresh S) (hG : Gl S) (hs : SetAt S aV aS cV cS V L) (ha : a < V.length) (hb : b < V.length) (hnn : n < L.length) : CC Tryd.prog KK 51 [aggL [.slice aV V.length cV, .slice aS L.length cS], .int .i64 (a : Int), .int .i64 (b : Int), .int .i64 (n : Int)] S (fun v S' => Keep S S' ∧ v = tupV [.int .i64 (pfE V L a b n).1, .bool (pfE V L a b n).2]) := by
 refine cc_enter (c := c51) (n := 52) Tryd.func51 rfl rfl rfl (by kernel_rfl) rfl rfl ?_
 have hl := Hold.start S
 refine xs (by kernel_rfl) ?_; refine re_boxL hl rfl rfl rfl rfl rfl rfl ?_; intro B4 S4 hl; iterate 2 refine rm rfl ?_
 refine re_end rfl ?_; refine xs (by kernel_rfl) ?_; refine rr rfl (rd_load rfl rfl (loadN_of (z := 2) (by kernel_rfl) (by kernel_rfl) (hl.get 0 rfl) rfl)) ?_; iterate 2 refine rm rfl ?_
 refine re_callL hl rfl rfl rfl rfl rfl rfl rfl (spec62 aV aS cV cS V L a n (hs.move (hl.since 0 rfl)) ha hnn) ?_; rintro v S1 hk1 rfl hl
 iterate 3 refine rm rfl ?_
 refine re_allocL hl rfl rfl rfl rfl rfl (z := [.int .i64 0, .int .i64 0, .int .i64 0, .int .i64 0, .int .i64 0, .int .i64 0, .int .i64 0, .bool false, .int .i64 0, .int .i64 0]) (by kernel_rfl) ?_; intro B10 S10 hl; refine re_storeL hl 0 rfl rfl rfl rfl rfl rfl rfl (by kernel_rfl) rfl ?_; intro S1 hl; refine rm rfl ?_; refine re_end rfl ?_; refine xs (by kernel_rfl) ?_; refine rr rfl (rd_load rfl rfl (loadN_of (z := 2) (by kernel_rfl) (by kernel_rfl) (hl.get 1 rfl) rfl)) ?_; iterate 2 refine rm rfl ?_
 refine re_callL hl rfl rfl rfl rfl rfl rfl rfl (spec62 aV aS cV cS V L b n (hs.move (hl.since 0 rfl)) hb hnn) ?_; rintro v S1 hk1 rfl hl
 iterate 3 refine rm rfl ?_
 refine re_allocL hl rfl rfl rfl rfl rfl (z := [.int .i64 0, .int .i64 0, .int .i64 0, .int .i64 0, .int .i64 0, .int .i64 0, .int .i64 0, .bool false, .int .i64 0, .int .i64 0]) (by kernel_rfl) ?_; intro B12 S12 hl; refine re_storeL hl 0 rfl rfl rfl rfl rfl rfl rfl (by kernel_rfl) rfl ?_; intro S1 hl; refine rm rfl ?_; refine re_end rfl ?_; refine xs (by kernel_rfl) ?_; refine rr rfl (rd_fieldAddr rfl rfl (fa Tryd.underlying39 az39 rfl)) ?_; refine rr rfl (rd_load rfl rfl (loadN_of (z := 3) (by kernel_rfl) (by kernel_rfl) (hl.get 1 rfl) rfl)) ?_
 refine rr rfl (rd_fieldAddr rfl rfl (fa Tryd.underlying39 az39 rfl)) ?_; refine rr rfl (rd_load rfl rfl (loadN_of (z := 3) (by kernel_rfl) (by kernel_rfl) (hl.get 0 rfl) rfl)) ?_
 refine re_callL hl rfl rfl rfl rfl rfl rfl rfl (spec64 (snE V L a n).1.p (snE V L b n).1.p (hl.keep.3 hF) (hG.keep hl.keep)) ?_; rintro v S1 hk1 rfl hl
 iterate 5 refine rm rfl ?_
 refine re_end rfl ?_; refine xs (by kernel_rfl) ?_; refine rr rfl (rd_fieldAddr rfl rfl (fa Tryd.underlying39 az39 rfl)) ?_; refine rr rfl (rd_load rfl rfl (loadN_of (z := 3) (by kernel_rfl) (by kernel_rfl) (hl.get 1 rfl) rfl)) ?_; refine rr rfl (rd_fieldAddr rfl rfl (fa Tryd.underlying39 az39 rfl)) ?_; refine rr rfl (rd_load rfl rfl (loadN_of (z := 3) (by kernel_rfl) (by kernel_rfl) (hl.get 0 rfl) rfl)) ?_
 refine re_callL hl rfl rfl rfl rfl rfl rfl rfl (spec65 (snE V L a n).1.p (snE V L b n).1.p (hl.keep.3 hF) (hG.keep hl.keep)) ?_; rintro v S1 hk1 rfl hl
 iterate 3 refine rm rfl ?_
 refine re_allocL hl rfl rfl rfl rfl rfl (z := [.int .i64 0, .int .i64 0]) (by kernel_rfl) ?_; intro B16 S16 hl; refine re_storeL hl 0 rfl rfl rfl rfl rfl rfl rfl (by kernel_rfl) rfl ?_; intro S1 hl; refine rm rfl ?_; refine re_end rfl ?_; refine xs (by kernel_rfl) ?_; refine rr rfl (rd_fieldAddr rfl rfl (fa Tryd.underlying148 az148 rfl)) ?_; refine rr rfl (rl hl 0 rfl rfl (by kernel_rfl) rfl rfl) ?_; refine rm rfl ?_; refine rr rfl (rd_bin rfl rfl rfl rfl) ?_; iterate 2 refine rm rfl ?_
 refine re_end rfl ?_; refine xp_ret rfl ?_
 refine done_ret (ress_tmp rfl (ress_tmp rfl rfl)) ⟨hl.keep, rfl⟩
noncomputable def c52 : Code := Tryd.f52.body.getD .skip
theorem spec52 (aV aS : Option Addr) (cV cS : Nat) (V : List (List Ev)) (L : List Sl) (a b n : Nat) (da db : Int) (hs : SetAt S aV aS cV cS V L) (ha : a < V.length) (hb : b < V.length) (hnn : n < L.length) : CC Tryd.prog KK 52 [aggL [.slice aV V.length cV, .slice aS L.length cS], .int .i64 (a : Int), .int .i64 (b : Int), .int .i64 (n : Int), .int .i64 da, .int .i64 db] S (fun v S' => Keep S S' ∧ v = .int .i64 (upE V L a b n da db)) := by
 refine cc_enter (c := c52) (n := 52) Tryd.func52 rfl rfl rfl (by kernel_rfl) rfl rfl ?_
 have hl := Hold.start S
 refine xs (by kernel_rfl) ?_; refine re_boxL hl rfl rfl rfl rfl rfl rfl ?_; intro B6 S6 hl; refine rm rfl ?_; refine re_end rfl ?_; refine xs (by kernel_rfl) ?_; refine rr rfl (rd_load rfl rfl (loadN_of (z := 2) (by kernel_rfl) (by kernel_rfl) (hl.get 0 rfl) rfl)) ?_; iterate 2 refine rm rfl ?_
 refine re_callL hl rfl rfl rfl rfl rfl rfl rfl (spec62 aV aS cV cS V L a n (hs.move (hl.since 0 rfl)) ha hnn) ?_; rintro v S1 hk1 rfl hl
 iterate 3 refine rm rfl ?_
 refine re_allocL hl rfl rfl rfl rfl rfl (z := [.int .i64 0, .int .i64 0, .int .i64 0, .int .i64 0, .int .i64 0, .int .i64 0, .int .i64 0, .bool false, .int .i64 0, .int .i64 0]) (by kernel_rfl) ?_; intro B13 S13 hl; refine re_storeL hl 0 rfl rfl rfl rfl rfl rfl rfl (by kernel_rfl) rfl ?_; intro S1 hl; refine rm rfl ?_; refine re_end rfl ?_; refine xs (by kernel_rfl) ?_; refine rr rfl (rd_load rfl rfl (loadN_of (z := 2) (by kernel_rfl) (by kernel_rfl) (hl.get 1 rfl) rfl)) ?_; iterate 2 refine rm rfl ?_
 refine re_callL hl rfl rfl rfl rfl rfl rfl rfl (spec62 aV aS cV cS V L b n (hs.move (hl.since 0 rfl)) hb hnn) ?_; rintro v S1 hk1 rfl hl
 iterate 3 refine rm rfl ?_
 refine re_allocL hl rfl rfl rfl rfl rfl (z := [.int .i64 0, .int .i64 0, .int .i64 0, .int .i64 0, .int .i64 0, .int .i64 0, .int .i64 0, .bool false, .int .i64 0, .int .i64 0]) (by kernel_rfl) ?_; intro B15 S15 hl; refine re_storeL hl 0 rfl rfl rfl rfl rfl rfl rfl (by kernel_rfl) rfl ?_; intro S1 hl; refine rm rfl ?_; refine re_end rfl ?_; refine xs (by kernel_rfl) ?_; refine rr rfl (rd_fieldAddr rfl rfl (fa Tryd.underlying39 az39 rfl)) ?_; refine rr rfl (rd_load rfl rfl (loadN_of (z := 3) (by kernel_rfl) (by kernel_rfl) (hl.get 1 rfl) rfl)) ?_
 refine re_callL hl rfl rfl rfl rfl rfl rfl rfl (spec63 (snE V L a n).1.p) ?_; rintro v S1 hk1 rfl hl
 iterate 5 refine rm rfl ?_
 refine re_end rfl ?_; refine xs (by kernel_rfl) ?_; refine rr rfl (rd_fieldAddr rfl rfl (fa Tryd.underlying39 az39 rfl)) ?_; refine rr rfl (rd_load rfl rfl (loadN_of (z := 3) (by kernel_rfl) (by kernel_rfl) (hl.get 0 rfl) rfl)) ?_
 refine re_callL hl rfl rfl rfl rfl rfl rfl rfl (spec63 (snE V L b n).1.p) ?_; rintro v S1 hk1 rfl hl
 iterate 5 refine rm rfl ?_
 refine re_end rfl ?_; refine xp_seq rfl ?_; refine xs (by kernel_rfl) ?_; iterate 2 refine rm rfl ?_
 refine rr rfl (rd_bin rfl rfl rfl rfl) ?_; refine re_end rfl ?_; refine xp_cond rfl rfl (fun h49 => ?_) (fun h49 => ?_)
 ·
  refine xs (by kernel_rfl) ?_; iterate 2 refine rm rfl ?_
  refine re_end rfl ?_; refine xp_ret rfl ?_
  refine thn_ret (done_ret (ress_tmp rfl rfl) ⟨hl.keep, congrArg (Value.int .i64) (up_1 h49).symm⟩)
 ·
  refine xp_skip rfl ?_; refine xs (by kernel_rfl) ?_; iterate 2 refine rm rfl ?_
  refine re_end rfl ?_; refine xp_ret rfl ?_
  refine done_ret (ress_tmp rfl rfl) ⟨hl.keep, congrArg (Value.int .i64) (up_2 h49).symm⟩
end Go.Proofs.YtlnenodplgpceaaDoor
namespace Go.Proofs.YtlnenodplgpceaaDoor
open Go.Cm Go
set_option maxRecDepth 100000
variable {S : St}
theorem mv_pos {V : List (List Ev)} {L : List Sl} {v n : Nat} (h : (mvP V L v n).2 = true) : 1 ≤ n := by
 cases hd : decide ((n : Int) < 1) with
 | true => rw [mvP_1 hd] at h; cases h
 | false => have := of_decide_eq_false hd; omega
theorem sgn_cases (x : Int) : sgn x = -1 ∨ sgn x = 0 ∨ sgn x = 1 := by
 cases h : decide (x < 0) with
 | true => exact .inl (sgn_1 h)
 | false =>
  cases h2 : decide (x > 0) with
  | true => exact .inr (.inr (sgn_2 h h2))
  | false => exact .inr (.inl (sgn_3 h h2))
theorem sgn_mul (x y : Int) : -1 ≤ sgn x * sgn y ∧ sgn x * sgn y ≤ 1 := by
 rcases sgn_cases x with h | h | h <;> rcases sgn_cases y with k | k | k <;> rw [h, k] <;> decide
def kmB (V : List (List Ev)) (L : List Sl) (a b n : Nat) : Bool := ((!(mvP V L a n).2) || (!(mvP V L b n).2)) || (sgn (mvP V L a n).1 * sgn (mvP V L b n).1 == 0)
def agB (V : List (List Ev)) (L : List Sl) (a b n : Nat) : Bool := (pfE V L a b (n - 1)).2 && ((pfE V L a b (n - 1)).1 == (pfE V L a b n).1)
def tgB (V : List (List Ev)) (L : List Sl) (a b n : Nat) : Bool := sgn (mvP V L a n).1 == sgn (mvP V L b n).1
def faI (V : List (List Ev)) (L : List Sl) (a b n : Nat) : Int := upE V L a b n (mvP V L a n).1 (mvP V L b n).1
def hdB (V : List (List Ev)) (L : List Sl) (a b n : Nat) : Bool := tgB V L a b n && (decide (faI V L a b n > 1) || decide (faI V L a b n < -1))
def kmE (V : List (List Ev)) (L : List Sl) (a b n : Nat) : Int × Int := bif kmB V L a b n then (0, 0) else bif !(pfE V L a b n).2 then (0, 0) else bif tgB V L a b n && agB V L a b n then (1, (pfE V L a b n).1) else bif agB V L a b n then (3, (pfE V L a b n).1) else bif hdB V L a b n then (2, (pfE V L a b n).1) else (0, 0)
section
variable {V : List (List Ev)} {L : List Sl} {a b n : Nat}
theorem km_1 (h : kmB V L a b n = true) : kmE V L a b n = (0, 0) := by unfold kmE; rw [h]; rfl
theorem km_2 (h : kmB V L a b n = false) (h2 : (!(pfE V L a b n).2) = true) : kmE V L a b n = (0, 0) := by unfold kmE; rw [h, h2]; rfl
theorem km_3 (h : kmB V L a b n = false) (h2 : (!(pfE V L a b n).2) = false) (h3 : (tgB V L a b n && agB V L a b n) = true) : kmE V L a b n = (1, (pfE V L a b n).1) := by unfold kmE; rw [h, h2, h3]; rfl
theorem km_4 (h : kmB V L a b n = false) (h2 : (!(pfE V L a b n).2) = false) (h3 : (tgB V L a b n && agB V L a b n) = false) (h4 : agB V L a b n = true) : kmE V L a b n = (3, (pfE V L a b n).1) := by unfold kmE; rw [h, h2, h3, h4]; rfl
theorem km_5 (h : kmB V L a b n = false) (h2 : (!(pfE V L a b n).2) = false) (h3 : (tgB V L a b n && agB V L a b n) = false) (h4 : agB V L a b n = false) (h5 : hdB V L a b n = true) : kmE V L a b n = (2, (pfE V L a b n).1) := by unfold kmE; rw [h, h2, h3, h4, h5]; rfl
theorem km_6 (h : kmB V L a b n = false) (h2 : (!(pfE V L a b n).2) = false) (h3 : (tgB V L a b n && agB V L a b n) = false) (h4 : agB V L a b n = false) (h5 : hdB V L a b n = false) : kmE V L a b n = (0, 0) := by unfold kmE; rw [h, h2, h3, h4, h5]; rfl
theorem km_pos (h : kmB V L a b n = false) : 1 ≤ n := by
 refine mv_pos (V := V) (L := L) (v := a) ?_
 cases h2 : (mvP V L a n).2 with
 | true => rfl
 | false => unfold kmB at h; rw [h2] at h; cases h
end
noncomputable def c38 : Code := Tryd.f38.body.getD .skip
theorem spec38 (aV aS : Option Addr) (cV cS : Nat) (V : List (List Ev)) (L : List Sl) (a b n : Nat) (hF : Fresh S) (hG : Gl S) (hs : SetAt S aV aS cV cS V L) (ha : a < V.length) (hb : b < V.length) (hnn : n < L.length) : CC Tryd.prog KK 38 [aggL [.slice aV V.length cV, .slice aS L.length cS], .int .i64 (a : Int), .int .i64 (b : Int), .int .i64 (n : Int)] S (fun v S' => Keep S S' ∧ v = tupV [.int .i64 (kmE V L a b n).1, .int .i64 (kmE V L a b n).2]) := by
 refine cc_enter (c := c38) (n := 106) Tryd.func38 rfl rfl rfl (by kernel_rfl) rfl rfl ?_
 have hl := Hold.start S
 have hm1 := sgn_mul (mvP V L a n).1 (mvP V L b n).1
 have hL := hs.hL
 refine xs (by kernel_rfl) ?_; refine re_boxL hl rfl rfl rfl rfl rfl rfl ?_; intro B4 S4 hl; iterate 2 refine rm rfl ?_
 refine re_end rfl ?_; refine xs (by kernel_rfl) ?_; refine rr rfl (rd_load rfl rfl (loadN_of (z := 2) (by kernel_rfl) (by kernel_rfl) (hl.get 0 rfl) rfl)) ?_; iterate 2 refine rm rfl ?_
 refine re_callL hl rfl rfl rfl rfl rfl rfl rfl (spec49 aV aS cV cS V L a n (hs.move (hl.since 0 rfl)) ha hnn) ?_; rintro v S1 hk1 rfl hl
 iterate 5 refine rm rfl ?_
 refine re_end rfl ?_; refine xs (by kernel_rfl) ?_; refine rr rfl (rd_load rfl rfl (loadN_of (z := 2) (by kernel_rfl) (by kernel_rfl) (hl.get 0 rfl) rfl)) ?_; iterate 2 refine rm rfl ?_
 refine re_callL hl rfl rfl rfl rfl rfl rfl rfl (spec49 aV aS cV cS V L b n (hs.move (hl.since 0 rfl)) hb hnn) ?_; rintro v S1 hk1 rfl hl
 iterate 5 refine rm rfl ?_
 refine re_end rfl ?_; refine xp_seq rfl ?_; refine xp_seq rfl (xe_toE hl 48 (.bool (kmB V L a b n)) ?_ rfl ?_)
 ·
  refine xg (by kernel_rfl) ?_; refine rm rfl ?_; refine rr rfl (rd_un rfl rfl rfl) ?_; refine rm rfl ?_; refine re_bool (d := 37) rfl (fun h37 => ?_) (fun h37 => ?_)
  ·
   iterate 2 refine rz rfl ?_
   iterate 2 refine rm rfl ?_
   iterate 6 refine rz rfl ?_
   refine rm rfl ?_; refine re_end rfl ?_
   exact ⟨rfl, bl (by unfold kmB; rw [h37]; rfl), by repeat (first | exact subL_refl _ | refine subL_skip rfl ?_), hl⟩
  ·
   refine rm rfl ?_; refine rr rfl (rd_un rfl rfl rfl) ?_; iterate 2 refine rm rfl ?_
   refine re_bool (d := 41) rfl (fun h41 => ?_) (fun h41 => ?_)
   ·
    iterate 6 refine rz rfl ?_
    refine rm rfl ?_; refine re_end rfl ?_
    exact ⟨rfl, bl (by unfold kmB; rw [h37, h41]; rfl), by repeat (first | exact subL_refl _ | refine subL_skip rfl ?_), hl⟩
   ·
    refine rm rfl ?_
    refine re_callL hl rfl rfl rfl rfl rfl rfl rfl (spec50 (mvP V L a n).1) ?_; rintro v S1 hk1 rfl hl
    refine rm rfl ?_
    refine re_callL hl rfl rfl rfl rfl rfl rfl rfl (spec50 (mvP V L b n).1) ?_; rintro v S1 hk1 rfl hl
    refine rr rfl (rd_bin rfl rfl rfl (i6 (by omega))) ?_; refine rr rfl (rd_bin rfl rfl rfl rfl) ?_; refine rm rfl ?_; refine re_end rfl ?_
    exact ⟨rfl, bl (by unfold kmB; rw [h37, h41]; rfl), by repeat (first | exact subL_refl _ | refine subL_skip rfl ?_), hl⟩
 intro S1 hl
 refine xp_cond rfl rfl (fun h48 => ?_) (fun h48 => ?_)
 ·
  refine xs (by kernel_rfl) ?_; iterate 2 refine rm rfl ?_
  refine re_end rfl ?_; refine xp_ret rfl ?_
  refine thn_ret (done_ret (ress_tmp rfl (ress_tmp rfl rfl)) ⟨hl.keep, by rw [km_1 h48] <;> rfl⟩)
 ·
  have hn1 := km_pos h48
  refine xp_skip rfl ?_; refine xs (by kernel_rfl) ?_; refine rr rfl (rd_load rfl rfl (loadN_of (z := 2) (by kernel_rfl) (by kernel_rfl) (hl.get 0 rfl) rfl)) ?_; iterate 3 refine rm rfl ?_
  refine re_callL hl rfl rfl rfl rfl rfl rfl rfl (spec51 aV aS cV cS V L a b n (hl.keep.3 hF) (hG.keep hl.keep) (hs.move (hl.since 0 rfl)) ha hb hnn) ?_; rintro v S1 hk1 rfl hl
  iterate 5 refine rm rfl ?_
  refine re_end rfl ?_; refine xp_seq rfl ?_; refine xs (by kernel_rfl) ?_; refine rm rfl ?_; refine rr rfl (rd_un rfl rfl rfl) ?_; refine re_end rfl ?_; refine xp_cond rfl rfl (fun h58 => ?_) (fun h58 => ?_)
  ·
   refine xs (by kernel_rfl) ?_; iterate 2 refine rm rfl ?_
   refine re_end rfl ?_; refine xp_ret rfl ?_
   refine thn_ret (done_ret (ress_tmp rfl (ress_tmp rfl rfl)) ⟨hl.keep, by rw [km_2 h48 h58] <;> rfl⟩)
  ·
   refine xp_skip rfl ?_; refine xs (by kernel_rfl) ?_; refine rr rfl (rd_load rfl rfl (loadN_of (z := 2) (by kernel_rfl) (by kernel_rfl) (hl.get 0 rfl) rfl)) ?_; iterate 3 refine rm rfl ?_
   refine rr rfl (rd_bin rfl rfl rfl (congrArg some (congrArg (Value.int .i64) ((IntWalk.i64_in _ (by omega)).trans (show ((n : Int) - 1) = ((n - 1 : Nat) : Int) by omega))))) ?_
   refine re_callL hl rfl rfl rfl rfl rfl rfl rfl (spec51 aV aS cV cS V L a b (n - 1) (hl.keep.3 hF) (hG.keep hl.keep) (hs.move (hl.since 0 rfl)) ha hb (by omega)) ?_; rintro v S1 hk1 rfl hl
   iterate 5 refine rm rfl ?_
   refine re_end rfl ?_; refine xp_seq rfl (xe_toE hl 18 (.bool (agB V L a b n)) ?_ rfl ?_)
   ·
    refine xg (by kernel_rfl) ?_; iterate 2 refine rm rfl ?_
    refine re_bool (d := 69) rfl (fun h69 => ?_) (fun h69 => ?_)
    ·
     iterate 2 refine rm rfl ?_
     refine rr rfl (rd_bin rfl rfl rfl rfl) ?_; iterate 2 refine rm rfl ?_
     refine re_end rfl ?_
     exact ⟨rfl, bl (by unfold agB; rw [h69]; rfl), by repeat (first | exact subL_refl _ | refine subL_skip rfl ?_), hl⟩
    ·
     iterate 3 refine rz rfl ?_
     iterate 2 refine rm rfl ?_
     refine re_end rfl ?_
     exact ⟨rfl, bl (by unfold agB; rw [h69]; rfl), by repeat (first | exact subL_refl _ | refine subL_skip rfl ?_), hl⟩
   intro S1 hl
   refine xs (by kernel_rfl) ?_; refine rm rfl ?_
   refine re_callL hl rfl rfl rfl rfl rfl rfl rfl (spec50 (mvP V L a n).1) ?_; rintro v S1 hk1 rfl hl
   refine rm rfl ?_
   refine re_callL hl rfl rfl rfl rfl rfl rfl rfl (spec50 (mvP V L b n).1) ?_; rintro v S1 hk1 rfl hl
   refine rr rfl (rd_bin rfl rfl rfl rfl) ?_; refine rm rfl ?_; refine re_end rfl ?_; refine xs (by kernel_rfl) ?_; refine rr rfl (rd_load rfl rfl (loadN_of (z := 2) (by kernel_rfl) (by kernel_rfl) (hl.get 0 rfl) rfl)) ?_; iterate 5 refine rm rfl ?_
   refine re_callL hl rfl rfl rfl rfl rfl rfl rfl (spec52 aV aS cV cS V L a b n _ _ (hs.move (hl.since 0 rfl)) ha hb hnn) ?_; rintro v S1 hk1 rfl hl
   refine rm rfl ?_; refine re_end rfl ?_; refine xp_seq rfl ?_; refine xp_block rfl ?_; refine xp_seq rfl (xe_toE hl 86 (.bool (tgB V L a b n && agB V L a b n)) ?_ rfl ?_)
   ·
    refine xg (by kernel_rfl) ?_; iterate 2 refine rm rfl ?_
    refine re_bool (d := 88) rfl (fun h88 => ?_) (fun h88 => ?_)
    ·
     iterate 3 refine rm rfl ?_
     refine re_end rfl ?_
     exact ⟨rfl, bl (by rw [show tgB V L a b n = _ from h88]; rfl), by repeat (first | exact subL_refl _ | refine subL_skip rfl ?_), hl⟩
    ·
     refine rz rfl ?_; iterate 2 refine rm rfl ?_
     refine re_end rfl ?_
     exact ⟨rfl, bl (by rw [show tgB V L a b n = _ from h88]; rfl), by repeat (first | exact subL_refl _ | refine subL_skip rfl ?_), hl⟩
   intro S1 hl
   refine xp_cond rfl rfl (fun h86 => ?_) (fun h86 => ?_)
   ·
    refine xs (by kernel_rfl) ?_; iterate 3 refine rm rfl ?_
    refine re_end rfl ?_; refine xp_ret rfl ?_
    refine blk_ret (thn_ret (done_ret (ress_tmp rfl (ress_tmp rfl rfl)) ⟨hl.keep, by rw [km_3 h48 h58 h86] <;> rfl⟩))
   ·
    refine xs (by kernel_rfl) ?_; iterate 2 refine rm rfl ?_
    refine re_end rfl ?_; refine xp_cond rfl rfl (fun h92 => ?_) (fun h92 => ?_)
    ·
     refine xs (by kernel_rfl) ?_; iterate 3 refine rm rfl ?_
     refine re_end rfl ?_; refine xp_ret rfl ?_
     refine blk_ret (thn_ret (done_ret (ress_tmp rfl (ress_tmp rfl rfl)) ⟨hl.keep, by rw [km_4 h48 h58 h86 h92] <;> rfl⟩))
    ·
     refine xp_seq rfl (xe_toE hl 95 (.bool (hdB V L a b n)) ?_ rfl ?_)
     ·
      refine xg (by kernel_rfl) ?_; iterate 2 refine rm rfl ?_
      refine re_bool (d := 97) rfl (fun h97 => ?_) (fun h97 => ?_)
      ·
       refine rm rfl ?_; refine rr rfl (rd_bin rfl rfl rfl rfl) ?_; refine rm rfl ?_; refine re_bool (d := 100) rfl (fun h100 => ?_) (fun h100 => ?_)
       ·
        iterate 2 refine rz rfl ?_
        iterate 3 refine rm rfl ?_
        refine re_end rfl ?_
        exact ⟨rfl, bl (by unfold hdB; rw [show tgB V L a b n = _ from h97]; rw [show decide (faI V L a b n > 1) = _ from h100]; rfl), by repeat (first | exact subL_refl _ | refine subL_skip rfl ?_), hl⟩
       ·
        refine rm rfl ?_; refine rr rfl (rd_bin rfl rfl rfl rfl) ?_; iterate 3 refine rm rfl ?_
        refine re_end rfl ?_
        exact ⟨rfl, bl (by unfold hdB; rw [show tgB V L a b n = _ from h97]; rw [show decide (faI V L a b n > 1) = _ from h100]; rfl), by repeat (first | exact subL_refl _ | refine subL_skip rfl ?_), hl⟩
      ·
       iterate 6 refine rz rfl ?_
       iterate 2 refine rm rfl ?_
       refine re_end rfl ?_
       exact ⟨rfl, bl (by unfold hdB; rw [show tgB V L a b n = _ from h97]; rfl), by repeat (first | exact subL_refl _ | refine subL_skip rfl ?_), hl⟩
     intro S1 hl
     refine xp_cond rfl rfl (fun h95 => ?_) (fun h95 => ?_)
     ·
      refine xs (by kernel_rfl) ?_; iterate 3 refine rm rfl ?_
      refine re_end rfl ?_; refine xp_ret rfl ?_
      refine blk_ret (thn_ret (done_ret (ress_tmp rfl (ress_tmp rfl rfl)) ⟨hl.keep, by rw [km_5 h48 h58 h86 h92 h95] <;> rfl⟩))
     ·
      refine xp_skip rfl ?_; refine xs (by kernel_rfl) ?_; iterate 2 refine rm rfl ?_
      refine re_end rfl ?_; refine xp_ret rfl ?_
      refine done_ret (ress_tmp rfl (ress_tmp rfl rfl)) ⟨hl.keep, by rw [km_6 h48 h58 h86 h92 h95] <;> rfl⟩
end Go.Proofs.YtlnenodplgpceaaDoor
namespace Go.Proofs.YtlnenodplgpceaaDoor
open Go.Cm Go
set_option maxRecDepth 100000
variable {S : St}
theorem sgn_le {x : Int} (h : x ≤ 0) : sgn x ≤ 0 := by
 cases h1 : decide (x < 0) with
 | true => rw [sgn_1 h1]; decide
 | false => rw [sgn_3 h1 (decide_eq_false (by omega))]; decide
theorem cmp_zT (t : Ti) : (cmpE zT t).1 ≤ 0 := by
 cases h : (firstE [zT, t] != 0) with
 | true => rw [cmpE_1 h]; exact Int.le_refl 0
 | false =>
  rw [cmpE_2 h]
  have ht := tE_ok (first2 h).2
  refine sgn_le ?_
  show 0 * t.d - t.n * 1 ≤ 0
  omega
theorem hr_nil (t : Ti) (k : Nat) : hrE [] t k = -1 := (hr_1 (v := []) (decide_eq_true (show (cmpE (endE []).1 t).1 ≤ 0 from cmp_zT t))).symm
theorem adv_lt : ∀ (f : Nat) (v : List Ev) (t : Ti) (k : Nat), k < v.length → adv f v t k < v.length
 | 0, _, _, _, h => h
 | f + 1, v, t, k, h => by
  rw [adv]
  cases hb : advB v t k with
  | true => exact adv_lt f v t (k + 1) (advB_lt hb)
  | false => exact h
theorem hr_le (v : List Ev) (t : Ti) (k : Nat) : hrE v t k ≤ (k : Int) := by
 unfold hrE
 cases decide ((cmpE (endE v).1 t).1 ≤ 0) with
 | true => show (-1 : Int) ≤ _; omega
 | false => exact Int.le_refl _
theorem nth_unzip {α β γ : Type} {f : α → β → γ} : ∀ {l : List α} {r : List β} {i : Nat} {z : γ}, nth (List.zipWith f l r) i = some z → ∃ x y, nth l i = some x ∧ nth r i = some y ∧ z = f x y
 | [], _, _, _, h => by simp [nth] at h
 | _ :: _, [], _, _, h => by simp [nth] at h
 | x :: _, y :: _, 0, _, h => by cases h; exact ⟨x, y, rfl, rfl, rfl⟩
 | _ :: l, _ :: r, i + 1, _, h => nth_unzip (l := l) (r := r) (i := i) h
def PlOk (V : List (List Ev)) (A : List Nat) : Prop := A.length = V.length ∧ ∀ j k x, nth A j = some k → nth V j = some x → k < x.length ∨ x = []
theorem PlOk.step {V : List (List Ev)} {A : List Nat} (h : PlOk V A) (t : Ti) : PlOk V (upd V t A) := by
 refine ⟨by unfold upd; rw [List.length_zipWith]; have := h.1; omega, fun j k x hk hx => ?_⟩
 obtain ⟨x', k0, e1, e2, rfl⟩ := nth_unzip hk
 rw [hx] at e1
 cases e1
 rcases h.2 j k0 x e2 hx with h3 | h3
 ·exact .inl (adv_lt _ _ _ _ h3)
 ·exact .inr h3
def SlOk (V : List (List Ev)) (s : Sl) : Prop := s.ev.length = V.length ∧ ∀ v i x, nth s.ev v = some i → nth V v = some x → i < (x.length : Int)
theorem evs_ok {V : List (List Ev)} {A : List Nat} (h : PlOk V A) (t d : Ti) : SlOk V ⟨t, d, evs V t A⟩ := by
 refine ⟨by show (evs V t A).length = _; unfold evs; rw [List.length_zipWith]; have := h.1; omega, fun v i x hi hx => ?_⟩
 obtain ⟨x', k0, e1, e2, rfl⟩ := nth_unzip hi
 rw [hx] at e1
 cases e1
 rcases h.2 v k0 x e2 hx with h3 | h3
 ·have := adv_lt (x.length - k0) x t k0 h3
  have h4 := hr_le x t (advE x t k0)
  have h5 : advE x t k0 < x.length := this
  omega
 ·subst h3
  rw [hr_nil]
  decide
theorem slG_ok {V : List (List Ev)} : ∀ (l : List Ti) (A : List Nat), PlOk V A → ∀ s, s ∈ (slG V l A).1 → SlOk V s
 | [], _, _, s, hs => (List.not_mem_nil hs).elim
 | [_], _, _, s, hs => (List.not_mem_nil hs).elim
 | t :: u :: r, A, h, s, hs => by
  cases he : ((subE u t).2 != 0) with
  | true => rw [slG_1 he] at hs; exact (List.not_mem_nil hs).elim
  | false =>
   rw [slG_2 he] at hs
   rcases List.mem_cons.1 hs with rfl | hs
   ·exact evs_ok h t _
   ·exact slG_ok (u :: r) (upd V t A) (h.step t) s hs
theorem slG_len {V : List (List Ev)} : ∀ (l : List Ti) (A : List Nat), (slG V l A).1.length ≤ l.length
 | [], _ => Nat.le_refl _
 | [_], _ => Nat.zero_le _
 | t :: u :: r, A => by
  cases he : ((subE u t).2 != 0) with
  | true => rw [slG_1 he]; exact Nat.zero_le _
  | false =>
   rw [slG_2 he]
   have := slG_len (V := V) (u :: r) (upd V t A)
   show (slG V (u :: r) (upd V t A)).1.length + 1 ≤ (u :: r).length + 1
   omega
theorem sls_wf {V : List (List Ev)} : WF V (slsE V).1 := by
 have h0 : ∀ s, s ∈ (slE V).1 → SlOk V s := slG_ok _ _ ⟨by simp, fun j k x hk hx => by
  obtain ⟨y, _, rfl⟩ := nth_unmap2 hk
  cases x with
  | nil => exact .inr rfl
  | cons => exact .inl (by simp)⟩
 intro n s hs
 have hm := nth_mem hs
 cases h1 : ((acE V).1 != 0) with
 | true => rw [sls_1 h1] at hm; exact (List.not_mem_nil hm).elim
 | false =>
  by_cases h2 : (slE V).2 = 0
  ·rw [sls_3 h1 h2] at hm; exact h0 s hm
  ·rw [sls_2 h1 h2] at hm; exact (List.not_mem_nil hm).elim
theorem sls_len {V : List (List Ev)} (hn : V.length ≤ 8) (hV : ∀ x, x ∈ V → x.length ≤ 2000) : (slsE V).1.length ≤ 20000 := by
 have h := slG_len (V := V) (moE V) (V.map fun _ => 0)
 have h3 := moE_len hn hV
 cases h1 : ((acE V).1 != 0) with
 | true => rw [sls_1 h1]; exact Nat.zero_le _
 | false =>
  by_cases h2 : (slE V).2 = 0
  ·rw [sls_3 h1 h2]; exact Nat.le_trans h h3
  ·rw [sls_2 h1 h2]; exact Nat.zero_le _
theorem sls_e {V : List (List Ev)} (h : ((slsE V).2 != 0) = false) : ((acE V).1 != 0) = false := by
 cases h1 : ((acE V).1 != 0) with
 | false => rfl
 | true => rw [sls_1 h1] at h; rw [h1] at h; cases h
end Go.Proofs.YtlnenodplgpceaaDoor
namespace Go.Proofs.YtlnenodplgpceaaDoor
open Go.Cm Go
set_option maxRecDepth 100000
variable {S : St}
structure Par where
 n : Int
 a : Int
 b : Int
 k : Int
 st : Int
def Par.cells (p : Par) : List Value := [.int .i64 p.n, .int .i64 p.a, .int .i64 p.b, .int .i64 p.k, .int .i64 p.st]
def prI (V : List (List Ev)) (L : List Sl) (n a b : Nat) : List Par := bif decide ((kmE V L a b n).1 > 0) then [⟨n, a, b, (kmE V L a b n).1, (kmE V L a b n).2⟩] else []
theorem prI_1 {V : List (List Ev)} {L : List Sl} {n a b : Nat} (h : decide ((kmE V L a b n).1 > 0) = true) : prI V L n a b = [⟨n, a, b, (kmE V L a b n).1, (kmE V L a b n).2⟩] := by unfold prI; rw [h]; rfl
theorem prI_2 {V : List (List Ev)} {L : List Sl} {n a b : Nat} (h : decide ((kmE V L a b n).1 > 0) = false) : prI V L n a b = [] := by unfold prI; rw [h]; rfl
def prB (V : List (List Ev)) (L : List Sl) (n a : Nat) : Nat → Nat → List Par
 | 0, _ => []
 | f + 1, b => prI V L n a b ++ prB V L n a f (b + 1)
def prA (V : List (List Ev)) (L : List Sl) (n : Nat) : Nat → Nat → List Par
 | 0, _ => []
 | f + 1, a => prB V L n a (V.length - (a + 1)) (a + 1) ++ prA V L n f (a + 1)
noncomputable def c23 : Code := Tryd.f23.body.getD .skip
noncomputable def rp23 : Code := pA (Cm.pB (Cm.pB (pA (pA (Cm.pB (Cm.pB (pA (pA (Cm.pB (pA (Cm.pB (Cm.pB (Cm.pB (Cm.pB c23))))))))))))))
structure Fp where
 lb : Nat
 db : Nat
 bp : Nat
 b4 : Nat
 b6 : Nat
 b7 : Nat
 t : Tm
 n : Nat
 aV : Option Addr
 aS : Option Addr
 cV : Nat
 cS : Nat
 V : List (List Ev)
 L : List Sl
noncomputable def Fp.l (z : Fp) (ov : Value) : List (Nat × Blk) := [(z.b7, .cells [.int .i64 (z.n : Int)] 3 false true []), (z.b6, .cells [ov] 62 false true []), (z.b4, .cells [.slice z.aV z.V.length z.cV, .slice z.aS z.L.length z.cS] 90 false true []), (z.lb, .loop .ready none 52 z.t (rgP rp23) (rgA rp23) (rgB rp23) z.db), (z.db, .defs false), (z.bp, .cells [.int .i64 (z.V.length : Int)] 3 false true [])]
theorem round_pr {Sb Sm S : St} (z : Fp) (hz : Has 52 ⟨52, z.t, []⟩ [(7, ptrTo z.b7 0), (6, ptrTo z.b6 0), (4, ptrTo z.b4 0)]) {fo rest : List (Nat × Blk)} {ov : Value} {D : List Par} {a b : Nat} (hF : Fresh Sb) (hG : Gl Sb) (hs : SetAt Sm z.aV z.aS z.cV z.cS z.V z.L) (ha : a < z.V.length) (hb : b < z.V.length) (hn : z.n < z.L.length) (hD : D.length ≤ 2000000) (hg : GB ov 67 5 ((D.map Par.cells).flatten) D.length fo) (hl : HoldG Sb [Sm, Sb] S (z.l ov ++ (fo ++ rest)) []) :
  CT Tryd.prog KK (.fn (.yield z.lb) #[]) [.int .i64 (a : Int), .int .i64 (b : Int)] S fun r S' => r = .returned (.bool true) ∧ ∃ ov' fo', GB ov' 67 5 (((D ++ prI z.V z.L z.n a b).map Par.cells).flatten) (D ++ prI z.V z.L z.n a b).length fo' ∧ HoldG Sb [Sm, Sb] S' (z.l ov' ++ (fo' ++ rest)) [] := by
 refine ct_round (hl.get 3 rfl) hz rfl rfl ?_; refine xs (by kernel_rfl) ?_; refine rm rfl ?_; refine re_end rfl ?_; refine xg (by kernel_rfl) ?_; refine rm rfl ?_; refine re_end rfl ?_
 refine ⟨rfl, _, _, _, _, _, _, _, hl.get 3 rfl, ?_⟩
 have hl := hl.put (k := 3) rfl rfl (.loop .busy none 52 z.t (rgP rp23) (rgA rp23) (rgB rp23) z.db)
 refine xp_block rfl ?_; refine xs (by kernel_rfl) ?_; refine rr rfl (rd_load rfl rfl (loadN_of (z := 2) (by kernel_rfl) (by kernel_rfl) (hl.get 2 rfl) rfl)) ?_; iterate 2 refine rm rfl ?_
 refine rr rfl (rl hl 0 rfl rfl (by kernel_rfl) rfl rfl) ?_
 refine re_callL hl rfl rfl rfl rfl rfl rfl rfl (spec38 z.aV z.aS z.cV z.cS z.V z.L a b z.n (hl.keep.3 hF) (hG.keep hl.keep) (hs.move (hl.since 0 rfl)) ha hb hn) ?_; rintro v S1 hk1 rfl hl
 iterate 5 refine rm rfl ?_
 refine re_end rfl ?_; refine xs (by kernel_rfl) ?_; refine rm rfl ?_; refine rr rfl (rd_bin rfl rfl rfl rfl) ?_; refine re_end rfl ?_; refine xp_cond rfl rfl (fun h40 => ?_) (fun h40 => ?_)
 ·refine xg (by kernel_rfl) ?_
  refine rr rfl (rl hl 1 rfl rfl (by kernel_rfl) rfl rfl) ?_; refine rr rfl (rl hl 0 rfl rfl (by kernel_rfl) rfl rfl) ?_; iterate 4 refine rm rfl ?_
  refine rr rfl (rd_build rfl rfl (v := aggL (Par.cells ⟨z.n, a, b, (kmE z.V z.L a b z.n).1, (kmE z.V z.L a b z.n).2⟩)) (by rfl)) ?_; refine re_buildSliceR hl rfl rfl rfl rfl rfl Tryd.underlying62 rfl (c := Par.cells ⟨z.n, a, b, (kmE z.V z.L a b z.n).1, (kmE z.V z.L a b z.n).2⟩) (by kernel_rfl) ?_; intro B48 S1 hr48 hl
  have hl : HoldG Sb [Sm, Sb] _ (putB 3 (.loop .busy none 52 z.t (rgP rp23) (rgA rp23) (rgB rp23) z.db) (z.l ov) ++ (fo ++ rest)) [] := hl
  have hl := hl.perm (List.perm_append_comm_assoc _ fo rest)
  refine re_appendB hl hg rfl rfl rfl rfl rfl rfl rfl Tryd.underlying62 Tryd.underlying62 rfl rfl (by decide) (by kernel_rfl) (src_row (new := Par.cells ⟨z.n, a, b, (kmE z.V z.L a b z.n).1, (kmE z.V z.L a b z.n).2⟩) hr48 rfl) rfl rfl (by kernel_rfl) (by show D.length + 1 ≤ maxNeed; unfold maxNeed; omega) ?_; intro ov' fo' S2 hg' hl
  have hl := hl.perm (List.perm_append_comm_assoc fo' (putB 3 (.loop .busy none 52 z.t (rgP rp23) (rgA rp23) (rgB rp23) z.db) (z.l ov)) rest)
  obtain ⟨oa, rfl⟩ := GB.is hg'
  refine re_storeL hl 1 rfl rfl rfl rfl rfl rfl rfl (by kernel_rfl) rfl ?_; intro S1 hl; refine re_end rfl ?_
  refine ⟨_, _, _, _, _, _, _, _, hl.get 3 rfl, rfl, .slice oa (D.length + 1) (D.length + 1), fo', ?_, ?_⟩
  ·rw [prI_1 h40, List.map_append, List.flatten_append, List.length_append]
   exact hg'
  exact hl.put (k := 3) rfl rfl (.loop .ready none 52 z.t (rgP rp23) (rgA rp23) (rgB rp23) z.db)
 ·refine xp_skip rfl ?_
  refine ⟨_, _, _, _, _, _, _, _, hl.get 3 rfl, rfl, ov, fo, ?_, ?_⟩
  ·rw [prI_2 h40, List.append_nil]
   exact hg
  exact hl.put (k := 3) rfl rfl (.loop .ready none 52 z.t (rgP rp23) (rgA rp23) (rgB rp23) z.db)
end Go.Proofs.YtlnenodplgpceaaDoor
