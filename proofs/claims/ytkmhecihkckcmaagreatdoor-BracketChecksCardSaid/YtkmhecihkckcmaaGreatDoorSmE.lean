/-
  The program: Expand. The reference: Expand. The frame of find. The program: the iterator over the sections. The program: find. Sections on both sides. The program: bracket.Check. The reference: Check.
-/
import Derived.Test.YtkmhecihkckcmaaGreatDoorSmD
import Derived.Test.YtkmhecihkckcmaaGreatDoorSy2
namespace Go.Proofs.YtkmhecihkckcmaaGreatDoor
open Go.Cm Go
set_option maxRecDepth 100000
variable {S : St}
theorem prsN_no {n i : Nat} {C : List Sg} (hi : i < C.length) (hk : ((sgI C (i : Nat)).kind != 4) = true) : prsN (n + 1) C i = prsN n C (i + 1) := by
 have : ((sgI C (i : Nat)).kind == 4) = false := by simpa using hk
 rw [prsN, decide_eq_true hi, this]; rfl
theorem prsN_yes {n i : Nat} {C : List Sg} (hi : i < C.length) (hk : ((sgI C (i : Nat)).kind != 4) = false) : prsN (n + 1) C i = (i, lastN C.length C i) :: prsN n C (lastN C.length C i + 1) := by
 have : ((sgI C (i : Nat)).kind == 4) = true := by simpa using hk
 rw [prsN, decide_eq_true hi, this]; rfl
theorem prsN_end {n i : Nat} {C : List Sg} (hi : C.length ≤ i) : prsN n C i = [] := by
 cases n with
 | zero => rfl
 | succ n => rw [prsN, decide_eq_false (by omega)]; rfl
theorem expE_err {nl : List UInt8} {C : List Sg} (h : ((partE nl C).1 != 0) = true) : expE nl C = ((partE nl C).1, []) := by unfold expE; rw [h]; rfl
theorem expE_ok {nl : List UInt8} {C : List Sg} (h : ((partE nl C).1 != 0) = false) : expE nl C = expL C (prs C) C := by unfold expE; rw [h]; rfl
def ExpR (nl : List UInt8) (C : List Sg) (v : Value) (S' : St) : Prop := ∃ nm' a' cap', v = tupV [aggL [.string nm', .slice a' (expE nl C).2.length cap'], .int .i64 (expE nl C).1] ∧ Signs S' (.slice a' (expE nl C).2.length cap') (expE nl C).2
theorem exp_res {S' : St} {nl : List UInt8} {C X : List Sg} {e : Int} {nm' : ByteArray} {a' : Option Addr} {len cap' : Nat} (h : expE nl C = (e, X)) (hlen : len = X.length) (hs : Signs S' (.slice a' X.length cap') X) : ExpR nl C (tupV [aggL [.string nm', .slice a' len cap'], .int .i64 e]) S' := by
 subst hlen
 unfold ExpR
 rw [h]
 exact ⟨_, _, _, rfl, hs⟩
theorem signs_none (S : St) : Signs S (.slice none ([] : List Sg).length 0) [] := .inl ⟨rfl, .inl rfl⟩
noncomputable def c45 : Code := Tryz.f45.body.getD .skip
theorem spec45 (nm : ByteArray) (a : Option Addr) (cap : Nat) (C : List Sg) (hnm : nm.data.toList.length ≤ 9223372036854775807) (hn : C.length ≤ 1000) (hG : Gl S) (hF : Fresh S) (hv : Signs S (.slice a C.length cap) C) : CC Tryz.prog KK 45 [aggL [.string nm, .slice a C.length cap]] S (fun v S' => Keep S S' ∧ ExpR nm.data.toList C v S') := by
 refine cc_enter (c := c45) (n := 102) Tryz.func45 rfl rfl rfl (by kernel_rfl) rfl rfl ?_
 have hl := Hold.start S
 refine xs (by kernel_rfl) ?_; refine re_boxL hl rfl rfl rfl rfl rfl rfl ?_; intro B1 S1 hl; refine re_allocL hl rfl rfl rfl rfl rfl (z := [.string ⟨#[]⟩, .slice none 0 0]) (by kernel_rfl) ?_; intro B2 S2 hl; refine rm rfl ?_; refine re_end rfl ?_; refine xp_scope rfl ?_; refine xp_seq rfl ?_; refine xs (by kernel_rfl) ?_; refine rr rfl (rd_load rfl rfl (loadN_of (z := 2) (by kernel_rfl) (by kernel_rfl) (hl.get 1 rfl) rfl)) ?_
 refine re_callL hl rfl rfl rfl rfl rfl rfl rfl (spec54 nm a cap C hn (hG.keep hl.keep) (hv.move (hl.since 0 rfl))) ?_; rintro v S1 hk1 rfl hl
 iterate 5 refine rm rfl ?_
 refine re_end rfl ?_; refine xs (by kernel_rfl) ?_; refine rm rfl ?_; refine rr rfl (rd_bin rfl rfl rfl rfl) ?_; refine re_end rfl ?_; refine xp_cond rfl rfl (fun h20 => ?_) (fun h20 => ?_)
 ·
  refine xs (by kernel_rfl) ?_; refine rr rfl (rd_build rfl rfl (v := aggL [.string ⟨#[]⟩, .slice none 0 0]) (by rfl)) ?_; refine rm rfl ?_; refine re_storeL hl 0 rfl rfl rfl rfl rfl rfl rfl (by kernel_rfl) rfl ?_; intro S1 hl; refine rm rfl ?_; refine re_end rfl ?_; refine xp_ret rfl ?_
  refine thn_ret (scp_ret (done_ret (ress_cell rfl (loadN_of (z := 2) (by kernel_rfl) (by kernel_rfl) (hl.get 0 rfl) rfl) (ress_tmp rfl rfl)) ⟨hl.keep, exp_res (expE_err h20) rfl (signs_none _)⟩))
 ·
  refine xp_skip rfl ?_; refine xp_seq rfl ?_; refine xp_draw (idx := [0, 1, 2, 3, 6, 4, 5, 7]) rfl (by kernel_rfl) (by kernel_rfl) ?_; refine pr rfl (rd_fieldAddr rfl rfl (fa Tryz.underlying24 az24 rfl)) ?_; refine pk rfl (rl hl 1 rfl rfl (by kernel_rfl) rfl rfl) ?_; refine pr rfl (rd_fieldAddr rfl rfl (fa Tryz.underlying24 az24 rfl)) ?_; refine pk rfl (rl hl 1 rfl rfl (by kernel_rfl) rfl rfl) ?_; refine rp_allocL hF hl rfl rfl rfl rfl rfl (z := [.string ⟨#[]⟩, .slice none 0 0]) (by kernel_rfl) ?_; intro B6 S6 hl
  refine rp_callL hl rfl rfl rfl rfl rfl rfl rfl (cloneT hn (hv.move (hl.since 0 rfl))) ?_; rintro v S3 hk3 ⟨aw, tl, rfl, hT, hlt⟩ hl2; have hl := hl.join hlt; refine ⟨stays_of (by repeat (first | exact trivial | refine ⟨(by first | exact stays_load (X := True) rfl rfl (load1_of (by kernel_rfl) (hl.get 2 rfl) rfl) (same_atom (atom_slice _ _ _)) rfl trivial | exact stays_load (X := True) rfl rfl (load1_of (by kernel_rfl) (hl.get 2 rfl) rfl) (same_atom (atom_string _)) rfl trivial | exact stays_new (X := True) rfl (hl.get 0 rfl) (sameL_atoms _ _ (by decide) (atoms_cons (atom_string _) (atoms_cons (atom_slice _ _ _) atoms_nil))) trivial), ?_⟩)), ?_⟩
  refine pr rfl (rd_build rfl rfl (v := aggL [.string nm, .slice aw C.length C.length]) (by rfl)) ?_
  refine rp_storeL hl 0 rfl rfl rfl rfl rfl rfl rfl (by kernel_rfl) rfl ?_; intro S1 hl; refine ⟨stays_all (by kernel_rfl), ?_⟩
  refine rp_end rfl ?_; refine xs (by kernel_rfl) ?_; refine rm rfl ?_; refine re_end rfl ?_; refine xs (by kernel_rfl) ?_; refine rm rfl ?_; refine re_end rfl ?_; refine xp_seq rfl ?_; refine xp_label rfl ?_; refine xp_seq rfl ?_; refine xp_block rfl ?_
  -- LOOP
  have hC : LigOk C := ligOk (nm := nm.data.toList) (by simpa using h20)
  have hex := expE_ok h20
  refine xe_sub (L' := [(8, .int .i64 0), (7, .int .i64 0), (6, ptrTo B6 0), (3, .int .i64 0), (2, ptrTo B2 0), (1, ptrTo B1 0)]) ⟨rfl, rfl, rfl, rfl, rfl, rfl, trivial⟩ ?_
  refine xp_loop rfl (fun m Le S' => ∃ (i n : Nat) (D : List Sg) (tl : List (Nat × Blk)), i ≤ C.length ∧ m = C.length - i ∧ C.length - i ≤ n ∧ D.length = C.length ∧ (∀ q : Nat, i ≤ q → q < C.length → sgI D (q : Nat) = sgI C (q : Nat)) ∧ expL C (prsN n C i) D = expL C (prs C) C ∧ TLp aw D tl ∧ SubE [(8, .int .i64 (i : Int)), (7, .int .i64 0), (6, ptrTo B6 0), (3, .int .i64 0), (2, ptrTo B2 0), (1, ptrTo B1 0)] Le ∧ HoldG S [S] S' ([(B6, .cells [.string nm, .slice aw C.length C.length] 24 false true []), (B2, .cells [.string ⟨#[]⟩, .slice none 0 0] 24 false true []), (B1, .cells [.string nm, .slice a C.length cap] 24 false true [])] ++ tl) []) ?_ (m := C.length) ⟨0, C.length, C, tl, by omega, by omega, by omega, rfl, fun _ _ _ => rfl, rfl, hT, ⟨rfl, rfl, rfl, rfl, rfl, rfl, trivial⟩, hl⟩
  clear hl hT hl2 hlt; rintro m Le S' ⟨i, n, D, tl, hi, rfl, hin, hD, hag, hpr, hT, hsub, hl⟩; refine xe_sub hsub ?_
  refine xp_seq rfl ?_; refine xs (by kernel_rfl) ?_; refine rm rfl ?_; refine rr rfl (rd_fieldAddr rfl rfl (fa Tryz.underlying24 az24 rfl)) ?_; refine rr rfl (rl hl 0 rfl rfl (by kernel_rfl) rfl rfl) ?_; refine rr rfl (rd_len rfl rfl (len_slice Tryz.underlying22)) ?_; refine rr rfl (rd_bin rfl rfl rfl rfl) ?_; refine re_end rfl ?_; refine xp_cond rfl rfl (fun h33 => ?_) (fun h33 => ?_)
  ·
   have hlt : i < C.length := by have := of_decide_eq_true h33; omega
   obtain ⟨b, ks, haw, rfl⟩ := hT.pos (by omega)
   obtain ⟨n, rfl⟩ : ∃ n1, n = n1 + 1 := ⟨n - 1, by omega⟩
   have hDi := hag i (Nat.le_refl _) hlt
   obtain ⟨b0, o, cs, ha, hrow, hall⟩ := hv.row (by omega)
   refine xp_skip rfl ?_; refine xp_block rfl ?_; refine xp_seq rfl ?_; refine xs (by kernel_rfl) ?_; refine rr rfl (rd_fieldAddr rfl rfl (fa Tryz.underlying24 az24 rfl)) ?_; refine rr rfl (rl hl 0 rfl rfl (by kernel_rfl) rfl rfl) ?_; refine rm rfl ?_; refine rr rfl (rd_indexAddr rfl rfl rfl (indexAddr_sl (z := 17) haw Tryz.underlying22 (by kernel_rfl) ⟨by omega, by omega⟩)) ?_; refine rr rfl (rd_fieldAddr rfl rfl (fa Tryz.underlying63 az63 rfl)) ?_; refine rr rfl (rd_load rfl rfl (load1_row (by kernel_rfl) (own_row hl 3 rfl) (tk_nth (flat_at (by omega) (by omega)) rfl))) ?_
   refine rr rfl (rd_bin rfl rfl rfl rfl) ?_; refine re_end rfl ?_; refine xp_cond rfl rfl (fun h40 => ?_) (fun h40 => ?_)
   ·
    refine xs (by kernel_rfl) ?_; refine rm rfl ?_; refine rr rfl (rd_bin rfl rfl rfl (i6 (by omega))) ?_; refine rm rfl ?_; refine re_end rfl ?_; refine xp_exit rfl ?_
    rw [hDi] at h40
    exact ⟨C.length - (i + 1), by omega, i + 1, n, D, _, by omega, rfl, by omega, hD, fun q h1 h2 => hag q (by omega) h2, by rw [← hpr, prsN_no hlt h40], hT, ⟨rfl, rfl, rfl, rfl, rfl, rfl, trivial⟩, hl⟩
   ·
    refine xp_skip rfl ?_; refine xs (by kernel_rfl) ?_; iterate 2 refine rm rfl ?_
    refine re_end rfl ?_; refine xp_seq rfl ?_; refine xp_block rfl ?_
    -- LOOP
    rw [hDi] at h40
    have hL := lig1 hC C.length i hlt (by omega) (by simpa using h40)
    have hps := prsN_yes (n := n) hlt h40
    generalize lastN C.length C i = K at hL hps
    have hKl := hL.lt
    have hiK := hL.le
    refine xe_sub (L' := [(9, .int .i64 (i : Int)), (8, .int .i64 (i : Int)), (7, .int .i64 0), (6, ptrTo B6 0), (3, .int .i64 0), (2, ptrTo B2 0), (1, ptrTo B1 0)]) ⟨rfl, rfl, rfl, rfl, rfl, rfl, rfl, trivial⟩ ?_
    refine xp_loop rfl (fun m Le S' => ∃ k : Nat, i ≤ k ∧ k ≤ K ∧ m = K - k ∧ SubE [(9, .int .i64 (k : Int)), (8, .int .i64 (i : Int)), (7, .int .i64 0), (6, ptrTo B6 0), (3, .int .i64 0), (2, ptrTo B2 0), (1, ptrTo B1 0)] Le ∧ HoldG S [S] S' ([(B6, .cells [.string nm, .slice aw C.length C.length] 24 false true []), (B2, .cells [.string ⟨#[]⟩, .slice none 0 0] 24 false true []), (B1, .cells [.string nm, .slice a C.length cap] 24 false true [])] ++ ((b, .cells (D.map Sg.cells).flatten 63 true true ks) :: deadL 63 ks)) []) ?_ (m := K - i) ⟨i, by omega, by omega, rfl, ⟨rfl, rfl, rfl, rfl, rfl, rfl, rfl, trivial⟩, hl⟩
    clear hl; rintro m Le S' ⟨k, hik, hkK, rfl, hsub, hl⟩; refine xe_sub hsub ?_
    have hDk := hag k hik (by omega)
    refine xp_seq rfl ?_; refine xs (by kernel_rfl) ?_; refine rr rfl (rd_fieldAddr rfl rfl (fa Tryz.underlying24 az24 rfl)) ?_; refine rr rfl (rl hl 0 rfl rfl (by kernel_rfl) rfl rfl) ?_; refine rm rfl ?_; refine rr rfl (rd_indexAddr rfl rfl rfl (indexAddr_sl (z := 17) haw Tryz.underlying22 (by kernel_rfl) ⟨by omega, by omega⟩)) ?_; refine rr rfl (rd_fieldAddr rfl rfl (fa Tryz.underlying63 az63 rfl)) ?_; refine rr rfl (rd_load rfl rfl (load1_row (by kernel_rfl) (own_row hl 3 rfl) (tk_nth (flat_at (by omega) (by omega)) rfl))) ?_; refine rr rfl (rd_un rfl rfl rfl) ?_; refine re_end rfl ?_
    refine xp_cond rfl rfl (fun h50 => ?_) (fun h50 => ?_)
    ·
     refine xp_skip rfl ?_; refine xp_block rfl ?_; refine xg (by kernel_rfl) ?_; refine rm rfl ?_; refine rr rfl (rd_bin rfl rfl rfl (i6 (by omega))) ?_; refine rm rfl ?_; refine re_end rfl ?_
     rw [hDk] at h50
     have hne : k ≠ K := by rintro rfl; rw [hL.last] at h50; cases h50
     exact ⟨K - (k + 1), by omega, k + 1, by omega, by omega, rfl, ⟨rfl, rfl, rfl, rfl, rfl, rfl, rfl, trivial⟩, hl⟩
    ·
     refine xp_exit rfl ?_
     rw [hDk] at h50
     obtain rfl : k = K := by
      rcases Nat.lt_or_ge k K with h | h
      ·rw [hL.no k hik h] at h50; cases h50
      ·omega
     have hW := segm_len hKl hiK
     obtain ⟨a2, cap2, hsl, hvs⟩ := (hv.move (hl.since 0 rfl)).mid hiK hKl rfl rfl
     refine xs (by kernel_rfl) ?_; refine rm rfl ?_; refine re_end rfl ?_; refine xs (by kernel_rfl) ?_; refine rr rfl (rd_fieldAddr rfl rfl (fa Tryz.underlying24 az24 rfl)) ?_; refine rr rfl (rl hl 2 rfl rfl (by kernel_rfl) rfl rfl) ?_; iterate 2 refine rm rfl ?_
     refine rr rfl (rd_bin rfl rfl rfl (i6 (by omega))) ?_; refine rr rfl (rd_slice rfl rfl rfl rfl rfl hsl) ?_
     refine re_callL hl rfl rfl rfl rfl rfl rfl rfl (spec55 a2 cap2 (segm C i k) (by omega) hvs) ?_; rintro v S1 hk1 hg hl; obtain ⟨a3, rfl⟩ : ∃ a3, v = .slice a3 (segm C i k).length (segm C i k).length := Grow.is hg; have hl1 := hl
     refine re_callL hl rfl rfl rfl rfl rfl rfl rfl (spec56 a3 _ (segm C i k) (by omega) (GrowS.signs hg)) ?_; rintro v S2 hk2 ⟨w, rfl, hgw⟩ hl
     iterate 5 refine rm rfl ?_
     refine re_end rfl ?_; refine xp_seq rfl ?_; refine xs (by kernel_rfl) ?_; refine rm rfl ?_; refine rr rfl (rd_bin rfl rfl rfl rfl) ?_; refine re_end rfl ?_; refine xp_cond rfl rfl (fun h65 => ?_) (fun h65 => ?_)
     ·
      refine xp_exit rfl ?_; refine xp_seq rfl ?_; refine xs (by kernel_rfl) ?_; refine rm rfl ?_; refine rr rfl (rd_bin rfl rfl rfl rfl) ?_; refine re_end rfl ?_; refine xp_cond rfl rfl (fun h98 => ?_) (fun h98 => ?_)
      ·
       refine xs (by kernel_rfl) ?_; refine rr rfl (rd_build rfl rfl (v := aggL [.string ⟨#[]⟩, .slice none 0 0]) (by rfl)) ?_; refine rm rfl ?_; refine re_storeL hl 1 rfl rfl rfl rfl rfl rfl rfl (by kernel_rfl) rfl ?_; intro S1 hl; refine rm rfl ?_; refine re_end rfl ?_; refine xp_ret rfl ?_
       refine thn_ret (scp_ret (done_ret (ress_cell rfl (loadN_of (z := 2) (by kernel_rfl) (by kernel_rfl) (hl.get 1 rfl) rfl) (ress_tmp rfl rfl)) ⟨hl.keep, exp_res (by rw [hex, ← hpr, hps, expL_err (p := (i, k)) h65]) rfl (signs_none _)⟩))
      ·
       refine xp_skip rfl ?_; refine xs (by kernel_rfl) ?_; refine rr rfl (rd_load rfl rfl (loadN_of (z := 2) (by kernel_rfl) (by kernel_rfl) (hl.get 0 rfl) rfl)) ?_; refine re_storeL hl 1 rfl rfl rfl rfl rfl rfl rfl (by kernel_rfl) rfl ?_; intro S1 hl; refine rm rfl ?_; refine re_end rfl ?_; refine xp_ret rfl ?_
       refine scp_ret (done_ret (ress_cell rfl (loadN_of (z := 2) (by kernel_rfl) (by kernel_rfl) (hl.get 1 rfl) rfl) (ress_tmp rfl rfl)) ⟨hl.keep, absurd (h65.symm.trans h98) (by decide)⟩)
     ·
      have h0 : (ligCheck (segm C i k)).1 = 0 := by simpa using h65
      rw [h65] at hgw
      obtain ⟨vb, vkin, ew, hlw⟩ := GrowI.own hk2 hgw (by show 0 < (ligValues (segm C i k)).length; rw [ligValues_len]; omega)
      have ew : w = .slice (some ⟨vb, 0, none⟩) (segm C i k).length (segm C i k).length := by rw [← ligValues_len (segm C i k)]; exact ew
      subst ew
      have hl := (hl1.join hlw).perm (l' := [(B6, .cells [.string nm, .slice aw C.length C.length] 24 false true []), (B2, .cells [.string ⟨#[]⟩, .slice none 0 0] 24 false true []), (B1, .cells [.string nm, .slice a C.length cap] 24 false true []), (vb, .cells ((ligValues (segm C i k)).map iv) 3 true true vkin)] ++ ((b, .cells (D.map Sg.cells).flatten 63 true true ks) :: deadL 63 ks)) (by rw [List.append_assoc]; exact List.Perm.append_left _ List.perm_append_comm)
      rw [h0]
      refine xp_skip rfl ?_; refine xp_seq rfl ?_; refine xs (by kernel_rfl) ?_; refine rm rfl ?_; refine rr rfl (rd_len rfl rfl (len_slice Tryz.underlying31)) ?_; refine rm rfl ?_; refine re_end rfl ?_; refine xp_block rfl ?_
      -- LOOP
      refine xe_sub (L' := [(68, .int .i64 0), (67, .int .i64 (segm C i k).length), (66, .slice (some ⟨vb, 0, none⟩) (segm C i k).length (segm C i k).length), (7, .int .i64 0), (9, .int .i64 (k : Int)), (8, .int .i64 (i : Int)), (6, ptrTo B6 0), (3, .int .i64 0), (2, ptrTo B2 0), (1, ptrTo B1 0)]) ⟨rfl, rfl, rfl, rfl, rfl, rfl, rfl, rfl, rfl, rfl, trivial⟩ ?_
      refine xp_loop rfl (fun m Le S' => ∃ (j : Nat) (E : List Sg) (ks : List Nat), j ≤ (segm C i k).length ∧ m = (segm C i k).length - j ∧ E.length = C.length ∧ (∀ q : Nat, i + j ≤ q → q < C.length → sgI E (q : Nat) = sgI C (q : Nat)) ∧ putN C (segm C i k) i ((segm C i k).length - j) j E = putN C (segm C i k) i (segm C i k).length 0 D ∧ SubE [(68, .int .i64 (j : Int)), (67, .int .i64 (segm C i k).length), (66, .slice (some ⟨vb, 0, none⟩) (segm C i k).length (segm C i k).length), (7, .int .i64 0), (9, .int .i64 (k : Int)), (8, .int .i64 (i : Int)), (6, ptrTo B6 0), (3, .int .i64 0), (2, ptrTo B2 0), (1, ptrTo B1 0)] Le ∧ HoldG S [S] S' ([(B6, .cells [.string nm, .slice aw C.length C.length] 24 false true []), (B2, .cells [.string ⟨#[]⟩, .slice none 0 0] 24 false true []), (B1, .cells [.string nm, .slice a C.length cap] 24 false true []), (vb, .cells ((ligValues (segm C i k)).map iv) 3 true true vkin)] ++ ((b, .cells (E.map Sg.cells).flatten 63 true true ks) :: deadL 63 ks)) []) ?_ (m := (segm C i k).length) ⟨0, D, ks, by omega, by omega, hD, fun q h1 h2 => hag q (by omega) h2, by rw [Nat.sub_zero], ⟨rfl, rfl, rfl, rfl, rfl, rfl, rfl, rfl, rfl, rfl, trivial⟩, hl⟩
      clear hl; rintro m Le S' ⟨j, E, ks2, hj, rfl, hE, hae, hput, hsub, hl⟩; refine xe_sub hsub ?_
      refine xs (by kernel_rfl) ?_; refine rr rfl (rd_bin rfl rfl rfl rfl) ?_; refine re_end rfl ?_; refine xp_seq rfl ?_; refine xp_cond rfl rfl (fun h69 => ?_) (fun h69 => ?_)
      ·
       have hjl : j < (segm C i k).length := by have := of_decide_eq_true h69; omega
       refine xp_skip rfl ?_; refine xp_seq rfl ?_; refine xp_block rfl ?_; refine xs (by kernel_rfl) ?_; refine rm rfl ?_; refine rr rfl (rd_indexAddr rfl rfl rfl (indexAddr_slice (z := 1) Tryz.underlying31 (by kernel_rfl) ⟨by omega, by omega⟩)) ?_; refine rr rfl (rd_load rfl rfl (load1_of (by kernel_rfl) (hl.get 3 rfl) (vals_at hjl))) ?_; iterate 2 refine rm rfl ?_
       refine re_end rfl ?_; refine xs (by kernel_rfl) ?_; refine rr rfl (rd_fieldAddr rfl rfl (fa Tryz.underlying24 az24 rfl)) ?_; refine rr rfl (rl hl 2 rfl rfl (by kernel_rfl) rfl rfl) ?_; iterate 2 refine rm rfl ?_
       refine rr rfl (rd_bin rfl rfl rfl (i6 (by omega))) ?_; refine rr rfl (rd_indexAddr rfl rfl rfl (indexAddr_sl (z := 17) ha Tryz.underlying22 (by kernel_rfl) ⟨by omega, by omega⟩)) ?_; refine rr rfl (rd_load rfl rfl (loadN_row (z := 17) (by kernel_rfl) (by kernel_rfl) (row_move (hl.since 0 rfl) hrow) (hall ((i : Int) + (j : Int)) (by omega) (by omega)))) ?_
       refine re_allocL hl rfl rfl rfl rfl rfl (z := [.int .i64 0, .int .i64 0, .int .i64 0, .int .i64 0, .bool false, .int .i64 0, .bool false, .bool false, .int .i64 0, .int .i64 0, .int .i64 0, .int .i64 0, .bool false, .int .i64 0, .int .i64 0, .int .i64 0, .int .i64 0]) (by kernel_rfl) ?_; intro B13 S13 hl; refine re_storeL hl 0 rfl rfl rfl rfl rfl rfl rfl (by kernel_rfl) rfl ?_; intro S1 hl; refine re_end rfl ?_; refine xg (by kernel_rfl) ?_; refine rr rfl (rd_fieldAddr rfl rfl (fa Tryz.underlying24 az24 rfl)) ?_; refine rr rfl (rl hl 1 rfl rfl (by kernel_rfl) rfl rfl) ?_
       iterate 2 refine rm rfl ?_
       refine rr rfl (rd_bin rfl rfl rfl (i6 (by omega))) ?_; refine rm rfl ?_; refine rr rfl (rd_fieldAddr rfl rfl (fa Tryz.underlying63 az63 rfl)) ?_; refine rr rfl (rl hl 0 rfl rfl (by kernel_rfl) rfl rfl) ?_; refine rr rfl (rd_fieldAddr rfl rfl (fa Tryz.underlying63 az63 rfl)) ?_; refine rr rfl (rl hl 0 rfl rfl (by kernel_rfl) rfl rfl) ?_; refine rr rfl (rd_fieldAddr rfl rfl (fa Tryz.underlying63 az63 rfl)) ?_; refine rr rfl (rl hl 0 rfl rfl (by kernel_rfl) rfl rfl) ?_; refine rr rfl (rd_build rfl rfl (v := (noteV (sgI C ((i : Int) + (j : Int))) (ligValue (segm C i k) (j : Nat))).v) (by rfl)) ?_
       refine rr rfl (rd_indexAddr rfl rfl rfl (indexAddr_sl (z := 17) haw Tryz.underlying22 (by kernel_rfl) ⟨by omega, by omega⟩)) ?_
       refine re_storeT ((B13, .cells (sgI C ((i : Int) + (j : Int))).cells 63 false true []) :: [(B6, .cells [.string nm, .slice aw C.length C.length] 24 false true []), (B2, .cells [.string ⟨#[]⟩, .slice none 0 0] 24 false true []), (B1, .cells [.string nm, .slice a C.length cap] 24 false true []), (vb, .cells ((ligValues (segm C i k)).map iv) 3 true true vkin)]) hl rfl rfl rfl rfl rfl rfl (by kernel_rfl) (set_sign (noteV (sgI C ((i : Int) + (j : Int))) (ligValue (segm C i k) (j : Nat))) (i := i + j) (by omega) (by omega)) ?_; intro S1 hl; refine re_end rfl ?_; refine xg (by kernel_rfl) ?_
       refine rr rfl (rd_bin rfl rfl rfl (i6 (by omega))) ?_; refine rm rfl ?_; refine re_end rfl ?_
       refine ⟨(segm C i k).length - (j + 1), by omega, j + 1, E.set (i + j) (noteV (sgI C ((i : Int) + (j : Int))) (ligValue (segm C i k) (j : Nat))), [], by omega, rfl, by rw [List.length_set]; exact hE, fun q h1 h2 => (sgI_set_ne (by omega)).trans (hae q (by omega) h2), ?_, ⟨rfl, rfl, rfl, rfl, rfl, rfl, rfl, rfl, rfl, rfl, trivial⟩, hl.tail⟩
       rw [← hput, show (segm C i k).length - j = ((segm C i k).length - (j + 1)) + 1 by omega]; rfl
      ·
       refine xp_exit rfl ?_; refine xg (by kernel_rfl) ?_; refine rm rfl ?_; refine rr rfl (rd_bin rfl rfl rfl (i6 (by omega))) ?_; refine rm rfl ?_; refine re_end rfl ?_
       have hj2 : j = (segm C i k).length := by have := of_decide_eq_false h69; omega
       rw [hj2, Nat.sub_self] at hput
       have hput : E = putN C (segm C i k) i (segm C i k).length 0 D := hput
       refine ⟨C.length - (k + 1), by omega, k + 1, n, E, _, by omega, rfl, by omega, hE, fun q h1 h2 => hae q (by omega) h2, ?_, .inr ⟨b, ks2, _, haw, rfl, fun _ => rfl⟩, ⟨rfl, rfl, rfl, rfl, rfl, rfl, trivial⟩, hl.sub (List.Sublist.append_left (l₁ := (b, .cells (E.map Sg.cells).flatten 63 true true ks2) :: deadL 63 ks2) (List.sublist_cons_self (vb, .cells ((ligValues (segm C i k)).map iv) 3 true true vkin) _) [(B6, .cells [.string nm, .slice aw C.length C.length] 24 false true []), (B2, .cells [.string ⟨#[]⟩, .slice none 0 0] 24 false true []), (B1, .cells [.string nm, .slice a C.length cap] 24 false true [])])⟩
       rw [← hpr, hps, expL_go (p := (i, k)) h65, hput, hW]
  ·
   refine xp_exit rfl ?_; refine xp_seq rfl ?_; refine xs (by kernel_rfl) ?_; refine rm rfl ?_; refine rr rfl (rd_bin rfl rfl rfl rfl) ?_; refine re_end rfl ?_; refine xp_cond rfl rfl (fun h98 => ?_) (fun h98 => ?_)
   ·
    refine xs (by kernel_rfl) ?_; refine rr rfl (rd_build rfl rfl (v := aggL [.string ⟨#[]⟩, .slice none 0 0]) (by rfl)) ?_; refine rm rfl ?_; refine re_storeL hl 1 rfl rfl rfl rfl rfl rfl rfl (by kernel_rfl) rfl ?_; intro S1 hl; refine rm rfl ?_; refine re_end rfl ?_; refine xp_ret rfl ?_
    refine thn_ret (scp_ret (done_ret (ress_cell rfl (loadN_of (z := 2) (by kernel_rfl) (by kernel_rfl) (hl.get 1 rfl) rfl) (ress_tmp rfl rfl)) ⟨hl.keep, absurd h98 (by decide)⟩))
   ·
    refine xp_skip rfl ?_; refine xs (by kernel_rfl) ?_; refine rr rfl (rd_load rfl rfl (loadN_of (z := 2) (by kernel_rfl) (by kernel_rfl) (hl.get 0 rfl) rfl)) ?_; refine re_storeL hl 1 rfl rfl rfl rfl rfl rfl rfl (by kernel_rfl) rfl ?_; intro S1 hl; refine rm rfl ?_; refine re_end rfl ?_; refine xp_ret rfl ?_
    refine scp_ret (done_ret (ress_cell rfl (loadN_of (z := 2) (by kernel_rfl) (by kernel_rfl) (hl.get 1 rfl) rfl) (ress_tmp rfl rfl)) ⟨hl.keep, exp_res (X := D) (by rw [hex, ← hpr, prsN_end (by have := of_decide_eq_false h33; omega)]; rfl) hD.symm (by rw [hD]; have := hT.signs (r := [(B6, .cells [.string nm, .slice aw C.length C.length] 24 false true []), (B2, .cells [.string nm, .slice aw C.length C.length] 24 false true []), (B1, .cells [.string nm, .slice a C.length cap] 24 false true [])]) hl; rwa [hD] at this)⟩)
end Go.Proofs.YtkmhecihkckcmaaGreatDoor
namespace Go.Proofs.YtkmhecihkckcmaaGreatDoor
open Go.Cm Go
set_option maxRecDepth 100000
variable {S : St}
theorem RowT.tlp {aw : Option Addr} {C : List Sg} {tl : List (Nat × Blk)} (h : RowT 63 aw C.length (C.map Sg.cells).flatten tl) : TLp aw C tl := by
 rcases h with ⟨B0, h1, h2, h3, h4⟩ | ⟨B, B0, h1, h2, h3⟩
 ·exact .inr ⟨B0, [], [], h3, by rw [h4, h2], fun _ => rfl⟩
 ·exact .inr ⟨B, [B0], _, h2, h3, fun _ => rfl⟩
theorem fst_at {C : List Sg} (hC : LigOk C) {i : Nat} {p : Nat × Nat} (h : nth (prs C) i = some p) : nth ((firstsN C C.length).map iv) (0 + ((i : Nat) : Int).toNat * 1) = some (.int .i64 (p.1 : Int)) := by
 rw [Nat.zero_add, Nat.mul_one, prs_firsts hC, List.map_map]
 exact nth_map _ h
theorem snd_at {C : List Sg} (hC : LigOk C) {i : Nat} {p : Nat × Nat} (h : nth (prs C) i = some p) : nth ((lastsN C C.length).map iv) (0 + ((i : Nat) : Int).toNat * 1) = some (.int .i64 (p.2 : Int)) := by
 rw [Nat.zero_add, Nat.mul_one, prs_lasts hC, List.map_map]
 exact nth_map _ h
theorem drop_nthP : ∀ {l : List (Nat × Nat)} {i : Nat} {x : Nat × Nat}, nth l i = some x → l.drop i = x :: l.drop (i + 1)
 | [], _, _, h => by cases h
 | y :: l, 0, x, h => by cases h; rfl
 | y :: l, i + 1, x, h => by simpa using drop_nthP (l := l) (i := i) h
def FLp (a1 a2 : Option Addr) (C : List Sg) (fl : List (Nat × Blk)) : Prop := 0 < (prs C).length → ∃ b1 k1 b2 k2, a1 = some ⟨b1, 0, none⟩ ∧ a2 = some ⟨b2, 0, none⟩ ∧ fl = [(b1, .cells ((firstsN C C.length).map iv) 3 true true k1), (b2, .cells ((lastsN C C.length).map iv) 3 true true k2)]
theorem lig_rows {S S' : St} {w1 w2 : Value} {C : List Sg} (hk : Keep S S') (hC : LigOk C) (h1 : GrowI S S' w1 (firstsN C C.length)) (h2 : GrowI S S' w2 (lastsN C C.length)) (hA : Apart [gLi w1 (firstsN C C.length), gLi w2 (lastsN C C.length)]) :
  ∃ a1 a2 fl, w1 = .slice a1 (prs C).length (prs C).length ∧ w2 = .slice a2 (prs C).length (prs C).length ∧ FLp a1 a2 C fl ∧ HoldG S [S] S' fl [] := by
 have e1 : (firstsN C C.length).length = (prs C).length := by rw [prs_firsts hC, List.length_map]
 have e2 : (lastsN C C.length).length = (prs C).length := by rw [prs_lasts hC, List.length_map]
 rcases Nat.eq_zero_or_pos (prs C).length with h0 | h0
 ·obtain ⟨a1, f1⟩ : ∃ a1, w1 = .slice a1 (firstsN C C.length).length (firstsN C C.length).length := Grow.is h1
  obtain ⟨a2, f2⟩ : ∃ a2, w2 = .slice a2 (lastsN C C.length).length (lastsN C C.length).length := Grow.is h2
  rw [e1] at f1
  rw [e2] at f2
  exact ⟨a1, a2, [], f1, f2, fun h => by omega, (Hold.start S).call hk⟩
 ·rcases h1 with ⟨_, h, _⟩ | ⟨b1, k1, f1, f2, f3, f4, _⟩
  ·have : (prs C).length = 0 := by rw [← e1, ← List.length_map (f := iv)]; exact congrArg List.length h
   omega
  ·rcases h2 with ⟨_, h, _⟩ | ⟨b2, k2, g1, g2, g3, g4, _⟩
   ·have : (prs C).length = 0 := by rw [← e2, ← List.length_map (f := iv)]; exact congrArg List.length h
    omega
   ·have f1 : w1 = .slice (some ⟨b1, 0, none⟩) (firstsN C C.length).length (firstsN C C.length).length := f1
    have g1 : w2 = .slice (some ⟨b2, 0, none⟩) (lastsN C C.length).length (lastsN C C.length).length := g1
    have hne : b1 ≠ b2 := by
     intro e
     subst e
     subst f1
     subst g1
     rcases hA 0 1 _ _ (by omega) rfl rfl with h | h
     ·cases h
     ·exact h rfl
    rw [e1] at f1
    rw [e2] at g1
    refine ⟨_, _, _, f1, g1, fun _ => ⟨b1, k1, b2, k2, rfl, rfl, rfl⟩, ⟨hk, ?_, fun b x hb => ?_, fun T hT => by rw [List.mem_singleton.1 hT]; exact hk.rk, fun g hg => (List.not_mem_nil hg).elim⟩⟩
    ·exact List.nodup_cons.2 ⟨fun h => hne (List.mem_singleton.1 h), List.nodup_cons.2 ⟨List.not_mem_nil, List.nodup_nil⟩⟩
    ·rcases List.mem_cons.1 hb with e | hb
     ·cases e; exact ⟨f4, f2, f3⟩
     ·cases List.mem_singleton.1 hb; exact ⟨g4, g2, g3⟩
noncomputable def c49 : Code := Tryz.f49.body.getD .skip
theorem spec49 (nm : ByteArray) (a : Option Addr) (cap : Nat) (C : List Sg) (hnm : nm.data.toList.length ≤ 9223372036854775807) (hn : C.length ≤ 1000) (hF : Fresh S) (hv : Signs S (.slice a C.length cap) C) : CC Tryz.prog KK 49 [aggL [.string nm, .slice a C.length cap]] S (fun v S' => Keep S S' ∧ ExpR nm.data.toList C v S') := by
 refine cc_enter (c := c49) (n := 96) Tryz.func49 rfl rfl rfl (by kernel_rfl) rfl rfl ?_
 have hl := Hold.start S
 refine xs (by kernel_rfl) ?_; refine re_boxL hl rfl rfl rfl rfl rfl rfl ?_; intro B1 S1 hl; refine re_allocL hl rfl rfl rfl rfl rfl (z := [.string ⟨#[]⟩, .slice none 0 0]) (by kernel_rfl) ?_; intro B2 S2 hl; refine rm rfl ?_; refine re_end rfl ?_; refine xs (by kernel_rfl) ?_; refine rr rfl (rd_load rfl rfl (loadN_of (z := 2) (by kernel_rfl) (by kernel_rfl) (hl.get 1 rfl) rfl)) ?_
 refine re_callL hl rfl rfl rfl rfl rfl rfl rfl (spec58 nm a cap C hnm hn (hv.move (hl.since 0 rfl))) ?_; have hl0 := hl; rintro v S1 hk1 ⟨w1, w2, rfl, hws⟩ hl
 iterate 7 refine rm rfl ?_
 refine re_end rfl ?_; refine xp_seq rfl ?_; refine xs (by kernel_rfl) ?_; refine rm rfl ?_; refine rr rfl (rd_bin rfl rfl rfl rfl) ?_; refine re_end rfl ?_; refine xp_cond rfl rfl (fun h20 => ?_) (fun h20 => ?_)
 ·
  refine xs (by kernel_rfl) ?_; refine rr rfl (rd_build rfl rfl (v := aggL [.string ⟨#[]⟩, .slice none 0 0]) (by rfl)) ?_; refine rm rfl ?_; refine re_storeL hl 0 rfl rfl rfl rfl rfl rfl rfl (by kernel_rfl) rfl ?_; intro S1 hl; refine rm rfl ?_; refine re_end rfl ?_; refine xp_ret rfl ?_
  refine thn_ret (done_ret (ress_cell rfl (loadN_of (z := 2) (by kernel_rfl) (by kernel_rfl) (hl.get 0 rfl) rfl) (ress_tmp rfl rfl)) ⟨hl.keep, exp_res (expE_err h20) rfl (signs_none _)⟩)
 ·
  refine xp_skip rfl ?_; refine xp_seq rfl ?_
  have h0 : (partE nm.data.toList C).1 = 0 := by simpa using h20
  have hC : LigOk C := ligOk h0
  have hex := expE_ok h20
  obtain ⟨hg1, hg2, hA⟩ := hws h0
  obtain ⟨a1, a2, fl, rfl, rfl, hfl, hlf⟩ := lig_rows hk1 hC hg1 hg2 hA
  have hl := hl0.join hlf
  refine xp_draw (idx := [0, 1, 2, 3, 4, 7, 5, 6, 8]) rfl (by kernel_rfl) (by kernel_rfl) ?_; refine pr rfl (rd_fieldAddr rfl rfl (fa Tryz.underlying24 az24 rfl)) ?_; refine pk rfl (rl hl 1 rfl rfl (by kernel_rfl) rfl rfl) ?_; refine rp_buildSliceB hF hl (c := []) rfl rfl rfl rfl rfl Tryz.underlying22 rfl (by kernel_rfl) ?_; intro B25 S1 hl; refine pr rfl (rd_fieldAddr rfl rfl (fa Tryz.underlying24 az24 rfl)) ?_; refine pk rfl (rl hl 2 rfl rfl (by kernel_rfl) rfl rfl) ?_; refine rp_allocL hF hl rfl rfl rfl rfl rfl (z := [.string ⟨#[]⟩, .slice none 0 0]) (by kernel_rfl) ?_; intro B7 S7 hl
  have hl := hl.perm (List.Perm.swap _ _ _)
  have hv' := hv.move (hl.since 0 rfl)
  refine rp_appendS hl rfl rfl rfl rfl rfl rfl rfl Tryz.underlying22 Tryz.underlying22 rfl rfl (by kernel_rfl) hv'.cells (flat17 C) (flatCell C) (by kernel_rfl) (by unfold maxNeed; omega) ?_; intro aw tl S1 hT hl
  have hT := RowT.tlp hT
  have hl := hl.perm (l' := [(B7, .cells [.string ⟨#[]⟩, .slice none 0 0] 24 false true []), (B2, .cells [.string ⟨#[]⟩, .slice none 0 0] 24 false true []), (B1, .cells [.string nm, .slice a C.length cap] 24 false true [])] ++ (fl ++ tl)) ((List.perm_append_comm (l₁ := tl) (l₂ := [(B7, .cells [.string ⟨#[]⟩, .slice none 0 0] 24 false true []), (B2, .cells [.string ⟨#[]⟩, .slice none 0 0] 24 false true []), (B1, .cells [.string nm, .slice a C.length cap] 24 false true [])] ++ fl)).trans (List.Perm.of_eq (List.append_assoc [(B7, .cells [.string ⟨#[]⟩, .slice none 0 0] 24 false true []), (B2, .cells [.string ⟨#[]⟩, .slice none 0 0] 24 false true []), (B1, .cells [.string nm, .slice a C.length cap] 24 false true [])] fl tl)))
  refine ⟨⟨stays_new rfl (hl.get 0 rfl) (sameL_atoms _ _ (by decide) (atoms_cons (atom_string _) (atoms_cons (atom_slice _ _ _) atoms_nil))), stays_no (by kernel_rfl), stays_no (by kernel_rfl), stays_load rfl rfl (load1_of (by kernel_rfl) (hl.get 2 rfl) rfl) (same_atom (atom_string _)) rfl, trivial⟩, ?_⟩
  refine pr rfl (rd_build rfl rfl (v := aggL [.string nm, .slice aw C.length C.length]) (by rfl)) ?_
  refine rp_storeL hl 0 rfl rfl rfl rfl rfl rfl rfl (by kernel_rfl) rfl ?_; intro S1 hl; refine ⟨stays_all (by kernel_rfl), ?_⟩
  refine rp_end rfl ?_; refine xp_seq rfl ?_; refine xs (by kernel_rfl) ?_; refine rm rfl ?_; refine re_end rfl ?_; refine xp_block rfl ?_
  -- LOOP
  refine xe_sub (L' := [(8, .int .i64 0), (7, ptrTo B7 0), (5, .slice a2 (prs C).length (prs C).length), (4, .slice a1 (prs C).length (prs C).length), (3, .int .i64 0), (2, ptrTo B2 0), (1, ptrTo B1 0)]) ⟨rfl, rfl, rfl, rfl, rfl, rfl, rfl, trivial⟩ ?_
  refine xp_loop rfl (fun m Le S' => ∃ (i : Nat) (D : List Sg) (tl : List (Nat × Blk)), i ≤ (prs C).length ∧ m = (prs C).length - i ∧ D.length = C.length ∧ expL C ((prs C).drop i) D = expL C (prs C) C ∧ TLp aw D tl ∧ SubE [(8, .int .i64 (i : Int)), (7, ptrTo B7 0), (5, .slice a2 (prs C).length (prs C).length), (4, .slice a1 (prs C).length (prs C).length), (3, .int .i64 0), (2, ptrTo B2 0), (1, ptrTo B1 0)] Le ∧ HoldG S [S] S' ([(B7, .cells [.string nm, .slice aw C.length C.length] 24 false true []), (B2, .cells [.string ⟨#[]⟩, .slice none 0 0] 24 false true []), (B1, .cells [.string nm, .slice a C.length cap] 24 false true [])] ++ (fl ++ tl)) []) ?_ (m := (prs C).length) ⟨0, C, tl, by omega, by omega, rfl, rfl, hT, ⟨rfl, rfl, rfl, rfl, rfl, rfl, rfl, trivial⟩, hl⟩
  clear hl hT hl0 hlf; rintro m Le S' ⟨i, D, tl, hi, rfl, hD, hpr, hT, hsub, hl⟩; refine xe_sub hsub ?_
  refine xp_seq rfl ?_; refine xs (by kernel_rfl) ?_; iterate 2 refine rm rfl ?_
  refine rr rfl (rd_len rfl rfl (len_slice Tryz.underlying31)) ?_; refine rr rfl (rd_bin rfl rfl rfl rfl) ?_; refine re_end rfl ?_; refine xp_cond rfl rfl (fun h33 => ?_) (fun h33 => ?_)
  ·
   have hlt : i < (prs C).length := by have := of_decide_eq_true h33; omega
   obtain ⟨p, hp⟩ := nth_some hlt
   obtain ⟨hpl, hpC⟩ := prs_mem hC (nth_mem hp)
   have hpn := prs_len hC
   rw [drop_nthP hp] at hpr
   obtain ⟨b1, k1, b2, k2, ha1, ha2, rfl⟩ := hfl (by omega)
   obtain ⟨b, ks, haw, rfl⟩ := hT.pos (by omega)
   obtain ⟨b0, o, cs, ha, hrow, hall⟩ := hv.row (by omega)
   have hW := segm_len hpC hpl
   refine xp_skip rfl ?_; refine xp_seq rfl ?_; refine xp_block rfl ?_; refine xp_seq rfl ?_; refine xp_draw (idx := [0, 1, 2, 3, 4, 5, 6, 7, 8, 9, 10, 11, 12, 13, 14, 15, 16, 17, 18, 19]) rfl (by kernel_rfl) (by kernel_rfl) ?_; refine rp_buildSliceB hF hl (c := []) rfl rfl rfl rfl rfl Tryz.underlying22 rfl (by kernel_rfl) ?_; intro B37 S1 hl; refine pr rfl (rd_fieldAddr rfl rfl (fa Tryz.underlying24 az24 rfl)) ?_; refine pk rfl (rl hl 3 rfl rfl (by kernel_rfl) rfl rfl) ?_; iterate 2 refine pm rfl ?_
   refine pr rfl (rd_indexAddr rfl rfl rfl (indexAddr_sl (z := 1) ha1 Tryz.underlying31 (by kernel_rfl) ⟨by omega, by omega⟩)) ?_; refine pk rfl (rd_load rfl rfl (load1_of (by kernel_rfl) (hl.get 4 rfl) (fst_at hC hp))) ?_; iterate 2 refine pm rfl ?_
   refine pr rfl (rd_indexAddr rfl rfl rfl (indexAddr_sl (z := 1) ha2 Tryz.underlying31 (by kernel_rfl) ⟨by omega, by omega⟩)) ?_; refine pk rfl (rd_load rfl rfl (load1_of (by kernel_rfl) (hl.get 5 rfl) (snd_at hC hp))) ?_; refine pr rfl (rd_bin rfl rfl rfl (i6 (by omega))) ?_
   obtain ⟨a3, cap3, hsl, hvs⟩ := (hv.move (hl.since 0 rfl)).mid hpl hpC rfl rfl
   refine pk rfl (rd_slice rfl rfl rfl rfl rfl hsl) ?_
   refine rp_appendS hl rfl rfl rfl rfl rfl rfl rfl Tryz.underlying22 Tryz.underlying22 rfl rfl (by kernel_rfl) hvs.cells (flat17 _) (flatCell _) (by kernel_rfl) (by unfold maxNeed; omega) ?_; intro a4 tl4 S1 hT4 hl; refine ⟨stays_all (by kernel_rfl), ?_⟩
   refine rp_callL hl rfl rfl rfl rfl rfl rfl rfl (spec59 a4 _ (segm C p.1 p.2) (by omega) (hl.keep.3 hF) (TLp.signs (r := []) (RowT.tlp hT4) (hl.sub (List.sublist_append_left tl4 _)))) ?_; rintro v S2 hk2 ⟨w, rfl, hgw⟩ hl2; refine ⟨stays_all (by kernel_rfl), ?_⟩; have hl1 : HoldG S [S] S1 ([(B7, .cells [.string nm, .slice aw C.length C.length] 24 false true []), (B2, .cells [.string ⟨#[]⟩, .slice none 0 0] 24 false true []), (B1, .cells [.string nm, .slice a C.length cap] 24 false true []), (b1, .cells ((firstsN C C.length).map iv) 3 true true k1), (b2, .cells ((lastsN C C.length).map iv) 3 true true k2)] ++ ((b, .cells (D.map Sg.cells).flatten 63 true true ks) :: deadL 63 ks)) [] := hl.sub (List.sublist_append_right tl4 _); have hl : HoldG S [S] S2 ([(B7, .cells [.string nm, .slice aw C.length C.length] 24 false true []), (B2, .cells [.string ⟨#[]⟩, .slice none 0 0] 24 false true []), (B1, .cells [.string nm, .slice a C.length cap] 24 false true []), (b1, .cells ((firstsN C C.length).map iv) 3 true true k1), (b2, .cells ((lastsN C C.length).map iv) 3 true true k2)] ++ ((b, .cells (D.map Sg.cells).flatten 63 true true ks) :: deadL 63 ks)) [] := hl2.sub (List.sublist_append_right tl4 _)
   iterate 5 refine pm rfl ?_
   refine rp_end rfl ?_; refine xp_seq rfl ?_; refine xs (by kernel_rfl) ?_; refine rm rfl ?_; refine rr rfl (rd_bin rfl rfl rfl rfl) ?_; refine re_end rfl ?_; refine xp_cond rfl rfl (fun h55 => ?_) (fun h55 => ?_)
   ·
    refine xs (by kernel_rfl) ?_; refine rr rfl (rd_build rfl rfl (v := aggL [.string ⟨#[]⟩, .slice none 0 0]) (by rfl)) ?_; refine rm rfl ?_; refine re_storeL hl 1 rfl rfl rfl rfl rfl rfl rfl (by kernel_rfl) rfl ?_; intro S1 hl; refine rm rfl ?_; refine re_end rfl ?_; refine xp_ret rfl ?_
    refine thn_ret (blk_ret (thn_ret (round_ret (blk_ret (thn_ret (done_ret (ress_cell rfl (loadN_of (z := 2) (by kernel_rfl) (by kernel_rfl) (hl.get 1 rfl) rfl) (ress_tmp rfl rfl)) ⟨hl.keep, exp_res (by rw [hex, ← hpr, expL_err (p := p) h55]) rfl (signs_none _)⟩))))))
   ·
    rw [h55] at hgw
    obtain ⟨vb, vkin, ew, hlw⟩ := GrowI.own hk2 hgw (by show 0 < (ligValues (segm C p.1 p.2)).length; rw [ligValues_len]; omega)
    have ew : w = .slice (some ⟨vb, 0, none⟩) (segm C p.1 p.2).length (segm C p.1 p.2).length := by rw [← ligValues_len (segm C p.1 p.2)]; exact ew
    subst ew
    have hl := (hl1.join hlw).perm (l' := [(B7, .cells [.string nm, .slice aw C.length C.length] 24 false true []), (B2, .cells [.string ⟨#[]⟩, .slice none 0 0] 24 false true []), (B1, .cells [.string nm, .slice a C.length cap] 24 false true []), (b1, .cells ((firstsN C C.length).map iv) 3 true true k1), (b2, .cells ((lastsN C C.length).map iv) 3 true true k2), (vb, .cells ((ligValues (segm C p.1 p.2)).map iv) 3 true true vkin)] ++ ((b, .cells (D.map Sg.cells).flatten 63 true true ks) :: deadL 63 ks)) (by rw [List.append_assoc]; exact List.Perm.append_left _ List.perm_append_comm)
    refine xp_skip rfl ?_; refine xs (by kernel_rfl) ?_; iterate 2 refine rm rfl ?_
    refine rr rfl (rd_indexAddr rfl rfl rfl (indexAddr_sl (z := 1) ha1 Tryz.underlying31 (by kernel_rfl) ⟨by omega, by omega⟩)) ?_; refine rr rfl (rd_load rfl rfl (load1_of (by kernel_rfl) (hl.get 3 rfl) (fst_at hC hp))) ?_; refine rm rfl ?_; refine re_end rfl ?_; refine xp_block rfl ?_
    -- LOOP
    refine xe_sub (L' := [(11, .int .i64 ((p.1 : Int) + ((0 : Nat) : Int))), (9, .slice (some ⟨vb, 0, none⟩) (segm C p.1 p.2).length (segm C p.1 p.2).length), (8, .int .i64 (i : Int)), (7, ptrTo B7 0), (5, .slice a2 (prs C).length (prs C).length), (4, .slice a1 (prs C).length (prs C).length), (3, .int .i64 0), (2, ptrTo B2 0), (1, ptrTo B1 0)]) ⟨rfl, rfl, rfl, rfl, rfl, rfl, rfl, rfl, rfl, trivial⟩ ?_
    refine xp_loop rfl (fun m Le S' => ∃ (j : Nat) (E : List Sg) (ks : List Nat), j ≤ (segm C p.1 p.2).length ∧ m = (segm C p.1 p.2).length - j ∧ E.length = C.length ∧ putN C (segm C p.1 p.2) p.1 ((segm C p.1 p.2).length - j) j E = putN C (segm C p.1 p.2) p.1 (segm C p.1 p.2).length 0 D ∧ SubE [(11, .int .i64 ((p.1 : Int) + (j : Int))), (9, .slice (some ⟨vb, 0, none⟩) (segm C p.1 p.2).length (segm C p.1 p.2).length), (8, .int .i64 (i : Int)), (7, ptrTo B7 0), (5, .slice a2 (prs C).length (prs C).length), (4, .slice a1 (prs C).length (prs C).length), (3, .int .i64 0), (2, ptrTo B2 0), (1, ptrTo B1 0)] Le ∧ HoldG S [S] S' ([(B7, .cells [.string nm, .slice aw C.length C.length] 24 false true []), (B2, .cells [.string ⟨#[]⟩, .slice none 0 0] 24 false true []), (B1, .cells [.string nm, .slice a C.length cap] 24 false true []), (b1, .cells ((firstsN C C.length).map iv) 3 true true k1), (b2, .cells ((lastsN C C.length).map iv) 3 true true k2), (vb, .cells ((ligValues (segm C p.1 p.2)).map iv) 3 true true vkin)] ++ ((b, .cells (E.map Sg.cells).flatten 63 true true ks) :: deadL 63 ks)) []) ?_ (m := (segm C p.1 p.2).length) ⟨0, D, ks, by omega, by omega, hD, by rw [Nat.sub_zero], ⟨rfl, rfl, rfl, rfl, rfl, rfl, rfl, rfl, rfl, trivial⟩, hl⟩
    clear hl; rintro m Le S' ⟨j, E, ks2, hj, rfl, hE, hput, hsub, hl⟩; refine xe_sub hsub ?_
    refine xp_seq rfl ?_; refine xs (by kernel_rfl) ?_; iterate 3 refine rm rfl ?_
    refine rr rfl (rd_indexAddr rfl rfl rfl (indexAddr_sl (z := 1) ha2 Tryz.underlying31 (by kernel_rfl) ⟨by omega, by omega⟩)) ?_; refine rr rfl (rd_load rfl rfl (load1_of (by kernel_rfl) (hl.get 4 rfl) (snd_at hC hp))) ?_; refine rr rfl (rd_bin rfl rfl rfl rfl) ?_; refine re_end rfl ?_; refine xp_cond rfl rfl (fun h67 => ?_) (fun h67 => ?_)
    ·
     have hjl : j < (segm C p.1 p.2).length := by have := of_decide_eq_true h67; omega
     refine xp_skip rfl ?_; refine xp_seq rfl ?_; refine xp_block rfl ?_; refine xs (by kernel_rfl) ?_; refine rr rfl (rd_fieldAddr rfl rfl (fa Tryz.underlying24 az24 rfl)) ?_; refine rr rfl (rl hl 2 rfl rfl (by kernel_rfl) rfl rfl) ?_; refine rm rfl ?_; refine rr rfl (rd_indexAddr rfl rfl rfl (indexAddr_sl (z := 17) ha Tryz.underlying22 (by kernel_rfl) ⟨by omega, by omega⟩)) ?_; refine rr rfl (rd_load rfl rfl (loadN_row (z := 17) (by kernel_rfl) (by kernel_rfl) (row_move (hl.since 0 rfl) hrow) (hall ((p.1 : Int) + (j : Int)) (by omega) (by omega)))) ?_
     refine re_allocL hl rfl rfl rfl rfl rfl (z := [.int .i64 0, .int .i64 0, .int .i64 0, .int .i64 0, .bool false, .int .i64 0, .bool false, .bool false, .int .i64 0, .int .i64 0, .int .i64 0, .int .i64 0, .bool false, .int .i64 0, .int .i64 0, .int .i64 0, .int .i64 0]) (by kernel_rfl) ?_; intro B12 S12 hl; refine re_storeL hl 0 rfl rfl rfl rfl rfl rfl rfl (by kernel_rfl) rfl ?_; intro S1 hl; refine re_end rfl ?_; refine xp_draw (idx := [0, 1, 2, 3, 4, 5, 6, 7, 8, 9, 10, 11, 12, 13, 14, 15, 16, 17, 18, 19, 20]) rfl (by kernel_rfl) (by kernel_rfl) ?_
     refine pr rfl (rd_fieldAddr rfl rfl (fa Tryz.underlying24 az24 rfl)) ?_; refine pk rfl (rl hl 1 rfl rfl (by kernel_rfl) rfl rfl) ?_; iterate 5 refine pm rfl ?_
     refine pr rfl (rd_indexAddr rfl rfl rfl (indexAddr_sl (z := 1) ha1 Tryz.underlying31 (by kernel_rfl) ⟨by omega, by omega⟩)) ?_; refine pk rfl (rd_load rfl rfl (load1_of (by kernel_rfl) (hl.get 4 rfl) (fst_at hC hp))) ?_; refine pr rfl (rd_bin rfl rfl rfl (congrArg some (congrArg (Value.int .i64) ((IntWalk.i64_in _ (by omega)).trans (show (p.1 : Int) + (j : Int) - (p.1 : Int) = (j : Int) by omega))))) ?_; refine pr rfl (rd_indexAddr rfl rfl rfl (indexAddr_slice (z := 1) Tryz.underlying31 (by kernel_rfl) ⟨by omega, by omega⟩)) ?_
     refine pk rfl (rd_load rfl rfl (load1_of (by kernel_rfl) (hl.get 6 rfl) (vals_at hjl))) ?_; refine pr rfl (rd_fieldAddr rfl rfl (fa Tryz.underlying63 az63 rfl)) ?_; refine pk rfl (rl hl 0 rfl rfl (by kernel_rfl) rfl rfl) ?_; refine pr rfl (rd_fieldAddr rfl rfl (fa Tryz.underlying63 az63 rfl)) ?_; refine pk rfl (rl hl 0 rfl rfl (by kernel_rfl) rfl rfl) ?_; refine pr rfl (rd_fieldAddr rfl rfl (fa Tryz.underlying63 az63 rfl)) ?_; refine pk rfl (rl hl 0 rfl rfl (by kernel_rfl) rfl rfl) ?_
     refine pr rfl (rd_build rfl rfl (v := (noteV (sgI C ((p.1 : Int) + (j : Int))) (ligValue (segm C p.1 p.2) (j : Nat))).v) (by rfl)) ?_; refine pr rfl (rd_indexAddr rfl rfl rfl (indexAddr_sl (z := 17) haw Tryz.underlying22 (by kernel_rfl) ⟨by omega, by omega⟩)) ?_
     refine rp_storeT ((B12, .cells (sgI C ((p.1 : Int) + (j : Int))).cells 63 false true []) :: [(B7, .cells [.string nm, .slice aw C.length C.length] 24 false true []), (B2, .cells [.string ⟨#[]⟩, .slice none 0 0] 24 false true []), (B1, .cells [.string nm, .slice a C.length cap] 24 false true []), (b1, .cells ((firstsN C C.length).map iv) 3 true true k1), (b2, .cells ((lastsN C C.length).map iv) 3 true true k2), (vb, .cells ((ligValues (segm C p.1 p.2)).map iv) 3 true true vkin)]) hl rfl rfl rfl rfl rfl rfl (by kernel_rfl) (set_sign (noteV (sgI C ((p.1 : Int) + (j : Int))) (ligValue (segm C p.1 p.2) (j : Nat))) (i := p.1 + j) (by omega) (by omega)) ?_; intro S1 hl; refine ⟨stays_all (by kernel_rfl), ?_⟩
     refine rp_end rfl ?_; refine xg (by kernel_rfl) ?_; refine rm rfl ?_; refine rr rfl (rd_bin rfl rfl rfl (i6 (by omega))) ?_; refine rm rfl ?_; refine re_end rfl ?_
     refine ⟨(segm C p.1 p.2).length - (j + 1), by omega, j + 1, E.set (p.1 + j) (noteV (sgI C ((p.1 : Int) + (j : Int))) (ligValue (segm C p.1 p.2) (j : Nat))), [], by omega, rfl, by rw [List.length_set]; exact hE, ?_, ⟨rfl, rfl, rfl, rfl, rfl, rfl, rfl, rfl, rfl, trivial⟩, hl.tail⟩
     rw [← hput, show (segm C p.1 p.2).length - j = ((segm C p.1 p.2).length - (j + 1)) + 1 by omega]; rfl
    ·
     refine xp_exit rfl ?_; refine xg (by kernel_rfl) ?_; refine rm rfl ?_; refine rr rfl (rd_bin rfl rfl rfl (i6 (by omega))) ?_; refine rm rfl ?_; refine re_end rfl ?_
     have hj2 : j = (segm C p.1 p.2).length := by have := of_decide_eq_false h67; omega
     rw [hj2, Nat.sub_self] at hput
     have hput : E = putN C (segm C p.1 p.2) p.1 (segm C p.1 p.2).length 0 D := hput
     have hl := hl.sub (List.Sublist.append_left (l₁ := (b, .cells (E.map Sg.cells).flatten 63 true true ks2) :: deadL 63 ks2) (List.sublist_cons_self (vb, .cells ((ligValues (segm C p.1 p.2)).map iv) 3 true true vkin) _) ([(B7, .cells [.string nm, .slice aw C.length C.length] 24 false true []), (B2, .cells [.string ⟨#[]⟩, .slice none 0 0] 24 false true []), (B1, .cells [.string nm, .slice a C.length cap] 24 false true []), (b1, .cells ((firstsN C C.length).map iv) 3 true true k1), (b2, .cells ((lastsN C C.length).map iv) 3 true true k2)]))
     refine ⟨(prs C).length - (i + 1), by omega, i + 1, E, _, by omega, rfl, hE, ?_, .inr ⟨b, ks2, _, haw, rfl, fun _ => rfl⟩, ⟨rfl, rfl, rfl, rfl, rfl, rfl, rfl, trivial⟩, hl⟩
     rw [← hpr, expL_go (p := p) h55, hput, hW]
  ·
   refine xp_exit rfl ?_; refine xs (by kernel_rfl) ?_; refine rr rfl (rd_load rfl rfl (loadN_of (z := 2) (by kernel_rfl) (by kernel_rfl) (hl.get 0 rfl) rfl)) ?_; refine re_storeL hl 1 rfl rfl rfl rfl rfl rfl rfl (by kernel_rfl) rfl ?_; intro S1 hl; refine rm rfl ?_; refine re_end rfl ?_; refine xp_ret rfl ?_
   refine done_ret (ress_cell rfl (loadN_of (z := 2) (by kernel_rfl) (by kernel_rfl) (hl.get 1 rfl) rfl) (ress_tmp rfl rfl)) ⟨hl.keep, exp_res (X := D) (by rw [hex, ← hpr, show i = (prs C).length by have := of_decide_eq_false h33; omega, List.drop_length]; rfl) hD.symm (by rw [hD]; have := hT.signs (r := [(B7, .cells [.string nm, .slice aw C.length C.length] 24 false true []), (B2, .cells [.string nm, .slice aw C.length C.length] 24 false true []), (B1, .cells [.string nm, .slice a C.length cap] 24 false true [])] ++ fl) (by rw [List.append_assoc]; exact hl); rwa [hD] at this)⟩
end Go.Proofs.YtkmhecihkckcmaaGreatDoor
namespace Go.Proofs.YtkmhecihkckcmaaGreatDoor
open Go.Cm Go
set_option maxRecDepth 100000
variable {S : St}
noncomputable def c34 : Code := Tryz.f34.body.getD .skip
noncomputable def rf : Code := pA (pB (pA (pB (pB (pB (pB c34))))))
structure Fr where
 lb : Nat
 db : Nat
 bp : Nat
 b1 : Nat
 b2 : Nat
 b3 : Nat
 b4 : Nat
 t : Tm
 c1 : List Value
 c2 : List Value
 cp : List Value
 e4 : Value
noncomputable def Fr.lo (z : Fr) : Nat × Blk := (z.lb, .loop .ready none 25 z.t (rgP rf) (rgA rf) (rgB rf) z.db)
noncomputable def Fr.l (z : Fr) (av : Option Addr) (k : Nat) : List (Nat × Blk) := [(z.b4, .cells [z.e4] 28 false true []), (z.b3, .cells [.slice av k k] 50 false true []), (z.b2, .cells z.c2 24 false true []), (z.b1, .cells z.c1 24 false true []), z.lo, (z.db, .defs false), (z.bp, .cells z.cp 24 false true [])]
def gS (av : Option Addr) (D : List (List Value)) : Gr := ⟨.slice av D.length D.length, 84, 8, D.flatten, D.length⟩
theorem round_sec {Sb T S : St} (z : Fr) (hz : Has 25 ⟨25, z.t, []⟩ [(3, ptrTo z.b3 0)]) {own : List (Nat × Blk)} (ho : (own.all fun p => !isRow p.2) = true) {av : Option Addr} {D : List (List Value)} {f g ma mb mc md : Int} (hD : D.length ≤ 1000) (hl : HoldG Sb [T] S (own ++ z.l av D.length) [gS av D]) :
  CT Tryz.prog KK (.fn (.yield z.lb) #[]) [aggL (secCells f g ma mb mc md)] S fun r S' => r = .returned (.bool true) ∧ ∃ av', HoldG Sb [T] S' (own ++ z.l av' (D ++ [secCells f g ma mb mc md]).length) [gS av' (D ++ [secCells f g ma mb mc md])] := by
 have hl := hl.perm List.perm_append_comm
 refine ct_round (hl.get 4 rfl) hz rfl rfl ?_; refine xg (by kernel_rfl) ?_; refine re_allocL hl rfl rfl rfl rfl rfl (z := [.int .i64 0, .int .i64 0, .int .i64 0, .int .i64 0, .int .i64 0, .int .i64 0, .int .i64 0, .int .i64 0]) (by kernel_rfl) ?_; intro B5 S5 hl; refine re_storeL hl 0 rfl rfl rfl rfl rfl rfl rfl (by kernel_rfl) rfl ?_; intro S1 hl; refine re_end rfl ?_
 refine ⟨rfl, _, _, _, _, _, _, _, hl.get 5 rfl, ?_⟩
 have hl := hl.put (k := 5) rfl rfl (.loop .busy none 25 z.t (rgP rf) (rgA rf) (rgB rf) z.db)
 refine xp_block rfl ?_; refine xg (by kernel_rfl) ?_; refine rr rfl (rl hl 2 rfl rfl (by kernel_rfl) rfl rfl) ?_; refine rr rfl (rd_load rfl rfl (loadN_of (z := 8) (by kernel_rfl) (by kernel_rfl) (hl.get 0 rfl) rfl)) ?_; refine re_buildSliceR hl rfl rfl rfl rfl rfl Tryz.underlying50 rfl (c := secCells f g ma mb mc md) (by kernel_rfl) ?_; intro B21 S1 hr21 hl
 refine re_appendG hl 0 rfl ho (by simp) rfl rfl rfl rfl rfl rfl rfl Tryz.underlying50 Tryz.underlying50 rfl rfl (by kernel_rfl) (src_row (new := secCells f g ma mb mc md) hr21 rfl) rfl rfl (by kernel_rfl) (by show D.length + 1 ≤ maxNeed; unfold maxNeed; omega) ?_; intro v22 S1 hl
 obtain ⟨av2, rfl⟩ : ∃ av2, v22 = .slice av2 (D.length + 1) (D.length + 1) := Grow.is (hl.gr _ (List.mem_cons_self ..))
 refine re_storeL hl 2 rfl rfl rfl rfl rfl rfl rfl (by kernel_rfl) rfl ?_; intro S1 hl; refine re_end rfl ?_
 refine ⟨_, _, _, _, _, _, _, _, hl.get 5 rfl, rfl, av2, ?_⟩
 have hl := (hl.put (k := 5) rfl rfl (.loop .ready none 25 z.t (rgP rf) (rgA rf) (rgB rf) z.db)).tail
 have eD : (D ++ [secCells f g ma mb mc md]).length = D.length + 1 := by simp
 have eF : (D ++ [secCells f g ma mb mc md]).flatten = D.flatten ++ secCells f g ma mb mc md := by simp
 unfold gS
 rw [eD, eF]
 exact HoldG.perm (l := z.l av2 (D.length + 1) ++ own) hl List.perm_append_comm
theorem assert_yes {P : Program} {t : TypeId} {v : Value} {d : TypeDesc} (hu : P.underlying t = some d) (hd : noIf d = true) : typeAssertV P (.iface t v) t true = some (.tuple #[v, .bool true]) := by
 unfold typeAssertV
 rw [hu]
 cases d <;> first | (simp; done) | cases hd
theorem assert_no {P : Program} {t : TypeId} {z : Value} {d : TypeDesc} (hu : P.underlying t = some d) (hd : noIf d = true) (hz : zeroV P t = some z) : typeAssertV P .nilIface t true = some (.tuple #[z, .bool false]) := by
 unfold typeAssertV
 rw [hu]
 cases d <;> first | (simp [hz]; done) | cases hd
noncomputable def c46 : Code := Tryz.f46.body.getD .skip
def pan (e q : Int) (r : Bool) : Cm.Mode := Cm.Mode.pan [{ v := .iface 97 (aggL [.int .i64 e, .int .i64 q]), recovered := r }]
def zeroP : List Value := [.string ⟨#[]⟩, .slice none 0 0]
theorem dd_pan {Sb S : St} {Ts : List St} {gs : List Gr} {rest : List (Nat × Blk)} {b2 b3 b4 : Nat} {c2 : List Value} {v3 v4 : Value} {e q : Int} (hF : Fresh Sb) (hl : HoldG Sb Ts S ((b4, .cells [v4] 28 false true []) :: (b3, .cells [v3] 50 false true []) :: (b2, .cells c2 24 false true []) :: rest) gs) (h2 : ∃ x y, c2 = [x, y]) :
  DD Tryz.prog KK 46 [ptrTo b2 0, ptrTo b3 0, ptrTo b4 0] (pan e q false) S fun md' S' => md' = pan e q true ∧ HoldG Sb Ts S' ((b4, .cells [.int .i64 e] 28 false true []) :: (b3, .cells [.slice none 0 0] 50 false true []) :: (b2, .cells zeroP 24 false true []) :: rest) gs := by
 obtain ⟨x2, y2, rfl⟩ := h2
 refine dd_enter (c := c46) (n := 15) Tryz.func46 rfl (by kernel_rfl) rfl rfl ?_; refine xr_seq rfl ?_; refine xr_region rfl (by kernel_rfl) ?_; refine rdd_rec rfl rfl rfl rfl rfl ?_; refine rdd_rd rfl rfl rfl rfl rfl (rd_assert rfl rfl (assert_yes Tryz.underlying97 rfl)) ?_; refine rdd_rd rfl rfl rfl rfl rfl (rd_move rfl rfl) ?_; iterate 2 refine rdd_rd rfl rfl rfl rfl rfl (rd_extract rfl rfl rfl) ?_
 refine rdd_allocL hl rfl rfl rfl rfl rfl (z := [.int .i64 0, .int .i64 0]) (by kernel_rfl) ?_; intro B3 S3 hl; refine rdd_storeL hl 0 rfl rfl rfl rfl rfl rfl rfl (by kernel_rfl) (c' := [.int .i64 e, .int .i64 q]) rfl ?_; intro S1 hl; refine rdd_rd rfl rfl rfl rfl rfl (rd_assign rfl rfl) ?_; refine rdd_end rfl ?_; refine xr_seq rfl ?_; refine xr_region rfl (by kernel_rfl) ?_; refine rdd_rd rfl rfl rfl rfl rfl (rd_move rfl rfl) ?_; refine rdd_end rfl ?_; refine xr_cond rfl rfl (fun h10 => ?_) (fun h10 => ?_)
 ·
  refine xr_code rfl ?_; refine xp_draw (idx := [0, 1, 2, 3, 4, 5, 6]) rfl (by kernel_rfl) (by kernel_rfl) ?_; refine pr rfl (rd_build rfl rfl (v := aggL zeroP) (by rfl)) ?_; refine pr rfl (rd_fieldAddr rfl rfl (fa Tryz.underlying97 az97 rfl)) ?_; refine pr rfl (rd_fieldAddr rfl rfl (fa Tryz.underlying95 az95 rfl)) ?_; refine pk rfl (rl hl 0 rfl rfl (by kernel_rfl) rfl rfl) ?_
  refine rp_storeL hl 3 rfl rfl rfl rfl rfl rfl rfl (by kernel_rfl) rfl ?_; intro S1 hl; refine ⟨stays_of ⟨stays_load (X := True) rfl rfl (load1_of (by kernel_rfl) (hl.get 0 rfl) rfl) (same_atom (atom_int _ _)) rfl trivial, trivial⟩, ?_⟩
  refine rp_storeL hl 2 rfl rfl rfl rfl rfl rfl rfl (by kernel_rfl) rfl ?_; intro S1 hl; refine ⟨stays_of (allE_left ⟨stays_load (X := True) rfl rfl (load1_of (by kernel_rfl) (hl.get 0 rfl) rfl) (same_atom (atom_int _ _)) rfl trivial, trivial⟩), ?_⟩
  refine rp_storeL hl 1 rfl rfl rfl rfl rfl rfl rfl (by kernel_rfl) rfl ?_; intro S1 hl; refine ⟨stays_all (by kernel_rfl), ?_⟩
  refine rp_end rfl ?_
  exact ⟨rfl, ⟨_, rfl⟩, rfl, hl.tail⟩
 ·cases h10
theorem dd_ret {Sb S : St} {Ts : List St} {gs : List Gr} {rest : List (Nat × Blk)} {b2 b3 b4 : Nat} {c2 : List Value} {v3 v4 : Value} {e q : Int} (hF : Fresh Sb) (hl : HoldG Sb Ts S ((b4, .cells [v4] 28 false true []) :: (b3, .cells [v3] 50 false true []) :: (b2, .cells c2 24 false true []) :: rest) gs) (h2 : ∃ x y, c2 = [x, y]) :
  DD Tryz.prog KK 46 [ptrTo b2 0, ptrTo b3 0, ptrTo b4 0] .ret S fun md' S' => md' = .ret ∧ HoldG Sb Ts S' ((b4, .cells [v4] 28 false true []) :: (b3, .cells [v3] 50 false true []) :: (b2, .cells c2 24 false true []) :: rest) gs := by
 obtain ⟨x2, y2, rfl⟩ := h2
 refine dd_enter (c := c46) (n := 15) Tryz.func46 rfl (by kernel_rfl) rfl rfl ?_; refine xr_seq rfl ?_; refine xr_region rfl (by kernel_rfl) ?_; refine rdd_rec rfl rfl rfl rfl rfl ?_; refine rdd_rd rfl rfl rfl rfl rfl (rd_assert rfl rfl (assert_no (z := aggL [.int .i64 0, .int .i64 0]) Tryz.underlying97 rfl (by kernel_rfl))) ?_; refine rdd_rd rfl rfl rfl rfl rfl (rd_move rfl rfl) ?_; iterate 2 refine rdd_rd rfl rfl rfl rfl rfl (rd_extract rfl rfl rfl) ?_
 refine rdd_allocL hl rfl rfl rfl rfl rfl (z := [.int .i64 0, .int .i64 0]) (by kernel_rfl) ?_; intro B3 S3 hl; refine rdd_storeL hl 0 rfl rfl rfl rfl rfl rfl rfl (by kernel_rfl) (c' := [.int .i64 0, .int .i64 0]) rfl ?_; intro S1 hl; refine rdd_rd rfl rfl rfl rfl rfl (rd_assign rfl rfl) ?_; refine rdd_end rfl ?_; refine xr_seq rfl ?_; refine xr_region rfl (by kernel_rfl) ?_; refine rdd_rd rfl rfl rfl rfl rfl (rd_move rfl rfl) ?_; refine rdd_end rfl ?_; refine xr_cond rfl rfl (fun h10 => ?_) (fun h10 => ?_)
 ·cases h10
 ·
  refine xr_skip rfl ?_
  exact ⟨⟨_, rfl⟩, rfl, hl.tail⟩
end Go.Proofs.YtkmhecihkckcmaaGreatDoor
namespace Go.Proofs.YtkmhecihkckcmaaGreatDoor
open Go.Cm Go
set_option maxRecDepth 100000
variable {S : St}
theorem sec_12 {n i : Nat} {X : List Sg} {f : Int} {b : Bool} (h : (classI (sgI X (i : Nat)).kind == 1) = true) (h2 : (!b) = true) : secN (n + 1) X i f b = 12 := by rw [secN, h, h2]; rfl
theorem sec_s1 {n i : Nat} {X : List Sg} {f : Int} {b : Bool} (h : (classI (sgI X (i : Nat)).kind == 1) = true) (h2 : (!b) = false) : secN (n + 1) X i f b = secN n X (i + 1) (bif decide (f < 0) then ((i : Nat) : Int) else f) b := by rw [secN, h, h2]; rfl
theorem sec_13 {n i : Nat} {X : List Sg} {f : Int} {b : Bool} (h : (classI (sgI X (i : Nat)).kind == 1) = false) (h2 : (classI (sgI X (i : Nat)).kind == 2) = true) (h3 : decide (f < 0) = true) : secN (n + 1) X i f b = 13 := by rw [secN, h, h2, h3]; rfl
theorem sec_s2 {n i : Nat} {X : List Sg} {f : Int} {b : Bool} (h : (classI (sgI X (i : Nat)).kind == 1) = false) (h2 : (classI (sgI X (i : Nat)).kind == 2) = true) (h3 : decide (f < 0) = false) : secN (n + 1) X i f b = secN n X (i + 1) f b := by rw [secN, h, h2, h3]; rfl
theorem sec_s3 {n i : Nat} {X : List Sg} {f : Int} {b : Bool} (h : (classI (sgI X (i : Nat)).kind == 1) = false) (h2 : (classI (sgI X (i : Nat)).kind == 2) = false) (h3 : (classI (sgI X (i : Nat)).kind == 3) = true) : secN (n + 1) X i f b = secN n X (i + 1) (-1) (b || ((sgI X (i : Nat)).kind == 5)) := by rw [secN, h, h2, h3]; rfl
theorem sec_s4 {n i : Nat} {X : List Sg} {f : Int} {b : Bool} (h : (classI (sgI X (i : Nat)).kind == 1) = false) (h2 : (classI (sgI X (i : Nat)).kind == 2) = false) (h3 : (classI (sgI X (i : Nat)).kind == 3) = false) : secN (n + 1) X i f b = secN n X (i + 1) f b := by rw [secN, h, h2, h3]; rfl
theorem sec_end {i : Nat} {X : List Sg} {f : Int} {kb : Bool} (h13 : decide ((i : Int) < X.length) = false) (hpr : secN (X.length - i) X i f kb = secE X) : secE X = 0 := by
 rw [← hpr, show X.length - i = 0 by have := of_decide_eq_false h13; omega]; rfl
def SecR (X : List Sg) (r : Ending) : Prop := (r = .returned (tupV []) ∧ secE X = 0) ∨ ∃ q, secE X ≠ 0 ∧ r = .panicked [{ v := .iface 97 (aggL [.int .i64 (secE X), .int .i64 q]), recovered := false }]
def SecQ (Sb T : St) (z : Fr) (X : List Sg) (r : Ending) (S' : St) : Prop := ∃ av D, HoldG Sb [T] S' (z.l av (D : List (List Value)).length) [gS av D] ∧ SecR X r
theorem sec_pan {Sb T S : St} {z : Fr} {X : List Sg} {av : Option Addr} {D : List (List Value)} {e q : Int} (h : e = secE X) (he : e ≠ 0) (hl : HoldG Sb [T] S (z.l av D.length) [gS av D]) : SecQ Sb T z X (.panicked [{ v := .iface 97 (aggL [.int .i64 e, .int .i64 q]), recovered := false }]) S := by
 subst h
 exact ⟨av, D, hl, .inr ⟨q, he, rfl⟩⟩
theorem sec_ret {Sb T S : St} {z : Fr} {X : List Sg} {av : Option Addr} {D : List (List Value)} (h : secE X = 0) (hl : HoldG Sb [T] S (z.l av D.length) [gS av D]) : SecQ Sb T z X (.returned (tupV [])) S := ⟨av, D, hl, .inl ⟨rfl, h⟩⟩
theorem done_nE {P : Program} {rs : List ResultVar} {L : Env} {S : St} {vs : List Value} {Q : Ending → St → Prop} (h : ress P L S rs = some vs) (hq : Q (.returned (tupV vs)) S) : DoneE P rs Q .normal L S := ⟨vs, h, hq⟩
noncomputable def c57 : Code := Tryz.f57.body.getD .skip
theorem spec57 {Sb T : St} (z : Fr) (hz : Has 25 ⟨25, z.t, []⟩ [(3, ptrTo z.b3 0)]) (nm : ByteArray) (aX : Option Addr) (cX : Nat) (X : List Sg) (hcp : z.cp = [.string nm, .slice aX X.length cX]) (hn : X.length ≤ 1000) (hG : Gc Sb) (hv : Signs T (.slice aX X.length cX) X) {av0 : Option Addr} (hl : HoldG Sb [T] S (z.l av0 ([] : List (List Value)).length) [gS av0 []]) : CE Tryz.prog KK 57 [.func (.yield z.lb) #[] #[], ptrTo z.bp 0] S (SecQ Sb T z X) := by
 refine ce_enter (c := c57) (n := 72) Tryz.func57 rfl rfl rfl (by kernel_rfl) rfl rfl ?_; refine xs (by kernel_rfl) ?_; refine re_allocL hl rfl rfl rfl rfl rfl (z := [.int .i64 0, .int .i64 0, .int .i64 0, .int .i64 0]) (by kernel_rfl) ?_; intro B3 S3 hl; refine re_end rfl ?_; refine xs (by kernel_rfl) ?_; refine rm rfl ?_; refine re_end rfl ?_; refine xs (by kernel_rfl) ?_; refine rr rfl (rd_build rfl rfl (v := aggL (secCells (-1) 0 0 0 0 0)) (by rfl)) ?_
 refine re_allocL hl rfl rfl rfl rfl rfl (z := [.int .i64 0, .int .i64 0, .int .i64 0, .int .i64 0, .int .i64 0, .int .i64 0, .int .i64 0, .int .i64 0]) (by kernel_rfl) ?_; intro B5 S5 hl; refine re_storeL hl 0 rfl rfl rfl rfl rfl rfl rfl (by kernel_rfl) rfl ?_; intro S1 hl; refine re_end rfl ?_; refine xp_seq rfl ?_; refine xs (by kernel_rfl) ?_; refine rr rfl (rd_fieldAddr rfl rfl (fa Tryz.underlying24 az24 rfl)) ?_; refine rr rfl (rd_load rfl rfl (load1_of (by kernel_rfl) (hl.get 8 rfl) (by rw [hcp]; rfl))) ?_; refine rr rfl (rd_len rfl rfl (len_slice Tryz.underlying22)) ?_; refine rm rfl ?_
 refine re_end rfl ?_; refine xp_block rfl ?_
 -- LOOP
 refine xe_sub (L' := [(12, .int .i64 0), (11, .int .i64 X.length), (10, .slice aX X.length cX), (5, ptrTo B5 0), (4, .bool false), (3, ptrTo B3 0), (0, .func (.yield z.lb) #[] #[])]) ⟨rfl, rfl, rfl, rfl, rfl, rfl, rfl, trivial⟩ ?_
 refine xp_loop rfl (fun m Le S' => ∃ (i : Nat) (f g ma mb mc md : Int) (kb : Bool) (av : Option Addr) (D : List (List Value)), i ≤ X.length ∧ m = X.length - i ∧ D.length ≤ i ∧ SubE [(12, .int .i64 (i : Int)), (11, .int .i64 X.length), (10, .slice aX X.length cX), (5, ptrTo B5 0), (4, .bool kb), (3, ptrTo B3 0), (0, .func (.yield z.lb) #[] #[])] Le ∧ secN (X.length - i) X i f kb = secE X ∧ HoldG Sb [T] S' ((B5, .cells (secCells f g ma mb mc md) 84 false true []) :: (B3, .cells [.int .i64 ma, .int .i64 mb, .int .i64 mc, .int .i64 md] 59 false true []) :: z.l av D.length) [gS av D]) ?_ (m := X.length) ⟨0, -1, 0, 0, 0, 0, 0, false, av0, [], by omega, by omega, Nat.le_refl _, ⟨rfl, rfl, rfl, rfl, rfl, rfl, rfl, trivial⟩, rfl, hl⟩
 clear hl; rintro m Le S' ⟨i, f, g, ma, mb, mc, md, kb, av, D, hi, rfl, hD, hsub, hpr, hl⟩; refine xe_sub hsub ?_
 refine xs (by kernel_rfl) ?_; refine rr rfl (rd_bin rfl rfl rfl rfl) ?_; refine re_end rfl ?_; refine xp_seq rfl ?_; refine xp_cond rfl rfl (fun h13 => ?_) (fun h13 => ?_)
 ·
  have hlt : i < X.length := by have := of_decide_eq_true h13; omega
  obtain ⟨b, o, cs, haX, hrow, hall⟩ := hv.row (by omega)
  rw [show X.length - i = (X.length - (i + 1)) + 1 by omega] at hpr
  refine xp_skip rfl ?_; refine xp_seq rfl ?_; refine xp_block rfl ?_; refine xs (by kernel_rfl) ?_; refine rm rfl ?_; refine rr rfl (rd_indexAddr rfl rfl rfl (indexAddr_sl (z := 17) haX Tryz.underlying22 (by kernel_rfl) ⟨by omega, by omega⟩)) ?_; refine rr rfl (rd_load rfl rfl (loadN_row (z := 17) (by kernel_rfl) (by kernel_rfl) (row_move (hl.since 0 rfl) hrow) (hall _ (by omega) (by omega)))) ?_
  refine re_allocL hl rfl rfl rfl rfl rfl (z := [.int .i64 0, .int .i64 0, .int .i64 0, .int .i64 0, .bool false, .int .i64 0, .bool false, .bool false, .int .i64 0, .int .i64 0, .int .i64 0, .int .i64 0, .bool false, .int .i64 0, .int .i64 0, .int .i64 0, .int .i64 0]) (by kernel_rfl) ?_; intro B7 S7 hl; refine rm rfl ?_; refine re_storeL hl 0 rfl rfl rfl rfl rfl rfl rfl (by kernel_rfl) rfl ?_; intro S1 hl; refine re_end rfl ?_; refine xs (by kernel_rfl) ?_; refine rr rfl (rd_load rfl rfl (loadN_of (z := 17) (by kernel_rfl) (by kernel_rfl) (hl.get 0 rfl) rfl)) ?_
  refine re_callL hl rfl rfl rfl rfl rfl rfl rfl (spec51 (sgI X (i : Nat)) (hG.keep hl.keep)) ?_; rintro v S1 hk1 rfl hl
  refine re_end rfl ?_; refine xp_block rfl ?_; refine xs (by kernel_rfl) ?_; refine rr rfl (rd_bin rfl rfl rfl rfl) ?_; refine rm rfl ?_; refine re_end rfl ?_; refine xp_cond rfl rfl (fun h19 => ?_) (fun h19 => ?_)
  ·
   refine xp_seq rfl ?_; refine xs (by kernel_rfl) ?_; refine rm rfl ?_; refine rr rfl (rd_un rfl rfl rfl) ?_; refine re_end rfl ?_
   refine xp_cond rfl rfl (fun h22 => by
    refine xg (by kernel_rfl) ?_; refine rm rfl ?_; iterate 2 refine rr rfl (rd_build rfl rfl (v := aggL [.int .i64 12, .int .i64 (i : Int)]) (by rfl)) ?_
    refine rr rfl (rd_iface rfl Tryz.underlying97 rfl rfl) ?_; refine re_panic rfl rfl rfl rfl ?_
    exact sec_pan (q := (i : Int)) (by rw [← hpr, sec_12 h19 h22]) (by decide) hl.tail.tail.tail) (fun h22 => ?_)
   refine xp_skip rfl ?_; refine xp_seq rfl (xe_to0 (fun S' => HoldG Sb [T] S' ((B7, .cells (sgI X (i : Nat)).cells 63 false true []) :: (B5, .cells (secCells (bif decide (f < 0) then (i : Int) else f) g ma mb mc md) 84 false true []) :: (B3, .cells [.int .i64 ma, .int .i64 mb, .int .i64 mc, .int .i64 md] 59 false true []) :: z.l av D.length) [gS av D]) ?_ ?_)
   ·
    refine xs (by kernel_rfl) ?_; refine rr rfl (rd_fieldAddr rfl rfl (fa Tryz.underlying84 az84 rfl)) ?_; refine rr rfl (rl hl 1 rfl rfl (by kernel_rfl) rfl rfl) ?_; refine rr rfl (rd_bin rfl rfl rfl rfl) ?_; refine re_end rfl ?_; refine xp_cond rfl rfl (fun h29 => ?_) (fun h29 => ?_)
    ·
     refine xg (by kernel_rfl) ?_; refine rm rfl ?_; refine rr rfl (rd_fieldAddr rfl rfl (fa Tryz.underlying84 az84 rfl)) ?_; refine re_storeL hl 1 rfl rfl rfl rfl rfl rfl rfl (by kernel_rfl) rfl ?_; intro S1 hl; refine re_end rfl ?_
     exact ⟨rfl, by repeat (first | exact subL_refl _ | refine subL_skip rfl ?_), by rw [h29]; exact hl⟩
    ·
     refine xp_skip rfl ?_
     exact ⟨rfl, by repeat (first | exact subL_refl _ | refine subL_skip rfl ?_), by rw [h29]; exact hl⟩
   intro S1 hl
   refine xg (by kernel_rfl) ?_; refine rm rfl ?_; refine rr rfl (rd_bin rfl rfl rfl (i6 (by omega))) ?_; refine rr rfl (rd_fieldAddr rfl rfl (fa Tryz.underlying84 az84 rfl)) ?_; refine re_storeL hl 1 rfl rfl rfl rfl rfl rfl rfl (by kernel_rfl) rfl ?_; intro S1 hl; refine re_end rfl ?_; refine xg (by kernel_rfl) ?_; refine rr rfl (rd_bin rfl rfl rfl (i6 (by omega))) ?_; refine rm rfl ?_; refine re_end rfl ?_
   exact ⟨X.length - (i + 1), by omega, i + 1, (bif decide (f < 0) then (i : Int) else f), (i : Int) + 1, ma, mb, mc, md, kb, av, D, by omega, rfl, by omega, ⟨rfl, rfl, rfl, rfl, rfl, rfl, rfl, trivial⟩, by rw [← hpr, sec_s1 h19 h22], hl.tail⟩
  ·
   refine xs (by kernel_rfl) ?_; refine rr rfl (rd_bin rfl rfl rfl rfl) ?_; refine rm rfl ?_; refine re_end rfl ?_; refine xp_cond rfl rfl (fun h35 => ?_) (fun h35 => ?_)
   ·
    refine xp_seq rfl ?_; refine xs (by kernel_rfl) ?_; refine rr rfl (rd_fieldAddr rfl rfl (fa Tryz.underlying84 az84 rfl)) ?_; refine rr rfl (rl hl 1 rfl rfl (by kernel_rfl) rfl rfl) ?_; refine rr rfl (rd_bin rfl rfl rfl rfl) ?_; refine re_end rfl ?_
    refine xp_cond rfl rfl (fun h39 => by
     refine xg (by kernel_rfl) ?_; refine rm rfl ?_; iterate 2 refine rr rfl (rd_build rfl rfl (v := aggL [.int .i64 13, .int .i64 (i : Int)]) (by rfl)) ?_
     refine rr rfl (rd_iface rfl Tryz.underlying97 rfl rfl) ?_; refine re_panic rfl rfl rfl rfl ?_
     exact sec_pan (q := (i : Int)) (by rw [← hpr, sec_13 h19 h35 h39]) (by decide) hl.tail.tail.tail) (fun h39 => ?_)
    refine xp_skip rfl ?_; refine xg (by kernel_rfl) ?_; refine rm rfl ?_; refine rr rfl (rd_bin rfl rfl rfl (i6 (by omega))) ?_; refine rr rfl (rd_fieldAddr rfl rfl (fa Tryz.underlying84 az84 rfl)) ?_; refine re_storeL hl 1 rfl rfl rfl rfl rfl rfl rfl (by kernel_rfl) rfl ?_; intro S1 hl; refine re_end rfl ?_; refine xg (by kernel_rfl) ?_; refine rr rfl (rd_bin rfl rfl rfl (i6 (by omega))) ?_; refine rm rfl ?_; refine re_end rfl ?_
    exact ⟨X.length - (i + 1), by omega, i + 1, f, (i : Int) + 1, ma, mb, mc, md, kb, av, D, by omega, rfl, by omega, ⟨rfl, rfl, rfl, rfl, rfl, rfl, rfl, trivial⟩, by rw [← hpr, sec_s2 h19 h35 h39], hl.tail⟩
   ·
    refine xs (by kernel_rfl) ?_; refine rr rfl (rd_bin rfl rfl rfl rfl) ?_; refine rm rfl ?_; refine re_end rfl ?_; refine xp_cond rfl rfl (fun h47 => ?_) (fun h47 => ?_)
    ·
     refine xp_seq rfl ?_; refine xp_seq rfl (xe_cut (fun Le S' => ∃ av2 D2, D2.length ≤ i + 1 ∧ SubE [(57, .bool false), (7, ptrTo B7 0), (12, .int .i64 (i : Int)), (11, .int .i64 X.length), (10, .slice aX X.length cX), (5, ptrTo B5 0), (4, .bool kb), (3, ptrTo B3 0), (0, .func (.yield z.lb) #[] #[])] Le ∧ HoldG Sb [T] S' ((B7, .cells (sgI X (i : Nat)).cells 63 false true []) :: (B5, .cells (secCells f g ma mb mc md) 84 false true []) :: (B3, .cells [.int .i64 ma, .int .i64 mb, .int .i64 mc, .int .i64 md] 59 false true []) :: z.l av2 D2.length) [gS av2 D2]) ?_ ?_)
     ·
      refine xg (by kernel_rfl) ?_; refine rr rfl (rd_fieldAddr rfl rfl (fa Tryz.underlying84 az84 rfl)) ?_; refine rr rfl (rl hl 1 rfl rfl (by kernel_rfl) rfl rfl) ?_; refine rr rfl (rd_bin rfl rfl rfl rfl) ?_; refine rm rfl ?_; refine re_bool (d := 52) rfl (fun h52 => ?_) (fun h52 => ?_)
      ·
       refine rm rfl ?_; refine rr rfl (rd_load rfl rfl (loadN_of (z := 8) (by kernel_rfl) (by kernel_rfl) (hl.get 1 rfl) rfl)) ?_
       refine re_callT rfl rfl rfl rfl rfl rfl rfl (ct_mono (round_sec z hz (own := [(B7, .cells (sgI X (i : Nat)).cells 63 false true []), (B5, .cells (secCells f g ma mb mc md) 84 false true []), (B3, .cells [.int .i64 ma, .int .i64 mb, .int .i64 mc, .int .i64 md] 59 false true [])]) rfl (by omega) hl) ?_); rintro r S2 ⟨rfl, av2, hl⟩
       refine rr rfl (rd_un rfl rfl rfl) ?_; refine rm rfl ?_; refine re_end rfl ?_
       exact ⟨rfl, av2, _, by simp; omega, ⟨rfl, rfl, rfl, rfl, rfl, rfl, rfl, rfl, rfl, trivial⟩, hl⟩
      ·
       iterate 4 refine rz rfl ?_
       refine rm rfl ?_; refine re_end rfl ?_
       exact ⟨rfl, av, D, by omega, ⟨rfl, rfl, rfl, rfl, rfl, rfl, rfl, rfl, rfl, trivial⟩, hl⟩
     rintro Le S1 ⟨av2, D2, hD2, hsub2, hl⟩; refine xe_sub hsub2 ?_
     refine xp_cond rfl rfl (fun h57 => ?_) (fun h57 => ?_)
     ·
      cases h57
     ·
      refine xp_skip rfl ?_; refine xp_seq rfl ?_; refine xs (by kernel_rfl) ?_; refine rr rfl (rd_fieldAddr rfl rfl (fa Tryz.underlying63 az63 rfl)) ?_; refine rr rfl (rl hl 0 rfl rfl (by kernel_rfl) rfl rfl) ?_; refine rr rfl (rd_bin rfl rfl rfl rfl) ?_; refine re_end rfl ?_; refine xp_cond rfl rfl (fun h60 => ?_) (fun h60 => ?_)
      ·
       refine xg (by kernel_rfl) ?_; refine rr rfl (rd_fieldAddr rfl rfl (fa Tryz.underlying63 az63 rfl)) ?_; refine rr rfl (rd_load rfl rfl (loadN_of (z := 4) (by kernel_rfl) (by kernel_rfl) (hl.get 0 rfl) rfl)) ?_; refine re_storeL hl 2 rfl rfl rfl rfl rfl rfl rfl (by kernel_rfl) rfl ?_; intro S1 hl; refine rm rfl ?_; refine re_end rfl ?_; refine xg (by kernel_rfl) ?_; refine rr rfl (rd_load rfl rfl (loadN_of (z := 4) (by kernel_rfl) (by kernel_rfl) (hl.get 2 rfl) rfl)) ?_
       refine rr rfl (rd_build rfl rfl (v := aggL (secCells (-1) 0 (sgI X (i : Nat)).mx (sgI X (i : Nat)).md (sgI X (i : Nat)).tm (sgI X (i : Nat)).pr)) (by rfl)) ?_; refine re_storeL hl 1 rfl rfl rfl rfl rfl rfl rfl (by kernel_rfl) rfl ?_; intro S1 hl; refine re_end rfl ?_; refine xg (by kernel_rfl) ?_; refine rr rfl (rd_bin rfl rfl rfl (i6 (by omega))) ?_; refine rm rfl ?_; refine re_end rfl ?_
       exact ⟨X.length - (i + 1), by omega, i + 1, -1, 0, (sgI X (i : Nat)).mx, (sgI X (i : Nat)).md, (sgI X (i : Nat)).tm, (sgI X (i : Nat)).pr, true, av2, D2, by omega, rfl, hD2, ⟨rfl, rfl, rfl, rfl, rfl, rfl, rfl, trivial⟩, by rw [← hpr, sec_s3 h19 h35 h47, h60, Bool.or_true], hl.tail⟩
      ·
       refine xp_skip rfl ?_; refine xg (by kernel_rfl) ?_; refine rr rfl (rd_load rfl rfl (loadN_of (z := 4) (by kernel_rfl) (by kernel_rfl) (hl.get 2 rfl) rfl)) ?_; refine rr rfl (rd_build rfl rfl (v := aggL (secCells (-1) 0 ma mb mc md)) (by rfl)) ?_; refine re_storeL hl 1 rfl rfl rfl rfl rfl rfl rfl (by kernel_rfl) rfl ?_; intro S1 hl; refine re_end rfl ?_; refine xg (by kernel_rfl) ?_; refine rr rfl (rd_bin rfl rfl rfl (i6 (by omega))) ?_; refine rm rfl ?_; refine re_end rfl ?_
       exact ⟨X.length - (i + 1), by omega, i + 1, -1, 0, ma, mb, mc, md, kb, av2, D2, by omega, rfl, hD2, ⟨rfl, rfl, rfl, rfl, rfl, rfl, rfl, trivial⟩, by rw [← hpr, sec_s3 h19 h35 h47, h60, Bool.or_false], hl.tail⟩
    ·
     refine xp_skip rfl ?_; refine xg (by kernel_rfl) ?_; refine rr rfl (rd_bin rfl rfl rfl (i6 (by omega))) ?_; refine rm rfl ?_; refine re_end rfl ?_
     exact ⟨X.length - (i + 1), by omega, i + 1, f, g, ma, mb, mc, md, kb, av, D, by omega, rfl, by omega, ⟨rfl, rfl, rfl, rfl, rfl, rfl, rfl, trivial⟩, by rw [← hpr, sec_s4 h19 h35 h47], hl.tail⟩
 ·
  refine xp_exit rfl ?_; refine xs (by kernel_rfl) ?_; refine rr rfl (rd_fieldAddr rfl rfl (fa Tryz.underlying84 az84 rfl)) ?_; refine rr rfl (rl hl 0 rfl rfl (by kernel_rfl) rfl rfl) ?_; refine rr rfl (rd_bin rfl rfl rfl rfl) ?_; refine re_end rfl ?_; refine xp_cond rfl rfl (fun h68 => ?_) (fun h68 => ?_)
  ·
   refine xg (by kernel_rfl) ?_; refine rm rfl ?_; refine rr rfl (rd_load rfl rfl (loadN_of (z := 8) (by kernel_rfl) (by kernel_rfl) (hl.get 0 rfl) rfl)) ?_
   refine re_callT rfl rfl rfl rfl rfl rfl rfl (ct_mono (round_sec z hz (own := [(B5, .cells (secCells f g ma mb mc md) 84 false true []), (B3, .cells [.int .i64 ma, .int .i64 mb, .int .i64 mc, .int .i64 md] 59 false true [])]) rfl (by omega) hl) ?_); rintro r S2 ⟨rfl, av2, hl⟩
   refine re_end rfl ?_
   exact done_nE rfl (sec_ret (sec_end h13 hpr) hl.tail.tail)
  ·
   refine xp_skip rfl ?_
   exact done_nE rfl (sec_ret (sec_end h13 hpr) hl.tail.tail)
end Go.Proofs.YtkmhecihkckcmaaGreatDoor
namespace Go.Proofs.YtkmhecihkckcmaaGreatDoor
open Go.Cm Go
set_option maxRecDepth 100000
variable {S : St}
theorem cc_of_ce {P : Program} {K : Known} {f : FuncId} {args : List Value} {S : St} {Q : Value → St → Prop} (h : CE P K f args S fun r S' => ∃ v, r = .returned v ∧ Q v S') : CC P K f args S Q := by
 obtain ⟨m, r, S', h1, v, rfl, h2⟩ := h
 exact ⟨m, v, S', h1, h2⟩
theorem putN_len (C W : List Sg) (f : Nat) : ∀ (n j : Nat) (D : List Sg), (putN C W f n j D).length = D.length
 | 0, _, _ => rfl
 | n + 1, j, D => by rw [putN, putN_len C W f n, List.length_set]
theorem expL_len (C : List Sg) : ∀ (l : List (Nat × Nat)) (D : List Sg), (expL C l D).1 = 0 → (expL C l D).2.length = D.length
 | [], _, _ => rfl
 | p :: r, D, h => by
  cases hb : ((ligCheck (segm C p.1 p.2)).1 != 0) with
  | true =>
   rw [expL_err hb] at h
   have h' : (ligCheck (segm C p.1 p.2)).1 = 0 := h
   rw [h'] at hb
   cases hb
  | false =>
   rw [expL_go hb] at h ⊢
   rw [expL_len C r _ h, putN_len]
theorem expE_len {nl : List UInt8} {C : List Sg} (h : (expE nl C).1 = 0) : (expE nl C).2.length = C.length := by
 cases hb : ((partE nl C).1 != 0) with
 | true =>
  rw [expE_err hb] at h
  have h' : (partE nl C).1 = 0 := h
  rw [h'] at hb
  cases hb
 | false =>
  rw [expE_ok hb] at h ⊢
  exact expL_len C _ _ h
def MensOk (D : List Sg) : Prop := ∀ i : Nat, i < D.length → (sgI D (i : Nat)).kind = 5 → noM (sgI D (i : Nat)).mx (sgI D (i : Nat)).md (sgI D (i : Nat)).tm (sgI D (i : Nat)).pr = false
theorem nth_set_eq : ∀ {D : List Sg} {i : Nat} {x : Sg}, i < D.length → nth (D.set i x) i = some x
 | [], _, _, h => by simp at h
 | y :: D, 0, x, _ => rfl
 | y :: D, i + 1, x, h => nth_set_eq (D := D) (by simpa using h)
theorem MensOk.set {D : List Sg} (h : MensOk D) (i : Nat) {x : Sg} (hx : x.kind ≠ 5) : MensOk (D.set i x) := by
 intro j hj hk
 rw [List.length_set] at hj
 by_cases e : i = j
 ·subst e
  rw [sgI_at (nth_set_eq hj)] at hk
  exact absurd hk hx
 ·rw [sgI_set_ne e] at hk ⊢
  exact h j hj hk
theorem MensOk.putN {C W : List Sg} {f : Nat} : ∀ (n j : Nat) {D : List Sg}, MensOk D → MensOk (putN C W f n j D)
 | 0, _, _, h => h
 | n + 1, j, D, h => MensOk.putN n (j + 1) (h.set _ (by show (1 : Int) ≠ 5; decide))
theorem MensOk.expL {C : List Sg} : ∀ (l : List (Nat × Nat)) {D : List Sg}, MensOk D → (expL C l D).1 = 0 → MensOk (expL C l D).2
 | [], _, h, _ => h
 | p :: r, D, h, h0 => by
  cases hb : ((ligCheck (segm C p.1 p.2)).1 != 0) with
  | true =>
   rw [expL_err hb] at h0
   have h' : (ligCheck (segm C p.1 p.2)).1 = 0 := h0
   rw [h'] at hb
   cases hb
  | false =>
   rw [expL_go hb] at h0 ⊢
   exact MensOk.expL r (MensOk.putN _ _ h) h0
theorem expE_mens {nl : List UInt8} {C : List Sg} (h : (expE nl C).1 = 0) : MensOk (expE nl C).2 := by
 cases hb : ((partE nl C).1 != 0) with
 | true =>
  rw [expE_err hb] at h
  have h' : (partE nl C).1 = 0 := h
  rw [h'] at hb
  cases hb
 | false =>
  have hC : LigOk C := ligOk (nm := nl) (by simpa using hb)
  rw [expE_ok hb] at h ⊢
  exact MensOk.expL _ (fun i hi hk => one_mens (hC.ok i hi) hk) h
def findE (nl : List UInt8) (C : List Sg) : Int := bif (expE nl C).1 != 0 then (expE nl C).1 else secE (expE nl C).2
theorem findE_err {nl : List UInt8} {C : List Sg} (h : ((expE nl C).1 != 0) = true) : findE nl C = (expE nl C).1 := by unfold findE; rw [h]; rfl
theorem findE_ok {nl : List UInt8} {C : List Sg} (h : ((expE nl C).1 != 0) = false) : findE nl C = secE (expE nl C).2 := by unfold findE; rw [h]; rfl
theorem findE_ref {nl : List UInt8} {C : List Sg} (h : ((expE nl C).1 != 0) = false) : findE nl C = madeE (expE nl C).2 := by
 rw [findE_ok h]
 exact sec_eq (expE_mens (by simpa using h))
theorem find_res {nl : List UInt8} {C : List Sg} {x : ByteArray} {a : Option Addr} {n c : Nat} {l : Value} {e : Int} (h : e = findE nl C) : ∃ x' a' n' c' l', tupV [aggL [.string x, .slice a n c], l, .int .i64 e] = tupV [aggL [.string x', .slice a' n' c'], l', .int .i64 (findE nl C)] := ⟨x, a, n, c, l, by rw [h]⟩
noncomputable def c47 : Code := Tryz.f47.body.getD .skip
theorem spec47 (x y : Value) : CC Tryz.prog KK 47 [aggL [x, y]] S (fun v S' => Keep S S' ∧ (∃ B, v = .func (.func 57) #[] #[ptrTo B 0] ∧ S.size ≤ B ∧ B < S'.size ∧ S'.get B = some (.cells [x, y] 24 false true []))) := by
 refine cc_enter (c := c47) (n := 4) Tryz.func47 rfl rfl rfl (by kernel_rfl) rfl rfl ?_
 have hl := Hold.start S
 refine xs (by kernel_rfl) ?_; refine re_boxL hl rfl rfl rfl rfl rfl rfl ?_; intro B1 S1 hl; refine rm rfl ?_; refine re_end rfl ?_; refine xs (by kernel_rfl) ?_; refine rr rfl (rd_func rfl rfl rfl) ?_; refine rm rfl ?_; refine re_end rfl ?_; refine xp_ret rfl ?_
 refine done_ret (ress_tmp rfl rfl) ⟨hl.keep, ⟨_, rfl, (hl.at_ _ _ (List.mem_cons_self ..)).2.1, (hl.at_ _ _ (List.mem_cons_self ..)).2.2, hl.get 0 rfl⟩⟩
theorem spec34 (nm : ByteArray) (a : Option Addr) (cap : Nat) (C : List Sg) (hnm : nm.data.toList.length ≤ 9223372036854775807) (hn : C.length ≤ 1000) (hG : Gl S) (hGc : Gc S) (hF : Fresh S) (hv : Signs S (.slice a C.length cap) C) : CC Tryz.prog KK 34 [aggL [.string nm, .slice a C.length cap]] S (fun v S' => Keep S S' ∧ ∃ x a' n' c' l, v = tupV [aggL [.string x, .slice a' n' c'], l, .int .i64 (findE nm.data.toList C)]) := by
 refine cc_of_ce (ce_enterD (c := c34) (n := 25) Tryz.func34 rfl rfl rfl (by kernel_rfl) rfl rfl ?_)
 have hl := Hold.start S
 refine xx_seq rfl (xx_code rfl (xd_of_xe ?_))
 refine xg (by kernel_rfl) ?_; refine re_boxL hl rfl rfl rfl rfl rfl rfl ?_; intro B1 S1 hl; refine re_allocL hl rfl rfl rfl rfl rfl (z := [.string ⟨#[]⟩, .slice none 0 0]) (by kernel_rfl) ?_; intro B2 S2 hl; refine re_allocL hl rfl rfl rfl rfl rfl (z := [.slice none 0 0]) (by kernel_rfl) ?_; intro B3 S3 hl; refine re_allocL hl rfl rfl rfl rfl rfl (z := [.int .i64 0]) (by kernel_rfl) ?_; intro B4 S4 hl; refine re_end rfl ?_
 refine xx_seq rfl (xx_code rfl (xd_of_xe ?_))
 refine xg (by kernel_rfl) ?_; refine rr rfl (rd_load rfl rfl (loadN_of (z := 2) (by kernel_rfl) (by kernel_rfl) (hl.get 3 rfl) rfl)) ?_
 refine re_callL hl rfl rfl rfl rfl rfl rfl rfl (spec45 nm a cap C hnm hn (hG.keep hl.keep) (hl.keep.3 hF) (hv.move (hl.since 0 rfl))) ?_; rintro v S5 hk5 ⟨nm', aX, cX, rfl, hvX⟩ hl
 have hl := hl.mark
 iterate 3 refine rm rfl ?_
 refine re_storeL hl 2 rfl rfl rfl rfl rfl rfl rfl (by kernel_rfl) rfl ?_; intro S1 hl; refine re_storeL hl 0 rfl rfl rfl rfl rfl rfl rfl (by kernel_rfl) rfl ?_; intro S1 hl; refine re_end rfl ?_; refine xx_seq rfl ?_
 refine xx_seq rfl (xx_code rfl (xd_of_xe ?_))
 refine xg (by kernel_rfl) ?_; refine rr rfl (rl hl 0 rfl rfl (by kernel_rfl) rfl rfl) ?_; refine rr rfl (rd_bin rfl rfl rfl rfl) ?_; refine re_end rfl ?_; refine xx_cond rfl rfl (fun h12 => ?_) (fun h12 => ?_)
 ·
  refine xx_seq rfl (xx_code rfl (xd_of_xe ?_))
  refine xp_draw (idx := [0, 1, 2, 3, 4]) rfl (by kernel_rfl) (by kernel_rfl) ?_; refine pk rfl (rd_load rfl rfl (loadN_of (z := 2) (by kernel_rfl) (by kernel_rfl) (hl.get 2 rfl) rfl)) ?_; refine pk rfl (rl hl 0 rfl rfl (by kernel_rfl) rfl rfl) ?_
  refine rp_storeL hl 2 rfl rfl rfl rfl rfl rfl rfl (by kernel_rfl) rfl ?_; intro S1 hl; refine ⟨stays_of ⟨stays_load (X := True) rfl rfl (load1_of (by kernel_rfl) (hl.get 0 rfl) rfl) (same_atom (atom_int _ _)) rfl trivial, stays_load (X := True) rfl rfl (loadN_of (z := 2) (by kernel_rfl) (by kernel_rfl) (hl.get 2 rfl) rfl) (same_agg rfl (atoms_cons (atom_string _) (atoms_cons (atom_slice _ _ _) atoms_nil))) rfl trivial, trivial⟩, ?_⟩
  refine rp_storeL hl 1 rfl rfl rfl rfl rfl rfl rfl (by kernel_rfl) rfl ?_; intro S1 hl; refine ⟨stays_of (allE_left ⟨stays_load (X := True) rfl rfl (load1_of (by kernel_rfl) (hl.get 0 rfl) rfl) (same_atom (atom_int _ _)) rfl trivial, stays_load (X := True) rfl rfl (loadN_of (z := 2) (by kernel_rfl) (by kernel_rfl) (hl.get 2 rfl) rfl) (same_agg rfl (atoms_cons (atom_string _) (atoms_cons (atom_slice _ _ _) atoms_nil))) rfl trivial, trivial⟩), ?_⟩
  refine rp_storeL hl 0 rfl rfl rfl rfl rfl rfl rfl (by kernel_rfl) rfl ?_; intro S1 hl; refine ⟨stays_of (allE_left (allE_left ⟨stays_load (X := True) rfl rfl (load1_of (by kernel_rfl) (hl.get 0 rfl) rfl) (same_atom (atom_int _ _)) rfl trivial, stays_load (X := True) rfl rfl (loadN_of (z := 2) (by kernel_rfl) (by kernel_rfl) (hl.get 2 rfl) rfl) (same_agg rfl (atoms_cons (atom_string _) (atoms_cons (atom_slice _ _ _) atoms_nil))) rfl trivial, trivial⟩)), ?_⟩
  refine rp_end rfl ?_
  refine xx_code rfl (xd_of_xe (xp_ret rfl ?_))
  exact lv_nil ⟨_, ress_cell rfl (loadN_of (z := 2) (by kernel_rfl) (by kernel_rfl) (hl.get 2 rfl) rfl) (ress_cell rfl (load1_of (by kernel_rfl) (hl.get 1 rfl) rfl) (ress_cell rfl (load1_of (by kernel_rfl) (hl.get 0 rfl) rfl) rfl)), _, rfl, hl.keep, find_res (findE_err h12).symm⟩
 refine xx_code rfl (xd_of_xe (xp_skip rfl ?_))
 have h0 : (expE nm.data.toList C).1 = 0 := by simpa using h12
 have hXn := expE_len h0
 have hfe := findE_ok h12
 rw [h0] at hl
 generalize (expE nm.data.toList C).2 = X at hvX hl hXn hfe
 refine xx_seq rfl ?_; refine xx_defer rfl rfl (by kernel_rfl) ?_; refine red_rd rfl rfl rfl rfl (rd_func rfl rfl rfl) ?_; refine red_defer rfl rfl rfl rfl rfl rfl ?_; refine red_end rfl ?_; refine xx_seq rfl ?_
 refine xx_seq rfl (xx_code rfl (xd_of_xe ?_))
 refine xg (by kernel_rfl) ?_; refine rr rfl (rd_load rfl rfl (loadN_of (z := 2) (by kernel_rfl) (by kernel_rfl) (hl.get 2 rfl) rfl)) ?_
 have hl0 := hl
 refine re_callL hl rfl rfl rfl rfl rfl rfl rfl (spec47 _ _) ?_; rintro v S6 hk6 ⟨bp, rfl, hb1, hb2, hb3⟩ hl
 have hl := hl.add hl0.below hl0.keep hb1 hb2 hb3
 refine re_end rfl ?_
 refine xx_code rfl (xdp_block rfl (xd_range rfl rfl rfl (by kernel_rfl) ?_))
 intro t ht
 have hl := ((hl.new (.defs false)).new (.loop .ready none 25 t (rgP rf) (rgA rf) (rgB rf) S6.size)).marks (Us := [S5]) (fun T hT => by rw [List.mem_singleton.1 hT]; exact List.mem_cons_self ..)
 have hl := hl.perm (List.perm_append_comm (l₁ := [_, _, _]))
 have hl := hl.addG (g := gS none []) (.inl ⟨rfl, rfl, rfl⟩)
 let z : Fr := ⟨S6.size + 1, S6.size, bp, B1, B2, B3, B4, t, [.string nm, .slice a C.length cap], [.string nm', .slice aX X.length cX], [.string nm', .slice aX X.length cX], .int .i64 0⟩
 refine ct_mono (ct_func (spec57 z (ht.sub (L' := [(3, ptrTo B3 0)]) ⟨rfl, trivial⟩) nm' aX cX X rfl (by omega) hGc hvX (av0 := none) hl)) ?_
 rintro r S7 ⟨av, D, hl, hr⟩
 rcases hr with ⟨rfl, hs⟩ | ⟨q, hne, rfl⟩
 ·
  refine ⟨_, _, _, _, _, _, _, _, hl.get 4 rfl, rfl, ?_⟩
  have hl := hl.put (k := 4) rfl rfl (.loop .exhausted none 25 t (rgP rf) (rgA rf) (rgB rf) S6.size)
  refine xx_seq rfl (xx_code rfl (xd_of_xe ?_))
  refine xp_draw (idx := [0, 1, 2, 3, 4]) rfl (by kernel_rfl) (by kernel_rfl) ?_; refine pk rfl (rd_load rfl rfl (loadN_of (z := 2) (by kernel_rfl) (by kernel_rfl) (hl.get 2 rfl) rfl)) ?_; refine pk rfl (rl hl 1 rfl rfl (by kernel_rfl) rfl rfl) ?_
  refine rp_storeL hl 2 rfl rfl rfl rfl rfl rfl rfl (by kernel_rfl) rfl ?_; intro S1 hl; refine ⟨stays_of ⟨stays_load (X := True) rfl rfl (load1_of (by kernel_rfl) (hl.get 1 rfl) rfl) (same_atom (atom_slice _ _ _)) rfl trivial, stays_load (X := True) rfl rfl (loadN_of (z := 2) (by kernel_rfl) (by kernel_rfl) (hl.get 2 rfl) rfl) (same_agg rfl (atoms_cons (atom_string _) (atoms_cons (atom_slice _ _ _) atoms_nil))) rfl trivial, trivial⟩, ?_⟩
  refine rp_storeL hl 1 rfl rfl rfl rfl rfl rfl rfl (by kernel_rfl) rfl ?_; intro S1 hl; refine ⟨stays_of (allE_left ⟨stays_load (X := True) rfl rfl (load1_of (by kernel_rfl) (hl.get 1 rfl) rfl) (same_atom (atom_slice _ _ _)) rfl trivial, stays_load (X := True) rfl rfl (loadN_of (z := 2) (by kernel_rfl) (by kernel_rfl) (hl.get 2 rfl) rfl) (same_agg rfl (atoms_cons (atom_string _) (atoms_cons (atom_slice _ _ _) atoms_nil))) rfl trivial, trivial⟩), ?_⟩
  refine rp_storeL hl 0 rfl rfl rfl rfl rfl rfl rfl (by kernel_rfl) rfl ?_; intro S1 hl; refine ⟨stays_of (allE_left (allE_left ⟨stays_load (X := True) rfl rfl (load1_of (by kernel_rfl) (hl.get 1 rfl) rfl) (same_atom (atom_slice _ _ _)) rfl trivial, stays_load (X := True) rfl rfl (loadN_of (z := 2) (by kernel_rfl) (by kernel_rfl) (hl.get 2 rfl) rfl) (same_agg rfl (atoms_cons (atom_string _) (atoms_cons (atom_slice _ _ _) atoms_nil))) rfl trivial, trivial⟩)), ?_⟩
  refine rp_end rfl ?_
  refine xx_code rfl (xd_of_xe (xp_ret rfl ?_))
  refine lv_mark (hl.get 5 rfl) ?_
  have hl := hl.put (k := 5) rfl rfl (.defs true)
  refine lv_func ?_
  obtain ⟨m, md, S8, e1, rfl, hl⟩ := dd_ret (e := 0) (q := 0) hF hl ⟨_, _, rfl⟩
  refine ⟨m, _, S8, e1, lv_nil ⟨_, ress_cell rfl (loadN_of (z := 2) (by kernel_rfl) (by kernel_rfl) (hl.get 2 rfl) rfl) (ress_cell rfl (load1_of (by kernel_rfl) (hl.get 1 rfl) rfl) (ress_cell rfl (load1_of (by kernel_rfl) (hl.get 0 rfl) rfl) rfl)), _, rfl, hl.keep, find_res ?_⟩⟩
  rw [hfe, hs]
 ·
  refine lv_mark (hl.get 5 rfl) ?_
  have hl := hl.put (k := 5) rfl rfl (.defs true)
  refine lv_func ?_
  obtain ⟨m, md, S8, e1, rfl, hl⟩ := dd_pan (e := secE X) (q := q) hF hl ⟨_, _, rfl⟩
  refine ⟨m, _, S8, e1, lv_nil ⟨_, ress_cell rfl (loadN_of (z := 2) (by kernel_rfl) (by kernel_rfl) (hl.get 2 rfl) rfl) (ress_cell rfl (load1_of (by kernel_rfl) (hl.get 1 rfl) rfl) (ress_cell rfl (load1_of (by kernel_rfl) (hl.get 0 rfl) rfl) rfl)), _, rfl, hl.keep, find_res hfe.symm⟩⟩
end Go.Proofs.YtkmhecihkckcmaaGreatDoor
namespace Go.Proofs.YtkmhecihkckcmaaGreatDoor
open Go.Cm Go
set_option maxRecDepth 100000
variable {S : St}
theorem resW {l : Value} {e e' : Int} (h : e = e') : ∃ l', tupV [l, .int .i64 e] = tupV [l', .int .i64 e'] := ⟨l, by rw [h]⟩
theorem lenB {C : List Sg} {n : Nat} (h : n = C.length) (hn : C.length ≤ 1000) : n ≤ 1000 := by omega
noncomputable def c20 : Code := Tryz.f20.body.getD .skip
theorem spec20 (nm : ByteArray) (a : Option Addr) (cap : Nat) (C : List Sg) (hnm : nm.data.toList.length ≤ 9223372036854775807) (hn : C.length ≤ 1000) (hG : Gl S) (hGc : Gc S) (hF : Fresh S) (hv : Signs S (.slice a C.length cap) C) : CC Tryz.prog KK 20 [aggL [.string nm, .slice a C.length cap]] S (fun v S' => Keep S S' ∧ (∃ l, v = tupV [l, .int .i64 (findE nm.data.toList C)])) := by
 refine cc_enter (c := c20) (n := 15) Tryz.func20 rfl rfl rfl (by kernel_rfl) rfl rfl ?_
 have hl := Hold.start S
 refine xs (by kernel_rfl) ?_; refine re_boxL hl rfl rfl rfl rfl rfl rfl ?_; intro B1 S1 hl; iterate 2 refine rm rfl ?_
 refine re_end rfl ?_; refine xs (by kernel_rfl) ?_; refine rr rfl (rd_load rfl rfl (loadN_of (z := 2) (by kernel_rfl) (by kernel_rfl) (hl.get 0 rfl) rfl)) ?_
 refine re_callL hl rfl rfl rfl rfl rfl rfl rfl (spec34 nm a cap C hnm hn (hG.keep hl.keep) (hGc.keep hl.keep) (hl.keep.3 hF) (hv.move (hl.since 0 rfl))) ?_; rintro v S1 hk1 ⟨x, a1, n1, c1, l, rfl⟩ hl
 iterate 4 refine rm rfl ?_
 refine re_allocL hl rfl rfl rfl rfl rfl (z := [.string ⟨#[]⟩, .slice none 0 0]) (by kernel_rfl) ?_; intro B4 S4 hl; refine re_storeL hl 0 rfl rfl rfl rfl rfl rfl rfl (by kernel_rfl) rfl ?_; intro S1 hl; iterate 2 refine rm rfl ?_
 refine re_end rfl ?_; refine xs (by kernel_rfl) ?_; iterate 4 refine rm rfl ?_
 refine re_end rfl ?_; refine xp_ret rfl ?_
 refine done_ret (ress_tmp rfl (ress_tmp rfl rfl)) ⟨hl.keep, resW rfl⟩
noncomputable def c38 : Code := Tryz.f38.body.getD .skip
theorem spec38 (nm : ByteArray) (a : Option Addr) (cap : Nat) (C : List Sg) (hnm : nm.data.toList.length ≤ 9223372036854775807) (hn : C.length ≤ 1000) (hF : Fresh S) (hv : Signs S (.slice a C.length cap) C) : CC Tryz.prog KK 38 [aggL [.string nm, .slice a C.length cap]] S (fun v S' => Keep S S' ∧ (∃ l, v = tupV [l, .int .i64 (findE nm.data.toList C)])) := by
 refine cc_enter (c := c38) (n := 18) Tryz.func38 rfl rfl rfl (by kernel_rfl) rfl rfl ?_
 have hl := Hold.start S
 refine xs (by kernel_rfl) ?_; refine re_boxL hl rfl rfl rfl rfl rfl rfl ?_; intro B1 S1 hl; iterate 2 refine rm rfl ?_
 refine re_end rfl ?_; refine xs (by kernel_rfl) ?_; refine rr rfl (rd_load rfl rfl (loadN_of (z := 2) (by kernel_rfl) (by kernel_rfl) (hl.get 0 rfl) rfl)) ?_
 refine re_callL hl rfl rfl rfl rfl rfl rfl rfl (spec49 nm a cap C hnm hn (hl.keep.3 hF) (hv.move (hl.since 0 rfl))) ?_; rintro v S1 hk1 ⟨nm', aX, cX, rfl, hvX⟩ hl; have hl := hl.mark
 iterate 3 refine rm rfl ?_
 refine re_allocL hl rfl rfl rfl rfl rfl (z := [.string ⟨#[]⟩, .slice none 0 0]) (by kernel_rfl) ?_; intro B4 S4 hl; refine re_storeL hl 0 rfl rfl rfl rfl rfl rfl rfl (by kernel_rfl) rfl ?_; intro S1 hl; refine rm rfl ?_; refine re_end rfl ?_; refine xp_seq rfl ?_; refine xs (by kernel_rfl) ?_; refine rm rfl ?_; refine rr rfl (rd_bin rfl rfl rfl rfl) ?_; refine re_end rfl ?_; refine xp_cond rfl rfl (fun h12 => ?_) (fun h12 => ?_)
 ·
  refine xs (by kernel_rfl) ?_; iterate 3 refine rm rfl ?_
  refine re_end rfl ?_; refine xp_ret rfl ?_
  refine thn_ret (done_ret (ress_tmp rfl (ress_tmp rfl rfl)) ⟨hl.keep, resW (findE_err h12).symm⟩)
 ·
  refine xp_skip rfl ?_; refine xs (by kernel_rfl) ?_; refine rr rfl (rd_load rfl rfl (loadN_of (z := 2) (by kernel_rfl) (by kernel_rfl) (hl.get 0 rfl) rfl)) ?_
  refine re_callL hl rfl rfl rfl rfl rfl rfl rfl (spec50 nm' aX cX (expE nm.data.toList C).2 (lenB (expE_len (by simpa using h12)) hn) (hvX.move (hl.since 0 rfl))) ?_; rintro v S1 hk1 ⟨w, rfl⟩ hl
  iterate 4 refine rm rfl ?_
  refine re_end rfl ?_; refine xp_ret rfl ?_
  refine done_ret (ress_tmp rfl (ress_tmp rfl rfl)) ⟨hl.keep, resW (findE_ref h12).symm⟩
noncomputable def c23 : Code := Tryz.f23.body.getD .skip
theorem spec23 (nm : ByteArray) (a : Option Addr) (cap : Nat) (C : List Sg) (hnm : nm.data.toList.length ≤ 9223372036854775807) (hn : C.length ≤ 1000) (hF : Fresh S) (hv : Signs S (.slice a C.length cap) C) : CC Tryz.prog KK 23 [aggL [.string nm, .slice a C.length cap]] S (fun v S' => Keep S S' ∧ v = .int .i64 (findE nm.data.toList C)) := by
 refine cc_enter (c := c23) (n := 11) Tryz.func23 rfl rfl rfl (by kernel_rfl) rfl rfl ?_
 have hl := Hold.start S
 refine xs (by kernel_rfl) ?_; refine re_boxL hl rfl rfl rfl rfl rfl rfl ?_; intro B1 S1 hl; refine rm rfl ?_; refine re_end rfl ?_; refine xs (by kernel_rfl) ?_; refine rr rfl (rd_load rfl rfl (loadN_of (z := 2) (by kernel_rfl) (by kernel_rfl) (hl.get 0 rfl) rfl)) ?_
 refine re_callL hl rfl rfl rfl rfl rfl rfl rfl (spec38 nm a cap C hnm hn (hl.keep.3 hF) (hv.move (hl.since 0 rfl))) ?_; rintro v S1 hk1 ⟨l, rfl⟩ hl
 iterate 5 refine rm rfl ?_
 refine re_end rfl ?_; refine xs (by kernel_rfl) ?_; iterate 2 refine rm rfl ?_
 refine re_end rfl ?_; refine xp_ret rfl ?_
 refine done_ret (ress_tmp rfl rfl) ⟨hl.keep, rfl⟩
end Go.Proofs.YtkmhecihkckcmaaGreatDoor
namespace Go.Proofs.YtkmhecihkckcmaaGreatDoor
open Go.Cm Go
set_option maxRecDepth 100000
variable {S : St}
def prv (L : List Bk) : Nat → Option Bk
 | 0 => none
 | j + 1 => nth L j
def badO (L : List Bk) (i : Nat) (x : Bk) : Bool := match prv L i with
 | none => false
 | some y => decide (bkCmp y x ≥ 0)
def checkE (nl : List UInt8) (C : List Sg) (L : List Bk) : Int × Int := bif findE nl C != 0 then (findE nl C, 0) else bksE C none L 0
theorem checkE_err {nl : List UInt8} {C : List Sg} {L : List Bk} (h : (findE nl C != 0) = true) : checkE nl C L = (findE nl C, 0) := by unfold checkE; rw [h]; rfl
theorem checkE_ok {nl : List UInt8} {C : List Sg} {L : List Bk} (h : (findE nl C != 0) = false) : checkE nl C L = bksE C none L 0 := by unfold checkE; rw [h]; rfl
theorem drop_nthB : ∀ {l : List Bk} {i : Nat} {x : Bk}, nth l i = some x → l.drop i = x :: l.drop (i + 1)
 | [], _, _, h => by cases h
 | y :: l, 0, x, h => by cases h; rfl
 | y :: l, i + 1, x, h => by simpa using drop_nthB (l := l) (i := i) h
theorem bks_cons {C : List Sg} {p : Option Bk} {x : Bk} {r : List Bk} {i : Nat} : bksE C p (x :: r) i = bif bkE C x != 0 then (bkE C x, (i : Int)) else (match p with
  | none => bksE C (some x) r (i + 1)
  | some y => bif decide (bkCmp y x ≥ 0) then (6, (i : Int)) else bksE C (some x) r (i + 1)) := by cases p <;> rfl
theorem bks_1 {C : List Sg} {L : List Bk} {i : Nat} {x : Bk} (hx : nth L i = some x) (h : (bkE C x != 0) = true) : bksE C (prv L i) (L.drop i) i = (bkE C x, (i : Int)) := by
 rw [drop_nthB hx, bks_cons, h]; rfl
theorem bks_2 {C : List Sg} {L : List Bk} {i : Nat} {x : Bk} (hx : nth L i = some x) (h : (bkE C x != 0) = false) (h2 : badO L i x = true) : bksE C (prv L i) (L.drop i) i = (6, (i : Int)) := by
 rw [drop_nthB hx, bks_cons, h]
 unfold badO at h2
 split at h2
 ·cases h2
 ·simp only [h2, cond_true, cond_false]
theorem bks_3 {C : List Sg} {L : List Bk} {i : Nat} {x : Bk} (hx : nth L i = some x) (h : (bkE C x != 0) = false) (h2 : badO L i x = false) : bksE C (prv L i) (L.drop i) i = bksE C (prv L (i + 1)) (L.drop (i + 1)) (i + 1) := by
 rw [drop_nthB hx, bks_cons, h, show prv L (i + 1) = some x from hx]
 unfold badO at h2
 split at h2
 ·rfl
 ·simp only [h2, cond_false]
theorem bks_end {C : List Sg} {L : List Bk} {i : Nat} {p : Option Bk} (h : L.length ≤ i) : bksE C p (L.drop i) i = (0, 0) := by rw [List.drop_eq_nil_of_le h, bksE]
theorem bad_some {L : List Bk} {j : Nat} {x y : Bk} (hy : nth L j = some y) : badO L (j + 1) x = decide (bkCmp y x ≥ 0) := by unfold badO; rw [show prv L (j + 1) = some y from hy]
theorem bad_none {L : List Bk} {i : Nat} {x : Bk} (h : decide ((i : Int) > 0) = false) : badO L i x = false := by
 cases i with
 | zero => rfl
 | succ j => simp at h
theorem prv_pos {L : List Bk} {i : Nat} (h : decide ((i : Int) > 0) = true) (hi : i < L.length) : ∃ j y, i = j + 1 ∧ nth L j = some y := by
 have h := of_decide_eq_true h
 obtain ⟨y, hy⟩ := nth_some (show i - 1 < L.length by omega)
 exact ⟨i - 1, y, by omega, hy⟩
theorem tup2 {p q : Int × Int} (h : q = p) : tupV [.int .i64 p.1, .int .i64 p.2] = tupV [.int .i64 q.1, .int .i64 q.2] := by rw [h]
noncomputable def c6 : Code := Tryz.f6.body.getD .skip
theorem spec6 (nm : ByteArray) (a : Option Addr) (cap : Nat) (C : List Sg) (aL : Option Addr) (capL : Nat) (L : List Bk) (hnm : nm.data.toList.length ≤ 9223372036854775807) (hn : C.length ≤ 1000) (hL : L.length ≤ 1000) (hG : Gl S) (hGc : Gc S) (hF : Fresh S) (hv : Signs S (.slice a C.length cap) C) (hb : Bks S (.slice aL L.length capL) L) : CC Tryz.prog KK 6 [aggL [.string nm, .slice a C.length cap], .slice aL L.length capL] S (fun v S' => Keep S S' ∧ v = tupV [.int .i64 (checkE nm.data.toList C L).1, .int .i64 (checkE nm.data.toList C L).2]) := by
 refine cc_enter (c := c6) (n := 48) Tryz.func6 rfl rfl rfl (by kernel_rfl) rfl rfl ?_
 have hl := Hold.start S
 refine xs (by kernel_rfl) ?_; refine re_boxL hl rfl rfl rfl rfl rfl rfl ?_; intro B2 S2 hl; iterate 2 refine rm rfl ?_
 refine re_end rfl ?_; refine xp_seq rfl ?_; refine xs (by kernel_rfl) ?_; refine rr rfl (rd_load rfl rfl (loadN_of (z := 2) (by kernel_rfl) (by kernel_rfl) (hl.get 0 rfl) rfl)) ?_
 refine re_callL hl rfl rfl rfl rfl rfl rfl rfl (spec20 nm a cap C hnm hn (hG.keep hl.keep) (hGc.keep hl.keep) (hl.keep.3 hF) (hv.move (hl.since 0 rfl))) ?_; rintro v S1 hk1 ⟨l0, rfl⟩ hl
 iterate 5 refine rm rfl ?_
 refine re_end rfl ?_; refine xs (by kernel_rfl) ?_; refine rm rfl ?_; refine rr rfl (rd_bin rfl rfl rfl rfl) ?_; refine re_end rfl ?_; refine xp_cond rfl rfl (fun h17 => ?_) (fun h17 => ?_)
 ·
  refine xs (by kernel_rfl) ?_; iterate 3 refine rm rfl ?_
  refine re_end rfl ?_; refine xp_ret rfl ?_
  refine thn_ret (done_ret (ress_tmp rfl (ress_tmp rfl rfl)) ⟨hl.keep, tup2 (checkE_err h17)⟩)
 ·
  refine xp_skip rfl ?_; refine xp_seq rfl ?_; refine xs (by kernel_rfl) ?_; refine rm rfl ?_; refine rr rfl (rd_len rfl rfl (len_slice Tryz.underlying25)) ?_; refine rm rfl ?_; refine re_end rfl ?_; refine xp_block rfl ?_
  -- LOOP
  have hck := checkE_ok (L := L) h17
  refine xe_sub (L' := [(21, .int .i64 0), (20, .int .i64 L.length), (19, .slice aL L.length capL), (2, ptrTo B2 0), (1, .slice aL L.length capL)]) ⟨rfl, rfl, rfl, rfl, rfl, trivial⟩ ?_
  refine xp_loop rfl (fun m Le S' => ∃ i : Nat, i ≤ L.length ∧ m = L.length - i ∧ SubE [(21, .int .i64 (i : Int)), (20, .int .i64 L.length), (19, .slice aL L.length capL), (2, ptrTo B2 0), (1, .slice aL L.length capL)] Le ∧ bksE C (prv L i) (L.drop i) i = bksE C none L 0 ∧ HoldG S [S] S' [(B2, .cells [.string nm, .slice a C.length cap] 24 false true [])] []) ?_ (m := L.length) ⟨0, by omega, by omega, ⟨rfl, rfl, rfl, rfl, rfl, trivial⟩, rfl, hl⟩
  clear hl; rintro m Le S' ⟨i, hi, rfl, hsub, hpr, hl⟩; refine xe_sub hsub ?_
  refine xs (by kernel_rfl) ?_; refine rr rfl (rd_bin rfl rfl rfl rfl) ?_; refine re_end rfl ?_; refine xp_seq rfl ?_; refine xp_cond rfl rfl (fun h22 => ?_) (fun h22 => ?_)
  ·
   have hlt : i < L.length := by have := of_decide_eq_true h22; omega
   obtain ⟨x, hx⟩ := nth_some hlt
   obtain ⟨b1, o1, cs1, ha1, _, hrow1, htk1⟩ := hb.elem hx
   refine xp_skip rfl ?_; refine xp_seq rfl ?_; refine xp_block rfl ?_; refine xs (by kernel_rfl) ?_; refine rm rfl ?_; refine rr rfl (rd_indexAddr rfl rfl rfl (indexAddr_sl (z := 3) ha1 Tryz.underlying25 (by kernel_rfl) ⟨by omega, by omega⟩)) ?_; refine rr rfl (rd_load rfl rfl (loadN_row (z := 3) (by kernel_rfl) (by kernel_rfl) (row_move (hl.since 0 rfl) hrow1) htk1)) ?_; refine re_allocL hl rfl rfl rfl rfl rfl (z := [.int .i64 0, .int .i64 0, .int .i64 0]) (by kernel_rfl) ?_; intro B9 S9 hl; refine rm rfl ?_; refine re_storeL hl 0 rfl rfl rfl rfl rfl rfl rfl (by kernel_rfl) rfl ?_; intro S1 hl
   refine re_end rfl ?_; refine xp_seq rfl ?_; refine xs (by kernel_rfl) ?_; refine rr rfl (rd_fieldAddr rfl rfl (fa Tryz.underlying24 az24 rfl)) ?_; refine rr rfl (rl hl 1 rfl rfl (by kernel_rfl) rfl rfl) ?_; refine rr rfl (rd_load rfl rfl (loadN_of (z := 3) (by kernel_rfl) (by kernel_rfl) (hl.get 0 rfl) rfl)) ?_
   refine re_callL hl rfl rfl rfl rfl rfl rfl rfl (spec21 a cap C x hn (hv.move (hl.since 0 rfl))) ?_; rintro v S1 hk1 rfl hl
   refine rm rfl ?_; refine re_end rfl ?_; refine xs (by kernel_rfl) ?_; refine rm rfl ?_; refine rr rfl (rd_bin rfl rfl rfl rfl) ?_; refine re_end rfl ?_; refine xp_cond rfl rfl (fun h31 => ?_) (fun h31 => ?_)
   ·
    refine xs (by kernel_rfl) ?_; iterate 4 refine rm rfl ?_
    refine re_end rfl ?_; refine xp_ret rfl ?_
    refine thn_ret (blk_ret (thn_ret (round_ret (blk_ret (thn_ret (done_ret (ress_tmp rfl (ress_tmp rfl rfl)) ⟨hl.keep, tup2 (q := checkE nm.data.toList C L) (p := (bkE C x, (i : Int))) (by rw [hck, ← hpr, bks_1 hx h31])⟩))))))
   ·
    refine xp_skip rfl ?_; refine xp_seq rfl (xe_toE hl 45 (.bool (badO L i x)) ?_ rfl ?_)
    ·
     refine xp_draw (idx := [0, 1, 2, 3, 4, 5, 6, 7, 8, 9, 10, 11]) rfl (by kernel_rfl) (by kernel_rfl) ?_; refine pm rfl ?_; refine pr rfl (rd_bin rfl rfl rfl rfl) ?_; refine pm rfl ?_; refine rp_bool (d := 36) rfl (fun h36 => ?_) (fun h36 => ?_)
     ·
      obtain ⟨j, y, rfl, hy⟩ := prv_pos h36 hlt
      obtain ⟨b3, o3, cs3, ha3, _, hrow3, htk3⟩ := hb.elem hy
      iterate 2 refine pm rfl ?_
      refine pr rfl (rd_bin rfl rfl rfl (congrArg some (congrArg (Value.int .i64) ((IntWalk.i64_in _ (by omega)).trans (show (((j + 1 : Nat) : Int) - 1) = (j : Int) by omega))))) ?_; refine pr rfl (rd_indexAddr rfl rfl rfl (indexAddr_sl (z := 3) ha3 Tryz.underlying25 (by kernel_rfl) ⟨by omega, by omega⟩)) ?_; refine pk rfl (rd_load rfl rfl (loadN_row (z := 3) (by kernel_rfl) (by kernel_rfl) (row_move (hl.since 0 rfl) hrow3) htk3)) ?_; refine pk rfl (rd_load rfl rfl (loadN_of (z := 3) (by kernel_rfl) (by kernel_rfl) (hl.get 0 rfl) rfl)) ?_
      refine rp_callL hl rfl rfl rfl rfl rfl rfl rfl (spec22 y x (hl.keep.3 hF)) ?_; rintro v S1 hk1 rfl hl; refine ⟨stays_all (by kernel_rfl), ?_⟩
      refine pr rfl (rd_bin rfl rfl rfl rfl) ?_; refine pm rfl ?_; refine rp_end rfl ?_
      exact ⟨rfl, bl ((bad_some hy).symm), by repeat (first | exact subL_refl _ | refine subL_skip rfl ?_), hl⟩
     ·
      iterate 8 refine pz rfl ?_
      refine pm rfl ?_; refine rp_end rfl ?_
      exact ⟨rfl, bl (bad_none h36).symm, by repeat (first | exact subL_refl _ | refine subL_skip rfl ?_), hl⟩
    intro S1 hl
    refine xp_cond rfl rfl (fun h45 => ?_) (fun h45 => ?_)
    ·
     refine xs (by kernel_rfl) ?_; iterate 3 refine rm rfl ?_
     refine re_end rfl ?_; refine xp_ret rfl ?_
     refine blk_ret (thn_ret (round_ret (blk_ret (thn_ret (done_ret (ress_tmp rfl (ress_tmp rfl rfl)) ⟨hl.keep, tup2 (q := checkE nm.data.toList C L) (p := (6, (i : Int))) (by rw [hck, ← hpr, bks_2 hx h31 h45])⟩)))))
    ·
     refine xp_skip rfl ?_; refine xg (by kernel_rfl) ?_; refine rr rfl (rd_bin rfl rfl rfl (i6 (by omega))) ?_; refine rm rfl ?_; refine re_end rfl ?_
     exact ⟨L.length - (i + 1), by omega, i + 1, by omega, rfl, ⟨rfl, rfl, rfl, rfl, rfl, trivial⟩, by rw [← hpr]; exact (bks_3 hx h31 h45).symm, hl.tail⟩
  ·
   refine xp_exit rfl ?_; refine xs (by kernel_rfl) ?_; iterate 2 refine rm rfl ?_
   refine re_end rfl ?_; refine xp_ret rfl ?_
   refine done_ret (ress_tmp rfl (ress_tmp rfl rfl)) ⟨hl.keep, tup2 (q := checkE nm.data.toList C L) (p := (0, 0)) (by rw [hck, ← hpr, bks_end (by have := of_decide_eq_false h22; omega)])⟩
end Go.Proofs.YtkmhecihkckcmaaGreatDoor
namespace Go.Proofs.YtkmhecihkckcmaaGreatDoor
open Go.Cm Go
set_option maxRecDepth 100000
variable {S : St}
noncomputable def c7 : Code := Tryz.f7.body.getD .skip
theorem spec7 (nm : ByteArray) (a : Option Addr) (cap : Nat) (C : List Sg) (aL : Option Addr) (capL : Nat) (L : List Bk) (hnm : nm.data.toList.length ≤ 9223372036854775807) (hn : C.length ≤ 1000) (hL : L.length ≤ 1000) (hF : Fresh S) (hv : Signs S (.slice a C.length cap) C) (hb : Bks S (.slice aL L.length capL) L) : CC Tryz.prog KK 7 [aggL [.string nm, .slice a C.length cap], .slice aL L.length capL] S (fun v S' => Keep S S' ∧ v = tupV [.int .i64 (checkE nm.data.toList C L).1, .int .i64 (checkE nm.data.toList C L).2]) := by
 refine cc_enter (c := c7) (n := 101) Tryz.func7 rfl rfl rfl (by kernel_rfl) rfl rfl ?_
 have hl := Hold.start S
 refine xs (by kernel_rfl) ?_; refine re_boxL hl rfl rfl rfl rfl rfl rfl ?_; intro B2 S2 hl; iterate 2 refine rm rfl ?_
 refine re_end rfl ?_; refine xs (by kernel_rfl) ?_; refine rr rfl (rd_load rfl rfl (loadN_of (z := 2) (by kernel_rfl) (by kernel_rfl) (hl.get 0 rfl) rfl)) ?_
 refine re_callL hl rfl rfl rfl rfl rfl rfl rfl (spec23 nm a cap C hnm hn (hl.keep.3 hF) (hv.move (hl.since 0 rfl))) ?_; rintro v S1 hk1 rfl hl
 refine rm rfl ?_; refine re_end rfl ?_; refine xp_seq rfl ?_; refine xs (by kernel_rfl) ?_; refine rm rfl ?_; refine rr rfl (rd_bin rfl rfl rfl rfl) ?_; refine re_end rfl ?_; refine xp_cond rfl rfl (fun h12 => ?_) (fun h12 => ?_)
 ·
  refine xs (by kernel_rfl) ?_; iterate 3 refine rm rfl ?_
  refine re_end rfl ?_; refine xp_ret rfl ?_
  refine thn_ret (done_ret (ress_tmp rfl (ress_tmp rfl rfl)) ⟨hl.keep, tup2 (checkE_err h12)⟩)
 ·
  refine xp_skip rfl ?_; refine xp_seq rfl ?_; refine xs (by kernel_rfl) ?_; refine rm rfl ?_; refine re_end rfl ?_; refine xp_block rfl ?_
  -- LOOP
  have hck := checkE_ok (L := L) h12
  refine xe_sub (L' := [(7, .int .i64 0), (2, ptrTo B2 0), (1, .slice aL L.length capL)]) ⟨rfl, rfl, rfl, trivial⟩ ?_
  refine xp_loop rfl (fun m Le S' => ∃ i : Nat, i ≤ L.length ∧ m = L.length - i ∧ SubE [(7, .int .i64 (i : Int)), (2, ptrTo B2 0), (1, .slice aL L.length capL)] Le ∧ bksE C (prv L i) (L.drop i) i = bksE C none L 0 ∧ HoldG S [S] S' [(B2, .cells [.string nm, .slice a C.length cap] 24 false true [])] []) ?_ (m := L.length) ⟨0, by omega, by omega, ⟨rfl, rfl, rfl, trivial⟩, rfl, hl⟩
  clear hl; rintro m Le S' ⟨i, hi, rfl, hsub, hpr, hl⟩; refine xe_sub hsub ?_
  refine xp_seq rfl ?_; refine xs (by kernel_rfl) ?_; iterate 2 refine rm rfl ?_
  refine rr rfl (rd_len rfl rfl (len_slice Tryz.underlying25)) ?_; refine rr rfl (rd_bin rfl rfl rfl rfl) ?_; refine re_end rfl ?_; refine xp_cond rfl rfl (fun h17 => ?_) (fun h17 => ?_)
  ·
   have hlt : i < L.length := by have := of_decide_eq_true h17; omega
   obtain ⟨x, hx⟩ := nth_some hlt
   obtain ⟨b1, o1, cs1, ha1, _, hrow1, htk1⟩ := hb.elem hx
   refine xp_skip rfl ?_; refine xp_seq rfl ?_; refine xp_block rfl ?_; refine xs (by kernel_rfl) ?_; iterate 2 refine rm rfl ?_
   refine rr rfl (rd_indexAddr rfl rfl rfl (indexAddr_sl (z := 3) ha1 Tryz.underlying25 (by kernel_rfl) ⟨by omega, by omega⟩)) ?_; refine rr rfl (rd_load rfl rfl (loadN_row (z := 3) (by kernel_rfl) (by kernel_rfl) (row_move (hl.since 0 rfl) hrow1) htk1)) ?_; refine re_allocL hl rfl rfl rfl rfl rfl (z := [.int .i64 0, .int .i64 0, .int .i64 0]) (by kernel_rfl) ?_; intro B8 S8 hl; refine re_storeL hl 0 rfl rfl rfl rfl rfl rfl rfl (by kernel_rfl) rfl ?_; intro S1 hl; refine re_end rfl ?_; refine xp_block rfl ?_
   refine xp_seq rfl (xe_toE hl 24 (.bool (decide (x.kind < 1) || decide (x.kind > 3))) ?_ rfl ?_)
   ·
    refine xg (by kernel_rfl) ?_; refine rr rfl (rd_fieldAddr rfl rfl (fa Tryz.underlying46 az46 rfl)) ?_; refine rr rfl (rl hl 0 rfl rfl (by kernel_rfl) rfl rfl) ?_; refine rr rfl (rd_bin rfl rfl rfl rfl) ?_; refine rm rfl ?_; refine re_bool (d := 28) rfl (fun h28 => ?_) (fun h28 => ?_)
    ·
     iterate 3 refine rz rfl ?_
     iterate 2 refine rm rfl ?_
     refine re_end rfl ?_
     exact ⟨rfl, bl (by first | (simp [h28]; done) | (simp only [h28, BLs])), by repeat (first | exact subL_refl _ | refine subL_skip rfl ?_), hl⟩
    ·
     refine rr rfl (rd_fieldAddr rfl rfl (fa Tryz.underlying46 az46 rfl)) ?_; refine rr rfl (rl hl 0 rfl rfl (by kernel_rfl) rfl rfl) ?_; refine rr rfl (rd_bin rfl rfl rfl rfl) ?_; iterate 2 refine rm rfl ?_
     refine re_end rfl ?_
     exact ⟨rfl, bl (by first | (simp [h28]; done) | (simp only [h28, BLs])), by repeat (first | exact subL_refl _ | refine subL_skip rfl ?_), hl⟩
   intro S1 hl
   refine xp_cond rfl rfl (fun h24 => ?_) (fun h24 => ?_)
   ·
    refine xs (by kernel_rfl) ?_; iterate 3 refine rm rfl ?_
    refine re_end rfl ?_; refine xp_ret rfl ?_
    refine blk_ret (blk_ret (thn_ret (round_ret (blk_ret (thn_ret (done_ret (ress_tmp rfl (ress_tmp rfl rfl)) ⟨hl.keep, tup2 (q := checkE nm.data.toList C L) (p := (8, (i : Int))) (by rw [hck, ← hpr, bks_1 hx (by rw [(show bkE C x = 8 by unfold bkE; rw [h24]; rfl)]; rfl), (show bkE C x = 8 by unfold bkE; rw [h24]; rfl)])⟩))))))
   ·
    refine xp_seq rfl (xe_toE hl 34 (.bool (decide (x.frm < 0) || decide (x.frm ≥ C.length) || decide (x.upto < 0) || decide (x.upto ≥ C.length))) ?_ rfl ?_)
    ·
     refine xg (by kernel_rfl) ?_; refine rr rfl (rd_fieldAddr rfl rfl (fa Tryz.underlying46 az46 rfl)) ?_; refine rr rfl (rl hl 0 rfl rfl (by kernel_rfl) rfl rfl) ?_; refine rr rfl (rd_bin rfl rfl rfl rfl) ?_; refine rm rfl ?_; refine re_bool (d := 38) rfl (fun h38 => ?_) (fun h38 => ?_)
     ·
      iterate 6 refine rz rfl ?_
      iterate 2 refine rm rfl ?_
      iterate 3 refine rz rfl ?_
      iterate 2 refine rm rfl ?_
      iterate 6 refine rz rfl ?_
      iterate 2 refine rm rfl ?_
      refine re_end rfl ?_
      exact ⟨rfl, bl (by first | (simp [h38]; done) | (simp only [h38, BLs])), by repeat (first | exact subL_refl _ | refine subL_skip rfl ?_), hl⟩
     ·
      refine rr rfl (rd_fieldAddr rfl rfl (fa Tryz.underlying46 az46 rfl)) ?_; refine rr rfl (rl hl 0 rfl rfl (by kernel_rfl) rfl rfl) ?_; refine rr rfl (rd_fieldAddr rfl rfl (fa Tryz.underlying24 az24 rfl)) ?_; refine rr rfl (rl hl 1 rfl rfl (by kernel_rfl) rfl rfl) ?_; refine rr rfl (rd_len rfl rfl (len_slice Tryz.underlying22)) ?_; refine rr rfl (rd_bin rfl rfl rfl rfl) ?_; iterate 2 refine rm rfl ?_
      refine re_bool (d := 46) rfl (fun h46 => ?_) (fun h46 => ?_)
      ·
       iterate 3 refine rz rfl ?_
       iterate 2 refine rm rfl ?_
       iterate 6 refine rz rfl ?_
       iterate 2 refine rm rfl ?_
       refine re_end rfl ?_
       exact ⟨rfl, bl (by first | (simp [h46, h38]; done) | (simp only [h46, h38, BLs])), by repeat (first | exact subL_refl _ | refine subL_skip rfl ?_), hl⟩
      ·
       refine rr rfl (rd_fieldAddr rfl rfl (fa Tryz.underlying46 az46 rfl)) ?_; refine rr rfl (rl hl 0 rfl rfl (by kernel_rfl) rfl rfl) ?_; refine rr rfl (rd_bin rfl rfl rfl rfl) ?_; iterate 2 refine rm rfl ?_
       refine re_bool (d := 51) rfl (fun h51 => ?_) (fun h51 => ?_)
       ·
        iterate 6 refine rz rfl ?_
        iterate 2 refine rm rfl ?_
        refine re_end rfl ?_
        exact ⟨rfl, bl (by first | (simp [h51, h46, h38]; done) | (simp only [h51, h46, h38, BLs])), by repeat (first | exact subL_refl _ | refine subL_skip rfl ?_), hl⟩
       ·
        refine rr rfl (rd_fieldAddr rfl rfl (fa Tryz.underlying46 az46 rfl)) ?_; refine rr rfl (rl hl 0 rfl rfl (by kernel_rfl) rfl rfl) ?_; refine rr rfl (rd_fieldAddr rfl rfl (fa Tryz.underlying24 az24 rfl)) ?_; refine rr rfl (rl hl 1 rfl rfl (by kernel_rfl) rfl rfl) ?_; refine rr rfl (rd_len rfl rfl (len_slice Tryz.underlying22)) ?_; refine rr rfl (rd_bin rfl rfl rfl rfl) ?_; iterate 2 refine rm rfl ?_
        refine re_end rfl ?_
        exact ⟨rfl, bl (by first | (simp [h51, h46, h38]; done) | (simp only [h51, h46, h38, BLs])), by repeat (first | exact subL_refl _ | refine subL_skip rfl ?_), hl⟩
    intro S1 hl
    refine xp_cond rfl rfl (fun h34 => ?_) (fun h34 => ?_)
    ·
     refine xs (by kernel_rfl) ?_; iterate 3 refine rm rfl ?_
     refine re_end rfl ?_; refine xp_ret rfl ?_
     refine blk_ret (blk_ret (thn_ret (round_ret (blk_ret (thn_ret (done_ret (ress_tmp rfl (ress_tmp rfl rfl)) ⟨hl.keep, tup2 (q := checkE nm.data.toList C L) (p := (2, (i : Int))) (by rw [hck, ← hpr, bks_1 hx (by rw [(show bkE C x = 2 by unfold bkE; rw [h24, h34]; rfl)]; rfl), (show bkE C x = 2 by unfold bkE; rw [h24, h34]; rfl)])⟩))))))
    ·
     obtain ⟨b, o, cs, ha, hrow, hall⟩ := hv.row (by simp at h34; omega)
     refine xp_seq rfl (xe_toE hl 60 (.bool (!noteB (sgI C x.frm) || !noteB (sgI C x.upto) || decide (x.frm > x.upto))) ?_ rfl ?_)
     ·
      refine xg (by kernel_rfl) ?_; refine rr rfl (rd_fieldAddr rfl rfl (fa Tryz.underlying24 az24 rfl)) ?_; refine rr rfl (rl hl 1 rfl rfl (by kernel_rfl) rfl rfl) ?_; refine rr rfl (rd_fieldAddr rfl rfl (fa Tryz.underlying46 az46 rfl)) ?_; refine rr rfl (rl hl 0 rfl rfl (by kernel_rfl) rfl rfl) ?_; refine rr rfl (rd_indexAddr rfl rfl rfl (indexAddr_sl (z := 17) ha Tryz.underlying22 (by kernel_rfl) ⟨by first | omega | (simp at *; omega), by first | omega | (simp at *; omega)⟩)) ?_
      refine rr rfl (rd_load rfl rfl (loadN_row (z := 17) (by kernel_rfl) (by kernel_rfl) (row_move (hl.since 0 rfl) hrow) (hall _ (by first | omega | (simp at *; omega)) (by first | omega | (simp at *; omega))))) ?_
      refine re_callL hl rfl rfl rfl rfl rfl rfl rfl (spec24 (sgI C x.frm)) ?_; rintro v S1 hk1 rfl hl
      refine rr rfl (rd_un rfl rfl rfl) ?_; refine rm rfl ?_; refine re_bool (d := 69) rfl (fun h69 => ?_) (fun h69 => ?_)
      ·
       iterate 8 refine rz rfl ?_
       iterate 2 refine rm rfl ?_
       iterate 5 refine rz rfl ?_
       iterate 2 refine rm rfl ?_
       refine re_end rfl ?_
       exact ⟨rfl, bl (by first | (simp [h69]; done) | (simp only [h69, BLs])), by repeat (first | exact subL_refl _ | refine subL_skip rfl ?_), hl⟩
      ·
       refine rr rfl (rd_fieldAddr rfl rfl (fa Tryz.underlying24 az24 rfl)) ?_; refine rr rfl (rl hl 1 rfl rfl (by kernel_rfl) rfl rfl) ?_; refine rr rfl (rd_fieldAddr rfl rfl (fa Tryz.underlying46 az46 rfl)) ?_; refine rr rfl (rl hl 0 rfl rfl (by kernel_rfl) rfl rfl) ?_; refine rr rfl (rd_indexAddr rfl rfl rfl (indexAddr_sl (z := 17) ha Tryz.underlying22 (by kernel_rfl) ⟨by first | omega | (simp at *; omega), by first | omega | (simp at *; omega)⟩)) ?_
       refine rr rfl (rd_load rfl rfl (loadN_row (z := 17) (by kernel_rfl) (by kernel_rfl) (row_move (hl.since 0 rfl) hrow) (hall _ (by first | omega | (simp at *; omega)) (by first | omega | (simp at *; omega))))) ?_
       refine re_callL hl rfl rfl rfl rfl rfl rfl rfl (spec24 (sgI C x.upto)) ?_; rintro v S1 hk1 rfl hl
       refine rr rfl (rd_un rfl rfl rfl) ?_; iterate 2 refine rm rfl ?_
       refine re_bool (d := 79) rfl (fun h79 => ?_) (fun h79 => ?_)
       ·
        iterate 5 refine rz rfl ?_
        iterate 2 refine rm rfl ?_
        refine re_end rfl ?_
        exact ⟨rfl, bl (by first | (simp [h79, h69]; done) | (simp only [h79, h69, BLs])), by repeat (first | exact subL_refl _ | refine subL_skip rfl ?_), hl⟩
       ·
        refine rr rfl (rd_fieldAddr rfl rfl (fa Tryz.underlying46 az46 rfl)) ?_; refine rr rfl (rl hl 0 rfl rfl (by kernel_rfl) rfl rfl) ?_; refine rr rfl (rd_fieldAddr rfl rfl (fa Tryz.underlying46 az46 rfl)) ?_; refine rr rfl (rl hl 0 rfl rfl (by kernel_rfl) rfl rfl) ?_; refine rr rfl (rd_bin rfl rfl rfl rfl) ?_; iterate 2 refine rm rfl ?_
        refine re_end rfl ?_
        exact ⟨rfl, bl (by first | (simp [h79, h69]; done) | (simp only [h79, h69, BLs])), by repeat (first | exact subL_refl _ | refine subL_skip rfl ?_), hl⟩
     intro S1 hl
     refine xp_cond rfl rfl (fun h60 => ?_) (fun h60 => ?_)
     ·
      refine xs (by kernel_rfl) ?_; iterate 3 refine rm rfl ?_
      refine re_end rfl ?_; refine xp_ret rfl ?_
      refine blk_ret (blk_ret (thn_ret (round_ret (blk_ret (thn_ret (done_ret (ress_tmp rfl (ress_tmp rfl rfl)) ⟨hl.keep, tup2 (q := checkE nm.data.toList C L) (p := (3, (i : Int))) (by rw [hck, ← hpr, bks_1 hx (by rw [(show bkE C x = 3 by unfold bkE; rw [h24, h34, h60]; rfl)]; rfl), (show bkE C x = 3 by unfold bkE; rw [h24, h34, h60]; rfl)])⟩))))))
     ·
      refine xp_seq rfl (xe_toE hl 87 (.bool (badO L i x)) ?_ rfl ?_)
      ·
       refine xp_draw (idx := [0, 1, 2, 3, 4, 5, 6, 7, 8, 9, 10, 11, 12]) rfl (by kernel_rfl) (by kernel_rfl) ?_; refine pm rfl ?_; refine pr rfl (rd_bin rfl rfl rfl rfl) ?_; refine pm rfl ?_; refine rp_bool (d := 90) rfl (fun h90 => ?_) (fun h90 => ?_)
       ·
        obtain ⟨j, y, rfl, hy⟩ := prv_pos h90 hlt
        obtain ⟨b3, o3, cs3, ha3, _, hrow3, htk3⟩ := hb.elem hy
        iterate 2 refine pm rfl ?_
        refine pr rfl (rd_bin rfl rfl rfl (congrArg some (congrArg (Value.int .i64) ((IntWalk.i64_in _ (by omega)).trans (show (((j + 1 : Nat) : Int) - 1) = (j : Int) by omega))))) ?_; refine pr rfl (rd_indexAddr rfl rfl rfl (indexAddr_sl (z := 3) ha3 Tryz.underlying25 (by kernel_rfl) ⟨by omega, by omega⟩)) ?_; refine pk rfl (rd_load rfl rfl (loadN_row (z := 3) (by kernel_rfl) (by kernel_rfl) (row_move (hl.since 0 rfl) hrow3) htk3)) ?_; refine pk rfl (rd_load rfl rfl (loadN_of (z := 3) (by kernel_rfl) (by kernel_rfl) (hl.get 0 rfl) rfl)) ?_
        refine rp_callL hl rfl rfl rfl rfl rfl rfl rfl (spec25 y x) ?_; rintro v S1 hk1 rfl hl; refine ⟨stays_all (by kernel_rfl), ?_⟩
        refine pr rfl (rd_un rfl rfl rfl) ?_; iterate 2 refine pm rfl ?_
        refine rp_end rfl ?_
        exact ⟨rfl, bl (((bad_some hy).trans (bk_before y x).symm).symm), by repeat (first | exact subL_refl _ | refine subL_skip rfl ?_), hl⟩
       ·
        iterate 8 refine pz rfl ?_
        iterate 2 refine pm rfl ?_
        refine rp_end rfl ?_
        exact ⟨rfl, bl (bad_none h90).symm, by repeat (first | exact subL_refl _ | refine subL_skip rfl ?_), hl⟩
      intro S1 hl
      refine xp_cond rfl rfl (fun h87 => ?_) (fun h87 => ?_)
      ·
       refine xs (by kernel_rfl) ?_; iterate 3 refine rm rfl ?_
       refine re_end rfl ?_; refine xp_ret rfl ?_
       refine blk_ret (blk_ret (thn_ret (round_ret (blk_ret (thn_ret (done_ret (ress_tmp rfl (ress_tmp rfl rfl)) ⟨hl.keep, tup2 (q := checkE nm.data.toList C L) (p := (6, (i : Int))) (by rw [hck, ← hpr, bks_2 hx (by rw [(show bkE C x = 0 by unfold bkE; rw [h24, h34, h60]; rfl)]; rfl) h87])⟩))))))
      ·
       refine xp_skip rfl ?_; refine xg (by kernel_rfl) ?_; refine rm rfl ?_; refine rr rfl (rd_bin rfl rfl rfl (i6 (by omega))) ?_; refine rm rfl ?_; refine re_end rfl ?_
       exact ⟨L.length - (i + 1), by omega, i + 1, by omega, rfl, ⟨rfl, rfl, rfl, trivial⟩, by rw [← hpr]; exact (bks_3 hx (by rw [(show bkE C x = 0 by unfold bkE; rw [h24, h34, h60]; rfl)]; rfl) h87).symm, hl.tail⟩
  ·
   refine xp_exit rfl ?_; refine xs (by kernel_rfl) ?_; iterate 2 refine rm rfl ?_
   refine re_end rfl ?_; refine xp_ret rfl ?_
   refine done_ret (ress_tmp rfl (ress_tmp rfl rfl)) ⟨hl.keep, tup2 (q := checkE nm.data.toList C L) (p := (0, 0)) (by rw [hck, ← hpr, bks_end (by have := of_decide_eq_false h17; omega)])⟩
end Go.Proofs.YtkmhecihkckcmaaGreatDoor
