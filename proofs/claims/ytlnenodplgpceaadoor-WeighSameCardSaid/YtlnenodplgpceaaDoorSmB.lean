/-
  pitch.Move. interval: lower, between, simple, Simple. interval.Kind. interval: check, bass. interval.clashes. interval.Clashes, event: zero, one. event.Check. event.End. align: Check, merged.
-/
import Derived.Test.YtlnenodplgpceaaDoorSmA
namespace Go.Proofs.YtlnenodplgpceaaDoor
open Go.Cm Go
set_option maxRecDepth 100000
variable {S : St}
noncomputable def c20 : Code := Tryd.f20.body.getD .skip
theorem spec20 (p : Pt) (n : Int) : CC Tryd.prog KK 20 [p.v, .int .i64 n] S (fun v S' => Keep S S' ∧ v = rp (mvE p n)) := by
 refine cc_enter (c := c20) (n := 32) Tryd.func20 rfl rfl rfl (by kernel_rfl) rfl rfl ?_
 have hl := Hold.start S
 refine xs (by kernel_rfl) ?_; refine re_boxL hl rfl rfl rfl rfl rfl rfl ?_; intro B2 S2 hl; refine re_allocL hl rfl rfl rfl rfl rfl (z := [.int .i64 0, .int .i64 0, .int .i64 0]) (by kernel_rfl) ?_; intro B4 S4 hl; refine rm rfl ?_; refine re_end rfl ?_; refine xp_seq rfl ?_; refine xs (by kernel_rfl) ?_; refine rr rfl (rd_load rfl rfl (loadN_of (z := 3) (by kernel_rfl) (by kernel_rfl) (hl.get 1 rfl) rfl)) ?_
 refine re_callL hl rfl rfl rfl rfl rfl rfl rfl (spec31 p) ?_; rintro v S1 hk1 rfl hl
 refine rm rfl ?_; refine re_end rfl ?_; refine xs (by kernel_rfl) ?_; refine rm rfl ?_; refine rr rfl (rd_bin rfl rfl rfl rfl) ?_; refine re_end rfl ?_; refine xp_cond rfl rfl (fun h11 => ?_) (fun h11 => ?_)
 ·
  refine xs (by kernel_rfl) ?_; refine rr rfl (rd_build rfl rfl (v := aggL [.int .i64 0, .int .i64 0, .int .i64 0]) (by rfl)) ?_; refine rm rfl ?_; refine re_storeL hl 0 rfl rfl rfl rfl rfl rfl rfl (by kernel_rfl) rfl ?_; intro S1 hl; refine rm rfl ?_; refine re_end rfl ?_; refine xp_ret rfl ?_
  refine thn_ret (done_ret (ress_cell rfl (loadN_of (z := 3) (by kernel_rfl) (by kernel_rfl) (hl.get 0 rfl) rfl) (ress_tmp rfl rfl)) ⟨hl.keep, by rw [mv_1 (pE_yes h11), pE_1 (pE_yes h11)]; rfl⟩)
 ·
  refine xp_skip rfl ?_; refine xp_seq rfl ?_; refine xp_seq rfl (xe_toE hl 19 (.bool (decide (n < -62) || decide (n > 62))) ?_ rfl ?_)
  ·
   refine xg (by kernel_rfl) ?_; refine rm rfl ?_; refine rr rfl (rd_bin rfl rfl rfl rfl) ?_; refine rm rfl ?_; refine re_bool (d := 16) rfl (fun h16 => ?_) (fun h16 => ?_)
   ·
    iterate 2 refine rz rfl ?_
    refine rm rfl ?_; refine re_end rfl ?_
    exact ⟨rfl, bl (by first | (simp [h16]; done) | (simp only [h16, BLs])), by repeat (first | exact subL_refl _ | refine subL_skip rfl ?_), hl⟩
   ·
    refine rm rfl ?_; refine rr rfl (rd_bin rfl rfl rfl rfl) ?_; refine rm rfl ?_; refine re_end rfl ?_
    exact ⟨rfl, bl (by first | (simp [h16]; done) | (simp only [h16, BLs])), by repeat (first | exact subL_refl _ | refine subL_skip rfl ?_), hl⟩
  intro S1 hl
  refine xp_cond rfl rfl (fun h19 => ?_) (fun h19 => ?_)
  ·
   refine xs (by kernel_rfl) ?_; refine rr rfl (rd_build rfl rfl (v := aggL [.int .i64 0, .int .i64 0, .int .i64 0]) (by rfl)) ?_; refine re_storeL hl 0 rfl rfl rfl rfl rfl rfl rfl (by kernel_rfl) rfl ?_; intro S1 hl; refine rm rfl ?_; refine re_end rfl ?_; refine xp_ret rfl ?_
   refine thn_ret (done_ret (ress_cell rfl (loadN_of (z := 3) (by kernel_rfl) (by kernel_rfl) (hl.get 0 rfl) rfl) (ress_tmp rfl rfl)) ⟨hl.keep, by rw [mv_2 (pE_no h11) h19]; rfl⟩)
  ·
   have hb := num_bd (pE_no h11)
   have hn : -62 ≤ n ∧ n ≤ 62 := by simp at h19; omega
   refine xp_skip rfl ?_; refine xs (by kernel_rfl) ?_; refine rr rfl (rd_load rfl rfl (loadN_of (z := 3) (by kernel_rfl) (by kernel_rfl) (hl.get 1 rfl) rfl)) ?_
   refine re_callL hl rfl rfl rfl rfl rfl rfl rfl (spec32 p (pE_no h11)) ?_; rintro v S1 hk1 rfl hl
   refine re_allocL hl rfl rfl rfl rfl rfl (z := [.int .i64 0, .int .i64 0]) (by kernel_rfl) ?_; intro B7 S7 hl; refine re_storeL hl 0 rfl rfl rfl rfl rfl rfl rfl (by kernel_rfl) rfl ?_; intro S1 hl; refine re_end rfl ?_; refine xs (by kernel_rfl) ?_; refine rr rfl (rd_fieldAddr rfl rfl (fa Tryd.underlying83 az83 rfl)) ?_; refine rr rfl (rl hl 0 rfl rfl (by kernel_rfl) rfl rfl) ?_; refine rm rfl ?_; refine rr rfl (rd_bin rfl rfl rfl (i6 (by omega))) ?_; refine rr rfl (rd_fieldAddr rfl rfl (fa Tryd.underlying83 az83 rfl)) ?_
   refine re_storeL hl 0 rfl rfl rfl rfl rfl rfl rfl (by kernel_rfl) rfl ?_; intro S1 hl; refine re_end rfl ?_; refine xs (by kernel_rfl) ?_; refine rr rfl (rd_load rfl rfl (loadN_of (z := 2) (by kernel_rfl) (by kernel_rfl) (hl.get 0 rfl) rfl)) ?_
   refine re_callL hl rfl rfl rfl rfl rfl rfl rfl (spec33 (numI p + n) p.a) ?_; rintro v S1 hk1 rfl hl
   iterate 2 refine rm rfl ?_
   refine re_storeL hl 1 rfl rfl rfl rfl rfl rfl rfl (by kernel_rfl) rfl ?_; intro S1 hl; refine rm rfl ?_; refine re_end rfl ?_; refine xp_ret rfl ?_
   refine done_ret (ress_cell rfl (loadN_of (z := 3) (by kernel_rfl) (by kernel_rfl) (hl.get 1 rfl) rfl) (ress_tmp rfl rfl)) ⟨hl.keep, by rw [mv_3 (pE_no h11) h19]; rfl⟩
end Go.Proofs.YtlnenodplgpceaaDoor
namespace Go.Proofs.YtlnenodplgpceaaDoor
open Go.Cm Go
set_option maxRecDepth 100000
variable {S : St}
noncomputable def c81 : Code := Tryd.f81.body.getD .skip
theorem spec81 (p q : Pt) (hG : Gl S) : CC Tryd.prog KK 81 [p.v, q.v] S (fun v S' => Keep S S' ∧ v = tupV [(lowE p q).1.v, (lowE p q).2.v]) := by
 refine cc_enter (c := c81) (n := 51) Tryd.func81 rfl rfl rfl (by kernel_rfl) rfl rfl ?_
 have hl := Hold.start S
 refine xs (by kernel_rfl) ?_; refine re_boxL hl rfl rfl rfl rfl rfl rfl ?_; intro B2 S2 hl; refine re_boxL hl rfl rfl rfl rfl rfl rfl ?_; intro B3 S3 hl; refine re_allocL hl rfl rfl rfl rfl rfl (z := [.int .i64 0, .int .i64 0, .int .i64 0]) (by kernel_rfl) ?_; intro B4 S4 hl; refine re_allocL hl rfl rfl rfl rfl rfl (z := [.int .i64 0, .int .i64 0, .int .i64 0]) (by kernel_rfl) ?_; intro B5 S5 hl; refine re_end rfl ?_; refine xs (by kernel_rfl) ?_; refine rr rfl (rd_load rfl rfl (loadN_of (z := 3) (by kernel_rfl) (by kernel_rfl) (hl.get 3 rfl) rfl)) ?_
 refine re_callL hl rfl rfl rfl rfl rfl rfl rfl (spec63 p) ?_; rintro v S1 hk1 rfl hl
 iterate 5 refine rm rfl ?_
 refine re_end rfl ?_; refine xs (by kernel_rfl) ?_; refine rr rfl (rd_load rfl rfl (loadN_of (z := 3) (by kernel_rfl) (by kernel_rfl) (hl.get 2 rfl) rfl)) ?_
 refine re_callL hl rfl rfl rfl rfl rfl rfl rfl (spec63 q) ?_; rintro v S1 hk1 rfl hl
 iterate 5 refine rm rfl ?_
 refine re_end rfl ?_; refine xs (by kernel_rfl) ?_; refine rr rfl (rd_load rfl rfl (loadN_of (z := 3) (by kernel_rfl) (by kernel_rfl) (hl.get 3 rfl) rfl)) ?_
 refine re_callL hl rfl rfl rfl rfl rfl rfl rfl (spec88 p (hG.keep hl.keep)) ?_; rintro v S1 hk1 rfl hl
 iterate 5 refine rm rfl ?_
 refine re_end rfl ?_; refine xs (by kernel_rfl) ?_; refine rr rfl (rd_load rfl rfl (loadN_of (z := 3) (by kernel_rfl) (by kernel_rfl) (hl.get 2 rfl) rfl)) ?_
 refine re_callL hl rfl rfl rfl rfl rfl rfl rfl (spec88 q (hG.keep hl.keep)) ?_; rintro v S1 hk1 rfl hl
 iterate 5 refine rm rfl ?_
 refine re_end rfl ?_; refine xp_seq rfl ?_; refine xp_seq rfl (xe_toE hl 46 (.bool (lowB p q)) ?_ rfl ?_)
 ·
  refine xg (by kernel_rfl) ?_; iterate 2 refine rm rfl ?_
  refine rr rfl (rd_bin rfl rfl rfl rfl) ?_; refine rm rfl ?_; refine re_bool (d := 37) rfl (fun h37 => ?_) (fun h37 => ?_)
  ·
   iterate 8 refine rz rfl ?_
   refine rm rfl ?_; refine re_end rfl ?_
   exact ⟨rfl, bl (by unfold lowB; rw [h37]; rfl), by repeat (first | exact subL_refl _ | refine subL_skip rfl ?_), hl⟩
  ·
   iterate 2 refine rm rfl ?_
   refine rr rfl (rd_bin rfl rfl rfl rfl) ?_; refine rm rfl ?_; refine re_bool (d := 41) rfl (fun h41 => ?_) (fun h41 => ?_)
   ·
    iterate 2 refine rm rfl ?_
    refine rr rfl (rd_bin rfl rfl rfl rfl) ?_; iterate 2 refine rm rfl ?_
    refine re_end rfl ?_
    exact ⟨rfl, bl (by unfold lowB; rw [h37, h41]; rfl), by repeat (first | exact subL_refl _ | refine subL_skip rfl ?_), hl⟩
   ·
    iterate 3 refine rz rfl ?_
    iterate 2 refine rm rfl ?_
    refine re_end rfl ?_
    exact ⟨rfl, bl (by unfold lowB; rw [h37, h41]; rfl), by repeat (first | exact subL_refl _ | refine subL_skip rfl ?_), hl⟩
 intro S1 hl
 refine xp_cond rfl rfl (fun h46 => ?_) (fun h46 => ?_)
 ·
  refine xp_seq rfl ?_; refine xp_draw (idx := [0, 1, 2, 3]) rfl (by kernel_rfl) (by kernel_rfl) ?_; refine pk rfl (rd_load rfl rfl (loadN_of (z := 3) (by kernel_rfl) (by kernel_rfl) (hl.get 2 rfl) rfl)) ?_; refine pk rfl (rd_load rfl rfl (loadN_of (z := 3) (by kernel_rfl) (by kernel_rfl) (hl.get 3 rfl) rfl)) ?_
  refine rp_storeL hl 1 rfl rfl rfl rfl rfl rfl rfl (by kernel_rfl) rfl ?_; intro S1 hl; refine ⟨by repeat (first | exact trivial | refine stays_left ?_ | (refine ⟨by first | exact stays_new rfl (hl.get 0 rfl) (sameL_atoms _ _ (by simp) (by repeat (first | exact atoms_nil | refine atoms_cons (atom_int _ _) ?_ | refine atoms_cons (atom_bool _) ?_ | refine atoms_cons (atom_slice _ _ _) ?_ | refine atoms_cons (atom_string _) ?_))) | exact stays_new rfl (hl.get 1 rfl) (sameL_atoms _ _ (by simp) (by repeat (first | exact atoms_nil | refine atoms_cons (atom_int _ _) ?_ | refine atoms_cons (atom_bool _) ?_ | refine atoms_cons (atom_slice _ _ _) ?_ | refine atoms_cons (atom_string _) ?_))) | exact stays_new rfl (hl.get 2 rfl) (sameL_atoms _ _ (by simp) (by repeat (first | exact atoms_nil | refine atoms_cons (atom_int _ _) ?_ | refine atoms_cons (atom_bool _) ?_ | refine atoms_cons (atom_slice _ _ _) ?_ | refine atoms_cons (atom_string _) ?_))) | exact stays_new rfl (hl.get 3 rfl) (sameL_atoms _ _ (by simp) (by repeat (first | exact atoms_nil | refine atoms_cons (atom_int _ _) ?_ | refine atoms_cons (atom_bool _) ?_ | refine atoms_cons (atom_slice _ _ _) ?_ | refine atoms_cons (atom_string _) ?_))) | exact stays_load rfl rfl (loadN_of (z := 3) (by kernel_rfl) (by kernel_rfl) (hl.get 0 rfl) rfl) (same_agg rfl (by repeat (first | exact atoms_nil | refine atoms_cons (atom_int _ _) ?_ | refine atoms_cons (atom_bool _) ?_ | refine atoms_cons (atom_slice _ _ _) ?_ | refine atoms_cons (atom_string _) ?_))) rfl | exact stays_load rfl rfl (loadN_of (z := 3) (by kernel_rfl) (by kernel_rfl) (hl.get 1 rfl) rfl) (same_agg rfl (by repeat (first | exact atoms_nil | refine atoms_cons (atom_int _ _) ?_ | refine atoms_cons (atom_bool _) ?_ | refine atoms_cons (atom_slice _ _ _) ?_ | refine atoms_cons (atom_string _) ?_))) rfl | exact stays_load rfl rfl (loadN_of (z := 3) (by kernel_rfl) (by kernel_rfl) (hl.get 2 rfl) rfl) (same_agg rfl (by repeat (first | exact atoms_nil | refine atoms_cons (atom_int _ _) ?_ | refine atoms_cons (atom_bool _) ?_ | refine atoms_cons (atom_slice _ _ _) ?_ | refine atoms_cons (atom_string _) ?_))) rfl | exact stays_load rfl rfl (loadN_of (z := 3) (by kernel_rfl) (by kernel_rfl) (hl.get 3 rfl) rfl) (same_agg rfl (by repeat (first | exact atoms_nil | refine atoms_cons (atom_int _ _) ?_ | refine atoms_cons (atom_bool _) ?_ | refine atoms_cons (atom_slice _ _ _) ?_ | refine atoms_cons (atom_string _) ?_))) rfl | exact stays_load rfl rfl (load1_of (by kernel_rfl) (hl.get 0 rfl) rfl) (same_atom (by first | exact atom_int _ _ | exact atom_bool _ | exact atom_slice _ _ _)) rfl | exact stays_load rfl rfl (load1_of (by kernel_rfl) (hl.get 1 rfl) rfl) (same_atom (by first | exact atom_int _ _ | exact atom_bool _ | exact atom_slice _ _ _)) rfl | exact stays_load rfl rfl (load1_of (by kernel_rfl) (hl.get 2 rfl) rfl) (same_atom (by first | exact atom_int _ _ | exact atom_bool _ | exact atom_slice _ _ _)) rfl | exact stays_load rfl rfl (load1_of (by kernel_rfl) (hl.get 3 rfl) rfl) (same_atom (by first | exact atom_int _ _ | exact atom_bool _ | exact atom_slice _ _ _)) rfl | exact stays_no (by dsimp only; decide +kernel), ?_⟩)), ?_⟩
  refine rp_storeL hl 0 rfl rfl rfl rfl rfl rfl rfl (by kernel_rfl) rfl ?_; intro S1 hl; refine ⟨by repeat (first | exact trivial | refine stays_left ?_ | (refine ⟨by first | exact stays_new rfl (hl.get 0 rfl) (sameL_atoms _ _ (by simp) (by repeat (first | exact atoms_nil | refine atoms_cons (atom_int _ _) ?_ | refine atoms_cons (atom_bool _) ?_ | refine atoms_cons (atom_slice _ _ _) ?_ | refine atoms_cons (atom_string _) ?_))) | exact stays_new rfl (hl.get 1 rfl) (sameL_atoms _ _ (by simp) (by repeat (first | exact atoms_nil | refine atoms_cons (atom_int _ _) ?_ | refine atoms_cons (atom_bool _) ?_ | refine atoms_cons (atom_slice _ _ _) ?_ | refine atoms_cons (atom_string _) ?_))) | exact stays_new rfl (hl.get 2 rfl) (sameL_atoms _ _ (by simp) (by repeat (first | exact atoms_nil | refine atoms_cons (atom_int _ _) ?_ | refine atoms_cons (atom_bool _) ?_ | refine atoms_cons (atom_slice _ _ _) ?_ | refine atoms_cons (atom_string _) ?_))) | exact stays_new rfl (hl.get 3 rfl) (sameL_atoms _ _ (by simp) (by repeat (first | exact atoms_nil | refine atoms_cons (atom_int _ _) ?_ | refine atoms_cons (atom_bool _) ?_ | refine atoms_cons (atom_slice _ _ _) ?_ | refine atoms_cons (atom_string _) ?_))) | exact stays_load rfl rfl (loadN_of (z := 3) (by kernel_rfl) (by kernel_rfl) (hl.get 0 rfl) rfl) (same_agg rfl (by repeat (first | exact atoms_nil | refine atoms_cons (atom_int _ _) ?_ | refine atoms_cons (atom_bool _) ?_ | refine atoms_cons (atom_slice _ _ _) ?_ | refine atoms_cons (atom_string _) ?_))) rfl | exact stays_load rfl rfl (loadN_of (z := 3) (by kernel_rfl) (by kernel_rfl) (hl.get 1 rfl) rfl) (same_agg rfl (by repeat (first | exact atoms_nil | refine atoms_cons (atom_int _ _) ?_ | refine atoms_cons (atom_bool _) ?_ | refine atoms_cons (atom_slice _ _ _) ?_ | refine atoms_cons (atom_string _) ?_))) rfl | exact stays_load rfl rfl (loadN_of (z := 3) (by kernel_rfl) (by kernel_rfl) (hl.get 2 rfl) rfl) (same_agg rfl (by repeat (first | exact atoms_nil | refine atoms_cons (atom_int _ _) ?_ | refine atoms_cons (atom_bool _) ?_ | refine atoms_cons (atom_slice _ _ _) ?_ | refine atoms_cons (atom_string _) ?_))) rfl | exact stays_load rfl rfl (loadN_of (z := 3) (by kernel_rfl) (by kernel_rfl) (hl.get 3 rfl) rfl) (same_agg rfl (by repeat (first | exact atoms_nil | refine atoms_cons (atom_int _ _) ?_ | refine atoms_cons (atom_bool _) ?_ | refine atoms_cons (atom_slice _ _ _) ?_ | refine atoms_cons (atom_string _) ?_))) rfl | exact stays_load rfl rfl (load1_of (by kernel_rfl) (hl.get 0 rfl) rfl) (same_atom (by first | exact atom_int _ _ | exact atom_bool _ | exact atom_slice _ _ _)) rfl | exact stays_load rfl rfl (load1_of (by kernel_rfl) (hl.get 1 rfl) rfl) (same_atom (by first | exact atom_int _ _ | exact atom_bool _ | exact atom_slice _ _ _)) rfl | exact stays_load rfl rfl (load1_of (by kernel_rfl) (hl.get 2 rfl) rfl) (same_atom (by first | exact atom_int _ _ | exact atom_bool _ | exact atom_slice _ _ _)) rfl | exact stays_load rfl rfl (load1_of (by kernel_rfl) (hl.get 3 rfl) rfl) (same_atom (by first | exact atom_int _ _ | exact atom_bool _ | exact atom_slice _ _ _)) rfl | exact stays_no (by dsimp only; decide +kernel), ?_⟩)), ?_⟩
  refine rp_end rfl ?_; refine xp_ret rfl ?_
  refine thn_ret (done_ret (ress_cell rfl (loadN_of (z := 3) (by kernel_rfl) (by kernel_rfl) (hl.get 1 rfl) rfl) (ress_cell rfl (loadN_of (z := 3) (by kernel_rfl) (by kernel_rfl) (hl.get 0 rfl) rfl) rfl)) ⟨hl.keep, by rw [low_1 h46]; rfl⟩)
 ·
  refine xp_skip rfl ?_; refine xp_seq rfl ?_; refine xp_draw (idx := [0, 1, 2, 3]) rfl (by kernel_rfl) (by kernel_rfl) ?_; refine pk rfl (rd_load rfl rfl (loadN_of (z := 3) (by kernel_rfl) (by kernel_rfl) (hl.get 3 rfl) rfl)) ?_; refine pk rfl (rd_load rfl rfl (loadN_of (z := 3) (by kernel_rfl) (by kernel_rfl) (hl.get 2 rfl) rfl)) ?_
  refine rp_storeL hl 1 rfl rfl rfl rfl rfl rfl rfl (by kernel_rfl) rfl ?_; intro S1 hl; refine ⟨by repeat (first | exact trivial | refine stays_left ?_ | (refine ⟨by first | exact stays_new rfl (hl.get 0 rfl) (sameL_atoms _ _ (by simp) (by repeat (first | exact atoms_nil | refine atoms_cons (atom_int _ _) ?_ | refine atoms_cons (atom_bool _) ?_ | refine atoms_cons (atom_slice _ _ _) ?_ | refine atoms_cons (atom_string _) ?_))) | exact stays_new rfl (hl.get 1 rfl) (sameL_atoms _ _ (by simp) (by repeat (first | exact atoms_nil | refine atoms_cons (atom_int _ _) ?_ | refine atoms_cons (atom_bool _) ?_ | refine atoms_cons (atom_slice _ _ _) ?_ | refine atoms_cons (atom_string _) ?_))) | exact stays_new rfl (hl.get 2 rfl) (sameL_atoms _ _ (by simp) (by repeat (first | exact atoms_nil | refine atoms_cons (atom_int _ _) ?_ | refine atoms_cons (atom_bool _) ?_ | refine atoms_cons (atom_slice _ _ _) ?_ | refine atoms_cons (atom_string _) ?_))) | exact stays_new rfl (hl.get 3 rfl) (sameL_atoms _ _ (by simp) (by repeat (first | exact atoms_nil | refine atoms_cons (atom_int _ _) ?_ | refine atoms_cons (atom_bool _) ?_ | refine atoms_cons (atom_slice _ _ _) ?_ | refine atoms_cons (atom_string _) ?_))) | exact stays_load rfl rfl (loadN_of (z := 3) (by kernel_rfl) (by kernel_rfl) (hl.get 0 rfl) rfl) (same_agg rfl (by repeat (first | exact atoms_nil | refine atoms_cons (atom_int _ _) ?_ | refine atoms_cons (atom_bool _) ?_ | refine atoms_cons (atom_slice _ _ _) ?_ | refine atoms_cons (atom_string _) ?_))) rfl | exact stays_load rfl rfl (loadN_of (z := 3) (by kernel_rfl) (by kernel_rfl) (hl.get 1 rfl) rfl) (same_agg rfl (by repeat (first | exact atoms_nil | refine atoms_cons (atom_int _ _) ?_ | refine atoms_cons (atom_bool _) ?_ | refine atoms_cons (atom_slice _ _ _) ?_ | refine atoms_cons (atom_string _) ?_))) rfl | exact stays_load rfl rfl (loadN_of (z := 3) (by kernel_rfl) (by kernel_rfl) (hl.get 2 rfl) rfl) (same_agg rfl (by repeat (first | exact atoms_nil | refine atoms_cons (atom_int _ _) ?_ | refine atoms_cons (atom_bool _) ?_ | refine atoms_cons (atom_slice _ _ _) ?_ | refine atoms_cons (atom_string _) ?_))) rfl | exact stays_load rfl rfl (loadN_of (z := 3) (by kernel_rfl) (by kernel_rfl) (hl.get 3 rfl) rfl) (same_agg rfl (by repeat (first | exact atoms_nil | refine atoms_cons (atom_int _ _) ?_ | refine atoms_cons (atom_bool _) ?_ | refine atoms_cons (atom_slice _ _ _) ?_ | refine atoms_cons (atom_string _) ?_))) rfl | exact stays_load rfl rfl (load1_of (by kernel_rfl) (hl.get 0 rfl) rfl) (same_atom (by first | exact atom_int _ _ | exact atom_bool _ | exact atom_slice _ _ _)) rfl | exact stays_load rfl rfl (load1_of (by kernel_rfl) (hl.get 1 rfl) rfl) (same_atom (by first | exact atom_int _ _ | exact atom_bool _ | exact atom_slice _ _ _)) rfl | exact stays_load rfl rfl (load1_of (by kernel_rfl) (hl.get 2 rfl) rfl) (same_atom (by first | exact atom_int _ _ | exact atom_bool _ | exact atom_slice _ _ _)) rfl | exact stays_load rfl rfl (load1_of (by kernel_rfl) (hl.get 3 rfl) rfl) (same_atom (by first | exact atom_int _ _ | exact atom_bool _ | exact atom_slice _ _ _)) rfl | exact stays_no (by dsimp only; decide +kernel), ?_⟩)), ?_⟩
  refine rp_storeL hl 0 rfl rfl rfl rfl rfl rfl rfl (by kernel_rfl) rfl ?_; intro S1 hl; refine ⟨by repeat (first | exact trivial | refine stays_left ?_ | (refine ⟨by first | exact stays_new rfl (hl.get 0 rfl) (sameL_atoms _ _ (by simp) (by repeat (first | exact atoms_nil | refine atoms_cons (atom_int _ _) ?_ | refine atoms_cons (atom_bool _) ?_ | refine atoms_cons (atom_slice _ _ _) ?_ | refine atoms_cons (atom_string _) ?_))) | exact stays_new rfl (hl.get 1 rfl) (sameL_atoms _ _ (by simp) (by repeat (first | exact atoms_nil | refine atoms_cons (atom_int _ _) ?_ | refine atoms_cons (atom_bool _) ?_ | refine atoms_cons (atom_slice _ _ _) ?_ | refine atoms_cons (atom_string _) ?_))) | exact stays_new rfl (hl.get 2 rfl) (sameL_atoms _ _ (by simp) (by repeat (first | exact atoms_nil | refine atoms_cons (atom_int _ _) ?_ | refine atoms_cons (atom_bool _) ?_ | refine atoms_cons (atom_slice _ _ _) ?_ | refine atoms_cons (atom_string _) ?_))) | exact stays_new rfl (hl.get 3 rfl) (sameL_atoms _ _ (by simp) (by repeat (first | exact atoms_nil | refine atoms_cons (atom_int _ _) ?_ | refine atoms_cons (atom_bool _) ?_ | refine atoms_cons (atom_slice _ _ _) ?_ | refine atoms_cons (atom_string _) ?_))) | exact stays_load rfl rfl (loadN_of (z := 3) (by kernel_rfl) (by kernel_rfl) (hl.get 0 rfl) rfl) (same_agg rfl (by repeat (first | exact atoms_nil | refine atoms_cons (atom_int _ _) ?_ | refine atoms_cons (atom_bool _) ?_ | refine atoms_cons (atom_slice _ _ _) ?_ | refine atoms_cons (atom_string _) ?_))) rfl | exact stays_load rfl rfl (loadN_of (z := 3) (by kernel_rfl) (by kernel_rfl) (hl.get 1 rfl) rfl) (same_agg rfl (by repeat (first | exact atoms_nil | refine atoms_cons (atom_int _ _) ?_ | refine atoms_cons (atom_bool _) ?_ | refine atoms_cons (atom_slice _ _ _) ?_ | refine atoms_cons (atom_string _) ?_))) rfl | exact stays_load rfl rfl (loadN_of (z := 3) (by kernel_rfl) (by kernel_rfl) (hl.get 2 rfl) rfl) (same_agg rfl (by repeat (first | exact atoms_nil | refine atoms_cons (atom_int _ _) ?_ | refine atoms_cons (atom_bool _) ?_ | refine atoms_cons (atom_slice _ _ _) ?_ | refine atoms_cons (atom_string _) ?_))) rfl | exact stays_load rfl rfl (loadN_of (z := 3) (by kernel_rfl) (by kernel_rfl) (hl.get 3 rfl) rfl) (same_agg rfl (by repeat (first | exact atoms_nil | refine atoms_cons (atom_int _ _) ?_ | refine atoms_cons (atom_bool _) ?_ | refine atoms_cons (atom_slice _ _ _) ?_ | refine atoms_cons (atom_string _) ?_))) rfl | exact stays_load rfl rfl (load1_of (by kernel_rfl) (hl.get 0 rfl) rfl) (same_atom (by first | exact atom_int _ _ | exact atom_bool _ | exact atom_slice _ _ _)) rfl | exact stays_load rfl rfl (load1_of (by kernel_rfl) (hl.get 1 rfl) rfl) (same_atom (by first | exact atom_int _ _ | exact atom_bool _ | exact atom_slice _ _ _)) rfl | exact stays_load rfl rfl (load1_of (by kernel_rfl) (hl.get 2 rfl) rfl) (same_atom (by first | exact atom_int _ _ | exact atom_bool _ | exact atom_slice _ _ _)) rfl | exact stays_load rfl rfl (load1_of (by kernel_rfl) (hl.get 3 rfl) rfl) (same_atom (by first | exact atom_int _ _ | exact atom_bool _ | exact atom_slice _ _ _)) rfl | exact stays_no (by dsimp only; decide +kernel), ?_⟩)), ?_⟩
  refine rp_end rfl ?_; refine xp_ret rfl ?_
  refine done_ret (ress_cell rfl (loadN_of (z := 3) (by kernel_rfl) (by kernel_rfl) (hl.get 1 rfl) rfl) (ress_cell rfl (loadN_of (z := 3) (by kernel_rfl) (by kernel_rfl) (hl.get 0 rfl) rfl) rfl)) ⟨hl.keep, by rw [low_2 h46]; rfl⟩
noncomputable def c78 : Code := Tryd.f78.body.getD .skip
theorem spec78 (p q : Pt) (hF : Fresh S) (hG : Gl S) : CC Tryd.prog KK 78 [p.v, q.v] S (fun v S' => Keep S S' ∧ v = ri (bwE p q)) := by
 refine cc_enter (c := c78) (n := 33) Tryd.func78 rfl rfl rfl (by kernel_rfl) rfl rfl ?_
 have hl := Hold.start S
 refine xs (by kernel_rfl) ?_; refine re_boxL hl rfl rfl rfl rfl rfl rfl ?_; intro B2 S2 hl; refine re_boxL hl rfl rfl rfl rfl rfl rfl ?_; intro B3 S3 hl; refine re_allocL hl rfl rfl rfl rfl rfl (z := [.int .i64 0, .int .i64 0]) (by kernel_rfl) ?_; intro B4 S4 hl; refine rm rfl ?_; refine re_end rfl ?_; refine xp_seq rfl ?_; refine xs (by kernel_rfl) ?_; refine rr rfl (rd_load rfl rfl (loadN_of (z := 3) (by kernel_rfl) (by kernel_rfl) (hl.get 2 rfl) rfl)) ?_
 refine re_callL hl rfl rfl rfl rfl rfl rfl rfl (spec31 p) ?_; rintro v S1 hk1 rfl hl
 refine rm rfl ?_; refine re_end rfl ?_; refine xs (by kernel_rfl) ?_; refine rm rfl ?_; refine rr rfl (rd_bin rfl rfl rfl rfl) ?_; refine re_end rfl ?_; refine xp_cond rfl rfl (fun h13 => ?_) (fun h13 => ?_)
 ·
  refine xs (by kernel_rfl) ?_; refine rr rfl (rd_build rfl rfl (v := aggL [.int .i64 0, .int .i64 0]) (by rfl)) ?_; refine rm rfl ?_; refine re_storeL hl 0 rfl rfl rfl rfl rfl rfl rfl (by kernel_rfl) rfl ?_; intro S1 hl; refine rm rfl ?_; refine re_end rfl ?_; refine xp_ret rfl ?_
  refine thn_ret (done_ret (ress_cell rfl (loadN_of (z := 2) (by kernel_rfl) (by kernel_rfl) (hl.get 0 rfl) rfl) (ress_tmp rfl rfl)) ⟨hl.keep, by rw [bw_1 h13]; rfl⟩)
 ·
  refine xp_skip rfl ?_; refine xp_seq rfl ?_; refine xs (by kernel_rfl) ?_; refine rr rfl (rd_load rfl rfl (loadN_of (z := 3) (by kernel_rfl) (by kernel_rfl) (hl.get 1 rfl) rfl)) ?_
  refine re_callL hl rfl rfl rfl rfl rfl rfl rfl (spec31 q) ?_; rintro v S1 hk1 rfl hl
  refine rm rfl ?_; refine re_end rfl ?_; refine xs (by kernel_rfl) ?_; refine rm rfl ?_; refine rr rfl (rd_bin rfl rfl rfl rfl) ?_; refine re_end rfl ?_; refine xp_cond rfl rfl (fun h19 => ?_) (fun h19 => ?_)
  ·
   refine xs (by kernel_rfl) ?_; refine rr rfl (rd_build rfl rfl (v := aggL [.int .i64 0, .int .i64 0]) (by rfl)) ?_; refine rm rfl ?_; refine re_storeL hl 0 rfl rfl rfl rfl rfl rfl rfl (by kernel_rfl) rfl ?_; intro S1 hl; refine rm rfl ?_; refine re_end rfl ?_; refine xp_ret rfl ?_
   refine thn_ret (done_ret (ress_cell rfl (loadN_of (z := 2) (by kernel_rfl) (by kernel_rfl) (hl.get 0 rfl) rfl) (ress_tmp rfl rfl)) ⟨hl.keep, by rw [bw_2 h13 h19]; rfl⟩)
  ·
   refine xp_skip rfl ?_; refine xs (by kernel_rfl) ?_; refine rr rfl (rd_load rfl rfl (loadN_of (z := 3) (by kernel_rfl) (by kernel_rfl) (hl.get 2 rfl) rfl)) ?_; refine rr rfl (rd_load rfl rfl (loadN_of (z := 3) (by kernel_rfl) (by kernel_rfl) (hl.get 1 rfl) rfl)) ?_
   refine re_callL hl rfl rfl rfl rfl rfl rfl rfl (spec81 p q (hG.keep hl.keep)) ?_; rintro v S1 hk1 rfl hl
   iterate 3 refine rm rfl ?_
   refine re_allocL hl rfl rfl rfl rfl rfl (z := [.int .i64 0, .int .i64 0, .int .i64 0]) (by kernel_rfl) ?_; intro B8 S8 hl; refine re_allocL hl rfl rfl rfl rfl rfl (z := [.int .i64 0, .int .i64 0, .int .i64 0]) (by kernel_rfl) ?_; intro B9 S9 hl; refine re_storeL hl 1 rfl rfl rfl rfl rfl rfl rfl (by kernel_rfl) rfl ?_; intro S1 hl; refine re_storeL hl 0 rfl rfl rfl rfl rfl rfl rfl (by kernel_rfl) rfl ?_; intro S1 hl; refine re_end rfl ?_; refine xs (by kernel_rfl) ?_; refine rr rfl (rd_load rfl rfl (loadN_of (z := 3) (by kernel_rfl) (by kernel_rfl) (hl.get 1 rfl) rfl)) ?_
   refine rr rfl (rd_load rfl rfl (loadN_of (z := 3) (by kernel_rfl) (by kernel_rfl) (hl.get 0 rfl) rfl)) ?_
   refine re_callL hl rfl rfl rfl rfl rfl rfl rfl (spec87 (lowE p q).1 (lowE p q).2 (hl.keep.3 hF) (hG.keep hl.keep)) ?_; rintro v S1 hk1 rfl hl
   iterate 2 refine rm rfl ?_
   refine re_storeL hl 2 rfl rfl rfl rfl rfl rfl rfl (by kernel_rfl) rfl ?_; intro S1 hl; refine rm rfl ?_; refine re_end rfl ?_; refine xp_ret rfl ?_
   refine done_ret (ress_cell rfl (loadN_of (z := 2) (by kernel_rfl) (by kernel_rfl) (hl.get 2 rfl) rfl) (ress_tmp rfl rfl)) ⟨hl.keep, by rw [bw_3 h13 h19]; rfl⟩
noncomputable def c79 : Code := Tryd.f79.body.getD .skip
theorem spec79 (i : Iv) (h0 : 0 ≤ i.st) (h1 : i.st ≤ 62) (h2 : -5000 ≤ i.hf) (h3 : i.hf ≤ 5000) : CC Tryd.prog KK 79 [i.v] S (fun v S' => Keep S S' ∧ v = (spI i).v) := by
 refine cc_enter (c := c79) (n := 14) Tryd.func79 rfl rfl rfl (by kernel_rfl) rfl rfl ?_
 have hl := Hold.start S
 have hq := quo_bd (a := i.st) (b := 7) (by omega) h0
 refine xs (by kernel_rfl) ?_; refine re_boxL hl rfl rfl rfl rfl rfl rfl ?_; intro B1 S1 hl; refine re_allocL hl rfl rfl rfl rfl rfl (z := [.int .i64 0, .int .i64 0]) (by kernel_rfl) ?_; intro B2 S2 hl; refine re_end rfl ?_; refine xs (by kernel_rfl) ?_; refine rr rfl (rd_fieldAddr rfl rfl (fa Tryd.underlying148 az148 rfl)) ?_; refine rr rfl (rl hl 1 rfl rfl (by kernel_rfl) rfl rfl) ?_; refine rr rfl (rd_bin rfl rfl rfl (remV (by omega))) ?_; refine rr rfl (rd_fieldAddr rfl rfl (fa Tryd.underlying148 az148 rfl)) ?_; refine rr rfl (rl hl 1 rfl rfl (by kernel_rfl) rfl rfl) ?_
 refine rr rfl (rd_fieldAddr rfl rfl (fa Tryd.underlying148 az148 rfl)) ?_; refine rr rfl (rl hl 1 rfl rfl (by kernel_rfl) rfl rfl) ?_; refine rr rfl (rd_bin rfl rfl rfl (quoV (by omega) (by omega) (by omega))) ?_; iterate 2 refine rr rfl (rd_bin rfl rfl rfl (i6 (by omega))) ?_
 refine rr rfl (rd_build rfl rfl (v := aggL [.int .i64 (i.st.tmod 7), .int .i64 (i.hf - 12 * (i.st.tdiv 7))]) (by rfl)) ?_; refine re_storeL hl 0 rfl rfl rfl rfl rfl rfl rfl (by kernel_rfl) rfl ?_; intro S1 hl; refine re_end rfl ?_; refine xp_ret rfl ?_
 refine done_ret (ress_cell rfl (loadN_of (z := 2) (by kernel_rfl) (by kernel_rfl) (hl.get 0 rfl) rfl) rfl) ⟨hl.keep, rfl⟩
noncomputable def c65 : Code := Tryd.f65.body.getD .skip
theorem spec65 (p q : Pt) (hF : Fresh S) (hG : Gl S) : CC Tryd.prog KK 65 [p.v, q.v] S (fun v S' => Keep S S' ∧ v = ri (spE p q)) := by
 refine cc_enter (c := c65) (n := 20) Tryd.func65 rfl rfl rfl (by kernel_rfl) rfl rfl ?_
 have hl := Hold.start S
 refine xs (by kernel_rfl) ?_; refine re_boxL hl rfl rfl rfl rfl rfl rfl ?_; intro B2 S2 hl; refine re_boxL hl rfl rfl rfl rfl rfl rfl ?_; intro B3 S3 hl; refine re_allocL hl rfl rfl rfl rfl rfl (z := [.int .i64 0, .int .i64 0]) (by kernel_rfl) ?_; intro B4 S4 hl; refine rm rfl ?_; refine re_end rfl ?_; refine xs (by kernel_rfl) ?_; refine rr rfl (rd_load rfl rfl (loadN_of (z := 3) (by kernel_rfl) (by kernel_rfl) (hl.get 2 rfl) rfl)) ?_; refine rr rfl (rd_load rfl rfl (loadN_of (z := 3) (by kernel_rfl) (by kernel_rfl) (hl.get 1 rfl) rfl)) ?_
 refine re_callL hl rfl rfl rfl rfl rfl rfl rfl (spec78 p q (hl.keep.3 hF) (hG.keep hl.keep)) ?_; rintro v S1 hk1 rfl hl
 iterate 3 refine rm rfl ?_
 refine re_allocL hl rfl rfl rfl rfl rfl (z := [.int .i64 0, .int .i64 0]) (by kernel_rfl) ?_; intro B6 S6 hl; refine re_storeL hl 0 rfl rfl rfl rfl rfl rfl rfl (by kernel_rfl) rfl ?_; intro S1 hl; refine rm rfl ?_; refine re_end rfl ?_; refine xp_seq rfl ?_; refine xs (by kernel_rfl) ?_; refine rm rfl ?_; refine rr rfl (rd_bin rfl rfl rfl rfl) ?_; refine re_end rfl ?_; refine xp_cond rfl rfl (fun h15 => ?_) (fun h15 => ?_)
 ·
  refine xs (by kernel_rfl) ?_; refine rr rfl (rd_build rfl rfl (v := aggL [.int .i64 0, .int .i64 0]) (by rfl)) ?_; refine rm rfl ?_; refine re_storeL hl 1 rfl rfl rfl rfl rfl rfl rfl (by kernel_rfl) rfl ?_; intro S1 hl; refine rm rfl ?_; refine re_end rfl ?_; refine xp_ret rfl ?_
  refine thn_ret (done_ret (ress_cell rfl (loadN_of (z := 2) (by kernel_rfl) (by kernel_rfl) (hl.get 1 rfl) rfl) (ress_tmp rfl rfl)) ⟨hl.keep, by rw [sp_1 h15]; rfl⟩)
 ·
  have hb := bw_bd h15
  refine xp_skip rfl ?_; refine xs (by kernel_rfl) ?_; refine rr rfl (rd_load rfl rfl (loadN_of (z := 2) (by kernel_rfl) (by kernel_rfl) (hl.get 0 rfl) rfl)) ?_
  refine re_callL hl rfl rfl rfl rfl rfl rfl rfl (spec79 (bwE p q).1 hb.1 hb.2.1 hb.2.2.1 hb.2.2.2) ?_; rintro v S1 hk1 rfl hl
  refine re_storeL hl 1 rfl rfl rfl rfl rfl rfl rfl (by kernel_rfl) rfl ?_; intro S1 hl; refine rm rfl ?_; refine re_end rfl ?_; refine xp_ret rfl ?_
  refine done_ret (ress_cell rfl (loadN_of (z := 2) (by kernel_rfl) (by kernel_rfl) (hl.get 1 rfl) rfl) (ress_tmp rfl rfl)) ⟨hl.keep, by rw [sp_2 h15]; rfl⟩
end Go.Proofs.YtlnenodplgpceaaDoor
namespace Go.Proofs.YtlnenodplgpceaaDoor
open Go.Cm Go
set_option maxRecDepth 100000
variable {S : St}
noncomputable def c64 : Code := Tryd.f64.body.getD .skip
theorem spec64 (p q : Pt) (hF : Fresh S) (hG : Gl S) : CC Tryd.prog KK 64 [p.v, q.v] S (fun v S' => Keep S S' ∧ v = tupV [.int .i64 (kdE p q).1, .int .i64 (kdE p q).2]) := by
 refine cc_enter (c := c64) (n := 42) Tryd.func64 rfl rfl rfl (by kernel_rfl) rfl rfl ?_
 have hl := Hold.start S
 refine xs (by kernel_rfl) ?_; refine re_boxL hl rfl rfl rfl rfl rfl rfl ?_; intro B2 S2 hl; refine re_boxL hl rfl rfl rfl rfl rfl rfl ?_; intro B3 S3 hl; iterate 2 refine rm rfl ?_
 refine re_end rfl ?_; refine xs (by kernel_rfl) ?_; refine rr rfl (rd_load rfl rfl (loadN_of (z := 3) (by kernel_rfl) (by kernel_rfl) (hl.get 1 rfl) rfl)) ?_; refine rr rfl (rd_load rfl rfl (loadN_of (z := 3) (by kernel_rfl) (by kernel_rfl) (hl.get 0 rfl) rfl)) ?_
 refine re_callL hl rfl rfl rfl rfl rfl rfl rfl (spec65 p q (hl.keep.3 hF) (hG.keep hl.keep)) ?_; rintro v S1 hk1 rfl hl
 iterate 3 refine rm rfl ?_
 refine re_allocL hl rfl rfl rfl rfl rfl (z := [.int .i64 0, .int .i64 0]) (by kernel_rfl) ?_; intro B6 S6 hl; refine re_storeL hl 0 rfl rfl rfl rfl rfl rfl rfl (by kernel_rfl) rfl ?_; intro S1 hl; refine rm rfl ?_; refine re_end rfl ?_; refine xp_seq rfl ?_; refine xs (by kernel_rfl) ?_; refine rm rfl ?_; refine rr rfl (rd_bin rfl rfl rfl rfl) ?_; refine re_end rfl ?_; refine xp_cond rfl rfl (fun h15 => ?_) (fun h15 => ?_)
 ·
  refine xs (by kernel_rfl) ?_; iterate 3 refine rm rfl ?_
  refine re_end rfl ?_; refine xp_ret rfl ?_
  refine thn_ret (done_ret (ress_tmp rfl (ress_tmp rfl rfl)) ⟨hl.keep, by rw [kd_1 h15]⟩)
 ·
  have hb := sp_bd h15
  refine xp_skip rfl ?_; refine xp_seq rfl ?_; refine xp_seq rfl (xe_toE hl 34 (.bool (kdB (spE p q).1)) ?_ rfl ?_)
  ·
   refine xp_draw (idx := [0, 1, 2, 3, 4, 5, 6, 7, 8, 9, 10, 11, 12, 13, 14, 15, 16, 17]) rfl (by kernel_rfl) (by kernel_rfl) ?_; refine pr rfl (rd_fieldAddr rfl rfl (fa Tryd.underlying148 az148 rfl)) ?_; refine pk rfl (rl hl 0 rfl rfl (by kernel_rfl) rfl rfl) ?_; refine pr rfl (rd_bin rfl rfl rfl rfl) ?_; refine pm rfl ?_; refine rp_bool (d := 20) rfl (fun h20 => ?_) (fun h20 => ?_)
   ·
    refine pr rfl (rd_fieldAddr rfl rfl (fa Tryd.underlying148 az148 rfl)) ?_; refine pk rfl (rl hl 0 rfl rfl (by kernel_rfl) rfl rfl) ?_; refine pr rfl (rd_bin rfl rfl rfl rfl) ?_; iterate 2 refine pm rfl ?_
    refine rp_bool (d := 25) rfl (fun h25 => ?_) (fun h25 => ?_)
    ·
     refine pr rfl (rd_fieldAddr rfl rfl (fa Tryd.underlying148 az148 rfl)) ?_; refine pk rfl (rl hl 0 rfl rfl (by kernel_rfl) rfl rfl) ?_; refine pr rfl (rd_fieldAddr rfl rfl (fa Tryd.underlying148 az148 rfl)) ?_; refine pk rfl (rl hl 0 rfl rfl (by kernel_rfl) rfl rfl) ?_
     have hh : 0 ≤ (spE p q).1.hf ∧ (spE p q).1.hf < 13 := by simp at h20 h25; omega
     refine pr rfl (rd_indexAddr rfl rfl rfl (indexAddr_array (b := 0) (o := 0) (len := 7) (z := 13) Tryd.underlying163 (by kernel_rfl) ⟨hb.1, hb.2⟩)) ?_; refine pr rfl (rd_indexAddr rfl rfl rfl (indexAddr_array (b := 0) (o := 0 + (spE p q).1.st.toNat * 13) (len := 13) (z := 1) Tryd.underlying162 (by kernel_rfl) ⟨hh.1, hh.2⟩)) ?_; refine pk rfl (rd_load rfl rfl (load1_of (by kernel_rfl) (hG.keep hl.keep).2.1 (kinds_at hb.1 hb.2 hh.1 hh.2))) ?_; refine pr rfl (rd_bin rfl rfl rfl rfl) ?_; refine pm rfl ?_; refine rp_end rfl ?_
     exact ⟨rfl, bl (by unfold kdB; rw [h20, h25]; rfl), by repeat (first | exact subL_refl _ | refine subL_skip rfl ?_), hl⟩
    ·
     iterate 8 refine pz rfl ?_
     refine pm rfl ?_; refine rp_end rfl ?_
     exact ⟨rfl, bl (by unfold kdB; rw [h20, h25]; rfl), by repeat (first | exact subL_refl _ | refine subL_skip rfl ?_), hl⟩
   ·
    iterate 3 refine pz rfl ?_
    iterate 2 refine pm rfl ?_
    iterate 8 refine pz rfl ?_
    refine pm rfl ?_; refine rp_end rfl ?_
    exact ⟨rfl, bl (by unfold kdB; rw [h20]; rfl), by repeat (first | exact subL_refl _ | refine subL_skip rfl ?_), hl⟩
  intro S1 hl
  refine xp_cond rfl rfl (fun h34 => ?_) (fun h34 => ?_)
  ·
   refine xp_seq rfl ?_
   have hh := kdB_ok h34
   refine xp_draw (idx := [0, 1, 2, 3, 4, 5, 6, 7, 8]) rfl (by kernel_rfl) (by kernel_rfl) ?_; refine pr rfl (rd_fieldAddr rfl rfl (fa Tryd.underlying148 az148 rfl)) ?_; refine pk rfl (rl hl 0 rfl rfl (by kernel_rfl) rfl rfl) ?_; refine pr rfl (rd_fieldAddr rfl rfl (fa Tryd.underlying148 az148 rfl)) ?_; refine pk rfl (rl hl 0 rfl rfl (by kernel_rfl) rfl rfl) ?_; refine pr rfl (rd_indexAddr rfl rfl rfl (indexAddr_array (b := 0) (o := 0) (len := 7) (z := 13) Tryd.underlying163 (by kernel_rfl) ⟨hb.1, hb.2⟩)) ?_
   refine pr rfl (rd_indexAddr rfl rfl rfl (indexAddr_array (b := 0) (o := 0 + (spE p q).1.st.toNat * 13) (len := 13) (z := 1) Tryd.underlying162 (by kernel_rfl) ⟨hh.1, hh.2⟩)) ?_; refine pk rfl (rd_load rfl rfl (load1_of (by kernel_rfl) (hG.keep hl.keep).2.1 (kinds_at hb.1 hb.2 hh.1 hh.2))) ?_; iterate 2 refine pm rfl ?_
   refine rp_end rfl ?_; refine xp_ret rfl ?_
   refine thn_ret (done_ret (ress_tmp rfl (ress_tmp rfl rfl)) ⟨hl.keep, by rw [kd_2 h15 h34]⟩)
  ·
   refine xp_skip rfl ?_; refine xs (by kernel_rfl) ?_; iterate 2 refine rm rfl ?_
   refine re_end rfl ?_; refine xp_ret rfl ?_
   refine done_ret (ress_tmp rfl (ress_tmp rfl rfl)) ⟨hl.keep, by rw [kd_3 h15 h34]⟩
end Go.Proofs.YtlnenodplgpceaaDoor
namespace Go.Proofs.YtlnenodplgpceaaDoor
open Go.Cm Go
set_option maxRecDepth 100000
variable {S : St}
noncomputable def c66 : Code := Tryd.f66.body.getD .skip
theorem spec66 (a : Option Addr) (cap : Nat) (C : List Pt) (hv : Pts S (.slice a C.length cap) C) : CC Tryd.prog KK 66 [.slice a C.length cap] S (fun v S' => Keep S S' ∧ v = .int .i64 (chkE C)) := by
 refine cc_enter (c := c66) (n := 21) Tryd.func66 rfl rfl rfl (by kernel_rfl) rfl rfl ?_
 have hl := Hold.start S
 refine xs (by kernel_rfl) ?_; refine rm rfl ?_; refine re_end rfl ?_; refine xp_seq rfl ?_; refine xs (by kernel_rfl) ?_; refine rm rfl ?_; refine rr rfl (rd_len rfl rfl (len_slice Tryd.underlying119)) ?_; refine rr rfl (rd_bin rfl rfl rfl rfl) ?_; refine re_end rfl ?_; refine xp_cond rfl rfl (fun h8 => ?_) (fun h8 => ?_)
 ·
  refine xs (by kernel_rfl) ?_; refine rm rfl ?_; refine re_end rfl ?_; refine xp_ret rfl ?_
  refine thn_ret (done_ret (ress_tmp rfl rfl) ⟨hl.keep, congrArg (Value.int .i64) (chk_1 h8).symm⟩)
 ·
  refine xp_skip rfl ?_; refine xp_seq rfl ?_; refine xs (by kernel_rfl) ?_; refine rm rfl ?_; refine rr rfl (rd_len rfl rfl (len_slice Tryd.underlying119)) ?_; refine rm rfl ?_; refine re_end rfl ?_; refine xp_block rfl ?_
  -- LOOP
  have hn : (C.length : Int) ≤ 8 := by have := of_decide_eq_false h8; omega
  refine xe_sub (L' := [(11, .int .i64 0), (10, .int .i64 C.length), (9, .slice a C.length cap), (2, .int .i64 0)]) ⟨rfl, rfl, rfl, rfl, trivial⟩ ?_
  refine xp_loop rfl (fun m Le S' => ∃ i : Nat, i ≤ C.length ∧ m = C.length - i ∧ SubE [(11, .int .i64 (i : Int)), (10, .int .i64 C.length), (9, .slice a C.length cap), (2, .int .i64 0)] Le ∧ fstP (C.drop i) = fstP C ∧ Hold S [S] S' []) ?_ (m := C.length) ⟨0, by omega, rfl, ⟨rfl, rfl, rfl, rfl, trivial⟩, rfl, hl⟩
  clear hl; rintro m Le S' ⟨i, hi, rfl, hsub, hin, hl⟩; refine xe_sub hsub ?_
  refine xs (by kernel_rfl) ?_; refine rr rfl (rd_bin rfl rfl rfl rfl) ?_; refine re_end rfl ?_; refine xp_seq rfl ?_; refine xp_cond rfl rfl (fun h12 => ?_) (fun h12 => ?_)
  ·
   have hlt : i < C.length := by have := of_decide_eq_true h12; omega
   obtain ⟨x, hx⟩ := nth_some hlt
   obtain ⟨b1, o1, cs1, ha, _, hrow, htk⟩ := hv.elem hx
   refine xp_skip rfl ?_; refine xp_seq rfl ?_; refine xp_block rfl ?_; refine xs (by kernel_rfl) ?_; refine rr rfl (rd_indexAddr rfl rfl rfl (indexAddr_sl (z := 3) ha Tryd.underlying119 (by kernel_rfl) ⟨by omega, by first | omega | (simp only [List.length_cons]; omega)⟩)) ?_; refine rr rfl (rd_load rfl rfl (loadN_row (z := 3) (by kernel_rfl) (by kernel_rfl) (row_move (hl.since 0 rfl) hrow) htk)) ?_; refine re_allocL hl rfl rfl rfl rfl rfl (z := [.int .i64 0, .int .i64 0, .int .i64 0]) (by kernel_rfl) ?_; intro B4 S4 hl
   refine re_storeL hl 0 rfl rfl rfl rfl rfl rfl rfl (by kernel_rfl) rfl ?_; intro S1 hl; refine re_end rfl ?_; refine xs (by kernel_rfl) ?_; refine rr rfl (rd_load rfl rfl (loadN_of (z := 3) (by kernel_rfl) (by kernel_rfl) (hl.get 0 rfl) rfl)) ?_
   refine re_callL hl rfl rfl rfl rfl rfl rfl rfl (spec31 x) ?_; rintro v S1 hk1 rfl hl
   refine rm rfl ?_; refine re_end rfl ?_; refine xs (by kernel_rfl) ?_; refine rm rfl ?_; refine rr rfl (rd_bin rfl rfl rfl rfl) ?_; refine re_end rfl ?_; refine xp_cond rfl rfl (fun h18 => ?_) (fun h18 => ?_)
   ·
    refine xs (by kernel_rfl) ?_; iterate 2 refine rm rfl ?_
    refine re_end rfl ?_; refine xp_ret rfl ?_
    refine blk_ret (thn_ret (round_ret (blk_ret (thn_ret (done_ret (ress_tmp rfl rfl) ⟨hl.keep, congrArg (Value.int .i64) (by rw [chk_2 h8, ← hin, drop_nth' hx, fstP_bad h18])⟩)))))
   ·
    refine xp_skip rfl ?_; refine xg (by kernel_rfl) ?_; refine rr rfl (rd_bin rfl rfl rfl (i6 (by omega))) ?_; refine rm rfl ?_; refine re_end rfl ?_
    exact ⟨C.length - (i + 1), by omega, i + 1, by omega, rfl, ⟨rfl, rfl, rfl, rfl, trivial⟩, by rw [← fstP_go h18, ← drop_nth' hx]; exact hin, hl.tail⟩
  ·
   refine xp_exit rfl ?_; refine xs (by kernel_rfl) ?_; refine rm rfl ?_; refine re_end rfl ?_; refine xp_ret rfl ?_
   refine done_ret (ress_tmp rfl rfl) ⟨hl.keep, congrArg (Value.int .i64) (by rw [chk_2 h8, ← hin, List.drop_eq_nil_of_le (by have := of_decide_eq_false h12; omega)]; rfl)⟩
noncomputable def c80 : Code := Tryd.f80.body.getD .skip
theorem spec80 (a : Option Addr) (cap : Nat) (C : List Pt) (hG : Gl S) (hn : C.length ≤ 1000) (hv : Pts S (.slice a C.length cap) C) : CC Tryd.prog KK 80 [.slice a C.length cap] S (fun v S' => Keep S S' ∧ v = .int .i64 (bsE C : Nat)) := by
 refine cc_enter (c := c80) (n := 66) Tryd.func80 rfl rfl rfl (by kernel_rfl) rfl rfl ?_
 have hl := Hold.start S
 refine xs (by kernel_rfl) ?_; refine rm rfl ?_; refine re_end rfl ?_; refine xs (by kernel_rfl) ?_; refine rm rfl ?_; refine re_end rfl ?_; refine xp_seq rfl ?_; refine xs (by kernel_rfl) ?_; refine rm rfl ?_; refine rr rfl (rd_len rfl rfl (len_slice Tryd.underlying119)) ?_; refine rm rfl ?_; refine re_end rfl ?_; refine xp_block rfl ?_
 -- LOOP
 refine xe_sub (L' := [(15, .int .i64 0), (14, .int .i64 C.length), (3, .int .i64 0), (2, .int .i64 0), (0, .slice a C.length cap)]) ⟨rfl, rfl, rfl, rfl, rfl, trivial⟩ ?_
 refine xp_loop rfl (fun m Le S' => ∃ i k : Nat, i ≤ C.length ∧ m = C.length - i ∧ (0 < C.length → k < C.length) ∧ SubE [(15, .int .i64 (i : Int)), (14, .int .i64 C.length), (3, .int .i64 (k : Int)), (2, .int .i64 0), (0, .slice a C.length cap)] Le ∧ bsG C (C.drop i) i k = bsE C ∧ Hold S [S] S' []) ?_ (m := C.length) ⟨0, 0, by omega, rfl, id, ⟨rfl, rfl, rfl, rfl, rfl, trivial⟩, rfl, hl⟩
 clear hl; rintro m Le S' ⟨i, k, hi, rfl, hk, hsub, hin, hl⟩; refine xe_sub hsub ?_
 refine xs (by kernel_rfl) ?_; refine rr rfl (rd_bin rfl rfl rfl rfl) ?_; refine re_end rfl ?_; refine xp_seq rfl ?_; refine xp_cond rfl rfl (fun h16 => ?_) (fun h16 => ?_)
 ·
  have hlt : i < C.length := by have := of_decide_eq_true h16; omega
  have hk2 : k < C.length := hk (by omega)
  obtain ⟨x, hx⟩ := nth_some hlt
  obtain ⟨y, hy⟩ := nth_some hk2
  obtain ⟨b1, o1, cs1, ha, _, hrow, htk⟩ := hv.elem hx
  obtain ⟨b2, o2, cs2, ha2, _, hrow2, htk2⟩ := hv.elem hy
  refine xp_skip rfl ?_; refine xp_seq rfl ?_; refine xp_block rfl ?_; refine xs (by kernel_rfl) ?_; iterate 2 refine rm rfl ?_
  refine re_end rfl ?_; refine xs (by kernel_rfl) ?_; iterate 2 refine rm rfl ?_
  refine rr rfl (rd_indexAddr rfl rfl rfl (indexAddr_sl (z := 3) ha Tryd.underlying119 (by kernel_rfl) ⟨by omega, by first | omega | (simp only [List.length_cons]; omega)⟩)) ?_; refine rr rfl (rd_load rfl rfl (loadN_row (z := 3) (by kernel_rfl) (by kernel_rfl) (row_move (hl.since 0 rfl) hrow) htk)) ?_
  refine re_callL hl rfl rfl rfl rfl rfl rfl rfl (spec88 x (hG.keep hl.keep)) ?_; rintro v S1 hk1 rfl hl
  iterate 5 refine rm rfl ?_
  refine re_end rfl ?_; refine xs (by kernel_rfl) ?_; iterate 2 refine rm rfl ?_
  refine rr rfl (rd_indexAddr rfl rfl rfl (indexAddr_sl (z := 3) ha2 Tryd.underlying119 (by kernel_rfl) ⟨by omega, by first | omega | (simp only [List.length_cons]; omega)⟩)) ?_; refine rr rfl (rd_load rfl rfl (loadN_row (z := 3) (by kernel_rfl) (by kernel_rfl) (row_move (hl.since 0 rfl) hrow2) htk2)) ?_
  refine re_callL hl rfl rfl rfl rfl rfl rfl rfl (spec88 y (hG.keep hl.keep)) ?_; rintro v S1 hk1 rfl hl
  iterate 5 refine rm rfl ?_
  refine re_end rfl ?_; refine xs (by kernel_rfl) ?_; iterate 2 refine rm rfl ?_
  refine rr rfl (rd_indexAddr rfl rfl rfl (indexAddr_sl (z := 3) ha Tryd.underlying119 (by kernel_rfl) ⟨by omega, by first | omega | (simp only [List.length_cons]; omega)⟩)) ?_; refine rr rfl (rd_load rfl rfl (loadN_row (z := 3) (by kernel_rfl) (by kernel_rfl) (row_move (hl.since 0 rfl) hrow) htk)) ?_
  refine re_callL hl rfl rfl rfl rfl rfl rfl rfl (spec63 x) ?_; rintro v S1 hk1 rfl hl
  iterate 5 refine rm rfl ?_
  refine re_end rfl ?_; refine xs (by kernel_rfl) ?_; iterate 2 refine rm rfl ?_
  refine rr rfl (rd_indexAddr rfl rfl rfl (indexAddr_sl (z := 3) ha2 Tryd.underlying119 (by kernel_rfl) ⟨by omega, by first | omega | (simp only [List.length_cons]; omega)⟩)) ?_; refine rr rfl (rd_load rfl rfl (loadN_row (z := 3) (by kernel_rfl) (by kernel_rfl) (row_move (hl.since 0 rfl) hrow2) htk2)) ?_
  refine re_callL hl rfl rfl rfl rfl rfl rfl rfl (spec63 y) ?_; rintro v S1 hk1 rfl hl
  iterate 5 refine rm rfl ?_
  refine re_end rfl ?_; refine xp_seq rfl (xe_toE hl 62 (.bool (bsB x y)) ?_ rfl ?_)
  ·
   refine xg (by kernel_rfl) ?_; iterate 2 refine rm rfl ?_
   refine rr rfl (rd_bin rfl rfl rfl rfl) ?_; refine rm rfl ?_; refine re_bool (d := 53) rfl (fun h53 => ?_) (fun h53 => ?_)
   ·
    iterate 8 refine rz rfl ?_
    refine rm rfl ?_; refine re_end rfl ?_
    exact ⟨rfl, bl (by unfold bsB; rw [h53]; rfl), by repeat (first | exact subL_refl _ | refine subL_skip rfl ?_), hl⟩
   ·
    iterate 2 refine rm rfl ?_
    refine rr rfl (rd_bin rfl rfl rfl rfl) ?_; refine rm rfl ?_; refine re_bool (d := 57) rfl (fun h57 => ?_) (fun h57 => ?_)
    ·
     iterate 2 refine rm rfl ?_
     refine rr rfl (rd_bin rfl rfl rfl rfl) ?_; iterate 2 refine rm rfl ?_
     refine re_end rfl ?_
     exact ⟨rfl, bl (by unfold bsB; rw [h53, h57]; rfl), by repeat (first | exact subL_refl _ | refine subL_skip rfl ?_), hl⟩
    ·
     iterate 3 refine rz rfl ?_
     iterate 2 refine rm rfl ?_
     refine re_end rfl ?_
     exact ⟨rfl, bl (by unfold bsB; rw [h53, h57]; rfl), by repeat (first | exact subL_refl _ | refine subL_skip rfl ?_), hl⟩
  intro S1 hl
  refine xp_cond rfl rfl (fun h62 => ?_) (fun h62 => ?_)
  ·
   refine xg (by kernel_rfl) ?_; iterate 2 refine rm rfl ?_
   refine re_end rfl ?_; refine xg (by kernel_rfl) ?_; refine rr rfl (rd_bin rfl rfl rfl (i6 (by omega))) ?_; refine rm rfl ?_; refine re_end rfl ?_
   exact ⟨C.length - (i + 1), by omega, i + 1, i, by omega, rfl, fun _ => hlt, ⟨rfl, rfl, rfl, rfl, rfl, trivial⟩, by rw [← bsG_yes hx hy h62]; exact hin, hl⟩
  ·
   refine xp_skip rfl ?_; refine xg (by kernel_rfl) ?_; refine rr rfl (rd_bin rfl rfl rfl (i6 (by omega))) ?_; refine rm rfl ?_; refine re_end rfl ?_
   exact ⟨C.length - (i + 1), by omega, i + 1, k, by omega, rfl, hk, ⟨rfl, rfl, rfl, rfl, rfl, trivial⟩, by rw [← bsG_no hx hy h62]; exact hin, hl⟩
 ·
  refine xp_exit rfl ?_; refine xs (by kernel_rfl) ?_; iterate 2 refine rm rfl ?_
  refine re_end rfl ?_; refine xp_ret rfl ?_
  refine done_ret (ress_tmp rfl rfl) ⟨hl.keep, congrArg (fun n : Nat => Value.int .i64 n) (by rw [← hin, List.drop_eq_nil_of_le (by have := of_decide_eq_false h16; omega)]; rfl)⟩
end Go.Proofs.YtlnenodplgpceaaDoor
namespace Go.Proofs.YtlnenodplgpceaaDoor
open Go.Cm Go
set_option maxRecDepth 100000
variable {S : St}
theorem cl_nil {S S' : St} {C : List Pt} (h : ((C.length : Int) == 0) = true) : ∃ av, (tupV [.slice none 0 0] : Value) = .slice av (clE C).length (clE C).length ∧ Grow S S' (gOf 127 3 Cl.cells (tupV [.slice none 0 0]) (clE C)) := by
 have e : C = [] := List.length_eq_zero_iff.1 (by simpa using h)
 subst e
 exact ⟨none, rfl, .inl ⟨rfl, rfl, rfl⟩⟩
theorem cl_end {S S' : St} {C : List Pt} {low : Pt} {av : Option Addr} {O : List Cl} (hlow : nth C (bsE C) = some low) (h : O = clO low C C 0) (hg : Grow S S' (gOf 127 3 Cl.cells (.slice av O.length O.length) O)) : ∃ bv, (tupV [.slice av O.length O.length] : Value) = .slice bv (clE C).length (clE C).length ∧ Grow S S' (gOf 127 3 Cl.cells (tupV [.slice av O.length O.length]) (clE C)) := by
 have he : clE C = O := by unfold clE; rw [hlow, Option.getD_some, h]
 rw [he]
 exact ⟨av, rfl, hg⟩
noncomputable def c67 : Code := Tryd.f67.body.getD .skip
theorem spec67 (a : Option Addr) (cap : Nat) (C : List Pt) (hF : Fresh S) (hG : Gl S) (hn : C.length ≤ 8) (hv : Pts S (.slice a C.length cap) C) : CC Tryd.prog KK 67 [.slice a C.length cap, .int .i64 (-1)] S (fun v S' => Keep S S' ∧ ∃ av, v = .slice av (clE C).length (clE C).length ∧ Grow S S' (gOf 127 3 Cl.cells v (clE C))) := by
 refine cc_enter (c := c67) (n := 87) Tryd.func67 rfl rfl rfl (by kernel_rfl) rfl rfl ?_
 have hl := Hold.start S
 refine xs (by kernel_rfl) ?_; refine rm rfl ?_; refine re_end rfl ?_; refine xp_scope rfl ?_; refine xp_seq rfl ?_; refine xs (by kernel_rfl) ?_; refine rm rfl ?_; refine rr rfl (rd_len rfl rfl (len_slice Tryd.underlying119)) ?_; refine rr rfl (rd_bin rfl rfl rfl rfl) ?_; refine re_end rfl ?_; refine xp_cond rfl rfl (fun h15 => ?_) (fun h15 => ?_)
 ·
  refine xs (by kernel_rfl) ?_; refine rm rfl ?_; refine re_end rfl ?_; refine xp_ret rfl ?_
  refine thn_ret (scp_ret (done_ret (ress_tmp rfl rfl) ⟨hl.keep, (cl_nil h15)⟩))
 ·
  refine xp_skip rfl ?_; refine xs (by kernel_rfl) ?_; iterate 2 refine rm rfl ?_
  have hn0 : 0 < C.length := by have := h15; simp at this; cases C with
   | nil => exact absurd rfl this
   | cons => simp
  obtain ⟨low, hlow⟩ := nth_some (bsE_lt hn0)
  obtain ⟨b0, o0, cs0, ha0, _, hrow0, htk0⟩ := hv.elem hlow
  refine re_callL hl rfl rfl rfl rfl rfl rfl rfl (spec80 a cap C (hG.keep hl.keep) (by omega) (hv.move (hl.since 0 rfl))) ?_; rintro v S1 hk1 rfl hl
  refine rr rfl (rd_indexAddr rfl rfl rfl (indexAddr_sl (z := 3) ha0 Tryd.underlying119 (by kernel_rfl) ⟨by omega, by have := bsE_lt hn0; omega⟩)) ?_; refine rr rfl (rd_load rfl rfl (loadN_row (z := 3) (by kernel_rfl) (by kernel_rfl) (row_move (hl.since 0 rfl) hrow0) htk0)) ?_; refine re_allocL hl rfl rfl rfl rfl rfl (z := [.int .i64 0, .int .i64 0, .int .i64 0]) (by kernel_rfl) ?_; intro B5 S5 hl; refine re_storeL hl 0 rfl rfl rfl rfl rfl rfl rfl (by kernel_rfl) rfl ?_; intro S1 hl; refine re_end rfl ?_; refine xs (by kernel_rfl) ?_; refine rm rfl ?_; refine re_end rfl ?_; refine xp_seq rfl ?_
  refine xp_label rfl ?_; refine xp_seq rfl ?_; refine xs (by kernel_rfl) ?_; refine rm rfl ?_; refine rr rfl (rd_len rfl rfl (len_slice Tryd.underlying119)) ?_; refine rm rfl ?_; refine re_end rfl ?_; refine xp_block rfl ?_
  -- LOOP
  have hl := hl.addG (g := gOf 127 3 Cl.cells (.slice none 0 0) []) (.inl ⟨rfl, rfl, rfl⟩)
  refine xe_sub (L' := [(23, .int .i64 0), (22, .int .i64 C.length), (6, .slice none ([] : List Cl).length ([] : List Cl).length), (5, ptrTo B5 0), (4, .slice none 0 0), (0, .slice a C.length cap), (1, .int .i64 (-1))]) ⟨rfl, rfl, rfl, rfl, rfl, rfl, rfl, trivial⟩ ?_
  refine xp_loop rfl (fun m Le S' => ∃ (i : Nat) (av : Option Addr) (O : List Cl), i ≤ C.length ∧ m = C.length - i ∧ O.length ≤ 8 * i ∧ O ++ clO low C (C.drop i) i = clO low C C 0 ∧ SubE [(23, .int .i64 (i : Int)), (22, .int .i64 C.length), (6, .slice av O.length O.length), (5, ptrTo B5 0), (4, .slice none 0 0), (0, .slice a C.length cap), (1, .int .i64 (-1))] Le ∧ HoldG S [S] S' [(B5, .cells low.cells 37 false true [])] [gOf 127 3 Cl.cells (.slice av O.length O.length) O]) ?_ (m := C.length) ⟨0, none, [], by omega, by omega, Nat.le_refl _, rfl, ⟨rfl, rfl, rfl, rfl, rfl, rfl, rfl, trivial⟩, hl⟩
  clear hl; rintro m Le S' ⟨i, av, O, hi, rfl, hO, hpr, hsub, hl⟩; refine xe_sub hsub ?_
  refine xs (by kernel_rfl) ?_; refine rr rfl (rd_bin rfl rfl rfl rfl) ?_; refine re_end rfl ?_; refine xp_seq rfl ?_; refine xp_cond rfl rfl (fun h24 => ?_) (fun h24 => ?_)
  ·
   have hlt : i < C.length := by have := of_decide_eq_true h24; omega
   obtain ⟨x, hx⟩ := nth_some hlt
   obtain ⟨b1, o1, cs1, ha1, _, hrow1, htk1⟩ := hv.elem hx
   rw [drop_nth' hx, clO_step] at hpr
   refine xp_skip rfl ?_; refine xp_seq rfl ?_; refine xp_block rfl ?_; refine xs (by kernel_rfl) ?_; iterate 2 refine rm rfl ?_
   refine re_end rfl ?_; refine xs (by kernel_rfl) ?_; refine rm rfl ?_; refine rr rfl (rd_len rfl rfl (len_slice Tryd.underlying119)) ?_; refine rm rfl ?_; refine re_end rfl ?_; refine xp_block rfl ?_
   -- LOOP
   refine xe_sub (L' := [(28, .int .i64 0), (27, .int .i64 C.length), (7, .int .i64 (i : Int)), (23, .int .i64 (i : Int)), (22, .int .i64 C.length), (6, .slice av O.length O.length), (5, ptrTo B5 0), (4, .slice none 0 0), (0, .slice a C.length cap), (1, .int .i64 (-1))]) ⟨rfl, rfl, rfl, rfl, rfl, rfl, rfl, rfl, rfl, rfl, trivial⟩ ?_
   refine xp_loop rfl (fun m Le S' => ∃ (k : Nat) (av : Option Addr) (O2 : List Cl), k ≤ C.length ∧ m = C.length - k ∧ O2.length ≤ 8 * i + k ∧ O2 ++ clI low x i (C.drop k) k = O ++ clI low x i C 0 ∧ SubE [(28, .int .i64 (k : Int)), (27, .int .i64 C.length), (7, .int .i64 (i : Int)), (23, .int .i64 (i : Int)), (22, .int .i64 C.length), (6, .slice av O2.length O2.length), (5, ptrTo B5 0), (4, .slice none 0 0), (0, .slice a C.length cap), (1, .int .i64 (-1))] Le ∧ HoldG S [S] S' [(B5, .cells low.cells 37 false true [])] [gOf 127 3 Cl.cells (.slice av O2.length O2.length) O2]) ?_ (m := C.length) ⟨0, av, O, by omega, by omega, by omega, rfl, ⟨rfl, rfl, rfl, rfl, rfl, rfl, rfl, rfl, rfl, rfl, trivial⟩, hl⟩
   clear hl; rintro m Le S' ⟨k, av2, O2, hk, rfl, hO2, hpr2, hsub2, hl⟩; refine xe_sub hsub2 ?_
   refine xs (by kernel_rfl) ?_; refine rr rfl (rd_bin rfl rfl rfl rfl) ?_; refine re_end rfl ?_; refine xp_seq rfl ?_; refine xp_cond rfl rfl (fun h29 => ?_) (fun h29 => ?_)
   ·
    have hlt2 : k < C.length := by have := of_decide_eq_true h29; omega
    obtain ⟨y, hy⟩ := nth_some hlt2
    obtain ⟨b2, o2, cs2, ha2, _, hrow2, htk2⟩ := hv.elem hy
    rw [drop_nth' hy] at hpr2
    refine xp_skip rfl ?_; refine xp_seq rfl ?_; refine xp_block rfl ?_; refine xs (by kernel_rfl) ?_; iterate 2 refine rm rfl ?_
    refine re_end rfl ?_; refine xp_seq rfl ?_; refine xs (by kernel_rfl) ?_; iterate 2 refine rm rfl ?_
    refine rr rfl (rd_bin rfl rfl rfl rfl) ?_; refine re_end rfl ?_; refine xp_cond rfl rfl (fun h33 => ?_) (fun h33 => ?_)
    ·
     refine xp_exit rfl ?_; refine xg (by kernel_rfl) ?_; refine rr rfl (rd_bin rfl rfl rfl (i6 (by omega))) ?_; refine rm rfl ?_; refine re_end rfl ?_
     exact ⟨C.length - (k + 1), by omega, k + 1, av2, O2, by omega, rfl, by omega, by rw [← hpr2, clI_1 h33], ⟨rfl, rfl, rfl, rfl, rfl, rfl, rfl, rfl, rfl, rfl, trivial⟩, hl⟩
    ·
     refine xp_skip rfl ?_; refine xp_seq rfl ?_; refine xp_draw (idx := [0, 1, 2, 3, 4, 5, 6, 7, 8, 9, 10, 11, 12, 13]) rfl (by kernel_rfl) (by kernel_rfl) ?_; iterate 2 refine pm rfl ?_
     refine pr rfl (rd_indexAddr rfl rfl rfl (indexAddr_sl (z := 3) ha1 Tryd.underlying119 (by kernel_rfl) ⟨by omega, by first | omega | (simp only [List.length_cons]; omega)⟩)) ?_; refine pk rfl (rd_load rfl rfl (loadN_row (z := 3) (by kernel_rfl) (by kernel_rfl) (row_move (hl.since 0 rfl) hrow1) htk1)) ?_; iterate 2 refine pm rfl ?_
     refine pr rfl (rd_indexAddr rfl rfl rfl (indexAddr_sl (z := 3) ha2 Tryd.underlying119 (by kernel_rfl) ⟨by omega, by first | omega | (simp only [List.length_cons]; omega)⟩)) ?_; refine pk rfl (rd_load rfl rfl (loadN_row (z := 3) (by kernel_rfl) (by kernel_rfl) (row_move (hl.since 0 rfl) hrow2) htk2)) ?_
     refine rp_callL hl rfl rfl rfl rfl rfl rfl rfl (spec64 x y (hl.keep.3 hF) (hG.keep hl.keep)) ?_; rintro v S1 hk1 rfl hl; refine ⟨by repeat (first | exact trivial | refine stays_left ?_ | (refine ⟨by first | exact stays_load rfl rfl (loadN_row (z := 3) (by kernel_rfl) (by kernel_rfl) (row_move (hl.since 0 rfl) hrow1) htk1) (same_agg rfl (by repeat (first | exact atoms_nil | refine atoms_cons (atom_int _ _) ?_ | refine atoms_cons (atom_bool _) ?_ | refine atoms_cons (atom_slice _ _ _) ?_ | refine atoms_cons (atom_string _) ?_))) rfl | exact stays_load rfl rfl (loadN_row (z := 3) (by kernel_rfl) (by kernel_rfl) (row_move (hl.since 0 rfl) hrow2) htk2) (same_agg rfl (by repeat (first | exact atoms_nil | refine atoms_cons (atom_int _ _) ?_ | refine atoms_cons (atom_bool _) ?_ | refine atoms_cons (atom_slice _ _ _) ?_ | refine atoms_cons (atom_string _) ?_))) rfl | exact stays_new rfl (hl.get 0 rfl) (sameL_atoms _ _ (by simp) (by repeat (first | exact atoms_nil | refine atoms_cons (atom_int _ _) ?_ | refine atoms_cons (atom_bool _) ?_ | refine atoms_cons (atom_slice _ _ _) ?_ | refine atoms_cons (atom_string _) ?_))) | exact stays_new rfl (hl.get 1 rfl) (sameL_atoms _ _ (by simp) (by repeat (first | exact atoms_nil | refine atoms_cons (atom_int _ _) ?_ | refine atoms_cons (atom_bool _) ?_ | refine atoms_cons (atom_slice _ _ _) ?_ | refine atoms_cons (atom_string _) ?_))) | exact stays_new rfl (hl.get 2 rfl) (sameL_atoms _ _ (by simp) (by repeat (first | exact atoms_nil | refine atoms_cons (atom_int _ _) ?_ | refine atoms_cons (atom_bool _) ?_ | refine atoms_cons (atom_slice _ _ _) ?_ | refine atoms_cons (atom_string _) ?_))) | exact stays_load rfl rfl (loadN_of (z := 3) (by kernel_rfl) (by kernel_rfl) (hl.get 0 rfl) rfl) (same_agg rfl (by repeat (first | exact atoms_nil | refine atoms_cons (atom_int _ _) ?_ | refine atoms_cons (atom_bool _) ?_ | refine atoms_cons (atom_slice _ _ _) ?_ | refine atoms_cons (atom_string _) ?_))) rfl | exact stays_load rfl rfl (loadN_of (z := 3) (by kernel_rfl) (by kernel_rfl) (hl.get 1 rfl) rfl) (same_agg rfl (by repeat (first | exact atoms_nil | refine atoms_cons (atom_int _ _) ?_ | refine atoms_cons (atom_bool _) ?_ | refine atoms_cons (atom_slice _ _ _) ?_ | refine atoms_cons (atom_string _) ?_))) rfl | exact stays_load rfl rfl (loadN_of (z := 3) (by kernel_rfl) (by kernel_rfl) (hl.get 2 rfl) rfl) (same_agg rfl (by repeat (first | exact atoms_nil | refine atoms_cons (atom_int _ _) ?_ | refine atoms_cons (atom_bool _) ?_ | refine atoms_cons (atom_slice _ _ _) ?_ | refine atoms_cons (atom_string _) ?_))) rfl | exact stays_load rfl rfl (load1_of (by kernel_rfl) (hl.get 0 rfl) rfl) (same_atom (by first | exact atom_int _ _ | exact atom_bool _ | exact atom_slice _ _ _)) rfl | exact stays_load rfl rfl (load1_of (by kernel_rfl) (hl.get 1 rfl) rfl) (same_atom (by first | exact atom_int _ _ | exact atom_bool _ | exact atom_slice _ _ _)) rfl | exact stays_load rfl rfl (load1_of (by kernel_rfl) (hl.get 2 rfl) rfl) (same_atom (by first | exact atom_int _ _ | exact atom_bool _ | exact atom_slice _ _ _)) rfl | exact stays_no (by dsimp only; decide +kernel), ?_⟩)), ?_⟩
     iterate 5 refine pm rfl ?_
     refine rp_end rfl ?_; refine xp_seq rfl ?_; refine xp_draw (idx := [0, 1, 2, 3, 4, 5, 6, 7, 12, 13, 8, 9, 10, 11, 14, 15]) rfl (by kernel_rfl) (by kernel_rfl) ?_; iterate 2 refine pm rfl ?_
     refine pr rfl (rd_indexAddr rfl rfl rfl (indexAddr_sl (z := 3) ha1 Tryd.underlying119 (by kernel_rfl) ⟨by omega, by first | omega | (simp only [List.length_cons]; omega)⟩)) ?_; refine pk rfl (rd_load rfl rfl (loadN_row (z := 3) (by kernel_rfl) (by kernel_rfl) (row_move (hl.since 0 rfl) hrow1) htk1)) ?_; iterate 2 refine pm rfl ?_
     refine pr rfl (rd_indexAddr rfl rfl rfl (indexAddr_sl (z := 3) ha2 Tryd.underlying119 (by kernel_rfl) ⟨by omega, by first | omega | (simp only [List.length_cons]; omega)⟩)) ?_; refine pk rfl (rd_load rfl rfl (loadN_row (z := 3) (by kernel_rfl) (by kernel_rfl) (row_move (hl.since 0 rfl) hrow2) htk2)) ?_; refine rp_allocL hF hl rfl rfl rfl rfl rfl (z := [.int .i64 0, .int .i64 0, .int .i64 0]) (by kernel_rfl) ?_; intro B11 S11 hl; refine rp_allocL hF hl rfl rfl rfl rfl rfl (z := [.int .i64 0, .int .i64 0, .int .i64 0]) (by kernel_rfl) ?_; intro B12 S12 hl
     refine rp_callL hl rfl rfl rfl rfl rfl rfl rfl (spec81 x y (hG.keep hl.keep)) ?_; rintro v S1 hk1 rfl hl; refine ⟨by repeat (first | exact trivial | refine stays_left ?_ | (refine ⟨by first | exact stays_load rfl rfl (loadN_row (z := 3) (by kernel_rfl) (by kernel_rfl) (row_move (hl.since 0 rfl) hrow1) htk1) (same_agg rfl (by repeat (first | exact atoms_nil | refine atoms_cons (atom_int _ _) ?_ | refine atoms_cons (atom_bool _) ?_ | refine atoms_cons (atom_slice _ _ _) ?_ | refine atoms_cons (atom_string _) ?_))) rfl | exact stays_load rfl rfl (loadN_row (z := 3) (by kernel_rfl) (by kernel_rfl) (row_move (hl.since 0 rfl) hrow2) htk2) (same_agg rfl (by repeat (first | exact atoms_nil | refine atoms_cons (atom_int _ _) ?_ | refine atoms_cons (atom_bool _) ?_ | refine atoms_cons (atom_slice _ _ _) ?_ | refine atoms_cons (atom_string _) ?_))) rfl | exact stays_new rfl (hl.get 0 rfl) (sameL_atoms _ _ (by simp) (by repeat (first | exact atoms_nil | refine atoms_cons (atom_int _ _) ?_ | refine atoms_cons (atom_bool _) ?_ | refine atoms_cons (atom_slice _ _ _) ?_ | refine atoms_cons (atom_string _) ?_))) | exact stays_new rfl (hl.get 1 rfl) (sameL_atoms _ _ (by simp) (by repeat (first | exact atoms_nil | refine atoms_cons (atom_int _ _) ?_ | refine atoms_cons (atom_bool _) ?_ | refine atoms_cons (atom_slice _ _ _) ?_ | refine atoms_cons (atom_string _) ?_))) | exact stays_new rfl (hl.get 2 rfl) (sameL_atoms _ _ (by simp) (by repeat (first | exact atoms_nil | refine atoms_cons (atom_int _ _) ?_ | refine atoms_cons (atom_bool _) ?_ | refine atoms_cons (atom_slice _ _ _) ?_ | refine atoms_cons (atom_string _) ?_))) | exact stays_load rfl rfl (loadN_of (z := 3) (by kernel_rfl) (by kernel_rfl) (hl.get 0 rfl) rfl) (same_agg rfl (by repeat (first | exact atoms_nil | refine atoms_cons (atom_int _ _) ?_ | refine atoms_cons (atom_bool _) ?_ | refine atoms_cons (atom_slice _ _ _) ?_ | refine atoms_cons (atom_string _) ?_))) rfl | exact stays_load rfl rfl (loadN_of (z := 3) (by kernel_rfl) (by kernel_rfl) (hl.get 1 rfl) rfl) (same_agg rfl (by repeat (first | exact atoms_nil | refine atoms_cons (atom_int _ _) ?_ | refine atoms_cons (atom_bool _) ?_ | refine atoms_cons (atom_slice _ _ _) ?_ | refine atoms_cons (atom_string _) ?_))) rfl | exact stays_load rfl rfl (loadN_of (z := 3) (by kernel_rfl) (by kernel_rfl) (hl.get 2 rfl) rfl) (same_agg rfl (by repeat (first | exact atoms_nil | refine atoms_cons (atom_int _ _) ?_ | refine atoms_cons (atom_bool _) ?_ | refine atoms_cons (atom_slice _ _ _) ?_ | refine atoms_cons (atom_string _) ?_))) rfl | exact stays_load rfl rfl (load1_of (by kernel_rfl) (hl.get 0 rfl) rfl) (same_atom (by first | exact atom_int _ _ | exact atom_bool _ | exact atom_slice _ _ _)) rfl | exact stays_load rfl rfl (load1_of (by kernel_rfl) (hl.get 1 rfl) rfl) (same_atom (by first | exact atom_int _ _ | exact atom_bool _ | exact atom_slice _ _ _)) rfl | exact stays_load rfl rfl (load1_of (by kernel_rfl) (hl.get 2 rfl) rfl) (same_atom (by first | exact atom_int _ _ | exact atom_bool _ | exact atom_slice _ _ _)) rfl | exact stays_no (by dsimp only; decide +kernel), ?_⟩)), ?_⟩
     iterate 3 refine pm rfl ?_
     refine rp_storeL hl 1 rfl rfl rfl rfl rfl rfl rfl (by kernel_rfl) rfl ?_; intro S1 hl; refine ⟨by repeat (first | exact trivial | refine stays_left ?_ | (refine ⟨by first | exact stays_load rfl rfl (loadN_row (z := 3) (by kernel_rfl) (by kernel_rfl) (row_move (hl.since 0 rfl) hrow1) htk1) (same_agg rfl (by repeat (first | exact atoms_nil | refine atoms_cons (atom_int _ _) ?_ | refine atoms_cons (atom_bool _) ?_ | refine atoms_cons (atom_slice _ _ _) ?_ | refine atoms_cons (atom_string _) ?_))) rfl | exact stays_load rfl rfl (loadN_row (z := 3) (by kernel_rfl) (by kernel_rfl) (row_move (hl.since 0 rfl) hrow2) htk2) (same_agg rfl (by repeat (first | exact atoms_nil | refine atoms_cons (atom_int _ _) ?_ | refine atoms_cons (atom_bool _) ?_ | refine atoms_cons (atom_slice _ _ _) ?_ | refine atoms_cons (atom_string _) ?_))) rfl | exact stays_new rfl (hl.get 0 rfl) (sameL_atoms _ _ (by simp) (by repeat (first | exact atoms_nil | refine atoms_cons (atom_int _ _) ?_ | refine atoms_cons (atom_bool _) ?_ | refine atoms_cons (atom_slice _ _ _) ?_ | refine atoms_cons (atom_string _) ?_))) | exact stays_new rfl (hl.get 1 rfl) (sameL_atoms _ _ (by simp) (by repeat (first | exact atoms_nil | refine atoms_cons (atom_int _ _) ?_ | refine atoms_cons (atom_bool _) ?_ | refine atoms_cons (atom_slice _ _ _) ?_ | refine atoms_cons (atom_string _) ?_))) | exact stays_new rfl (hl.get 2 rfl) (sameL_atoms _ _ (by simp) (by repeat (first | exact atoms_nil | refine atoms_cons (atom_int _ _) ?_ | refine atoms_cons (atom_bool _) ?_ | refine atoms_cons (atom_slice _ _ _) ?_ | refine atoms_cons (atom_string _) ?_))) | exact stays_load rfl rfl (loadN_of (z := 3) (by kernel_rfl) (by kernel_rfl) (hl.get 0 rfl) rfl) (same_agg rfl (by repeat (first | exact atoms_nil | refine atoms_cons (atom_int _ _) ?_ | refine atoms_cons (atom_bool _) ?_ | refine atoms_cons (atom_slice _ _ _) ?_ | refine atoms_cons (atom_string _) ?_))) rfl | exact stays_load rfl rfl (loadN_of (z := 3) (by kernel_rfl) (by kernel_rfl) (hl.get 1 rfl) rfl) (same_agg rfl (by repeat (first | exact atoms_nil | refine atoms_cons (atom_int _ _) ?_ | refine atoms_cons (atom_bool _) ?_ | refine atoms_cons (atom_slice _ _ _) ?_ | refine atoms_cons (atom_string _) ?_))) rfl | exact stays_load rfl rfl (loadN_of (z := 3) (by kernel_rfl) (by kernel_rfl) (hl.get 2 rfl) rfl) (same_agg rfl (by repeat (first | exact atoms_nil | refine atoms_cons (atom_int _ _) ?_ | refine atoms_cons (atom_bool _) ?_ | refine atoms_cons (atom_slice _ _ _) ?_ | refine atoms_cons (atom_string _) ?_))) rfl | exact stays_load rfl rfl (load1_of (by kernel_rfl) (hl.get 0 rfl) rfl) (same_atom (by first | exact atom_int _ _ | exact atom_bool _ | exact atom_slice _ _ _)) rfl | exact stays_load rfl rfl (load1_of (by kernel_rfl) (hl.get 1 rfl) rfl) (same_atom (by first | exact atom_int _ _ | exact atom_bool _ | exact atom_slice _ _ _)) rfl | exact stays_load rfl rfl (load1_of (by kernel_rfl) (hl.get 2 rfl) rfl) (same_atom (by first | exact atom_int _ _ | exact atom_bool _ | exact atom_slice _ _ _)) rfl | exact stays_no (by dsimp only; decide +kernel), ?_⟩)), ?_⟩
     refine rp_storeL hl 0 rfl rfl rfl rfl rfl rfl rfl (by kernel_rfl) rfl ?_; intro S1 hl; refine ⟨stays_all (by kernel_rfl), ?_⟩
     refine rp_end rfl ?_; refine xp_seq rfl (xe_cut (fun Le S' => ∃ (av3 : Option Addr) (O3 : List Cl), O3.length ≤ 8 * i + (k + 1) ∧ O3 ++ clI low x i (C.drop (k + 1)) (k + 1) = O ++ clI low x i C 0 ∧ SubE [(28, .int .i64 (k : Int)), (27, .int .i64 C.length), (7, .int .i64 (i : Int)), (23, .int .i64 (i : Int)), (22, .int .i64 C.length), (6, .slice av3 O3.length O3.length), (5, ptrTo B5 0), (4, .slice none 0 0), (0, .slice a C.length cap), (1, .int .i64 (-1))] Le ∧ HoldG S [S] S' [(B5, .cells low.cells 37 false true [])] [gOf 127 3 Cl.cells (.slice av3 O3.length O3.length) O3]) ?_ ?_)
     ·
      refine xp_seq rfl (xe_toE hl 72 (.bool (clB low x y)) ?_ rfl ?_)
      ·
       refine xg (by kernel_rfl) ?_; refine rm rfl ?_; refine rr rfl (rd_bin rfl rfl rfl rfl) ?_; refine rm rfl ?_; refine re_bool (d := 60) rfl (fun h60 => ?_) (fun h60 => ?_)
       ·
        iterate 11 refine rz rfl ?_
        refine rm rfl ?_; refine re_end rfl ?_
        exact ⟨rfl, bl (by unfold clB; rw [h60]; rfl), by repeat (first | exact subL_refl _ | refine subL_skip rfl ?_), hl⟩
       ·
        refine rm rfl ?_; refine rr rfl (rd_bin rfl rfl rfl rfl) ?_; refine rm rfl ?_; refine re_bool (d := 63) rfl (fun h63 => ?_) (fun h63 => ?_)
        ·
         iterate 2 refine rz rfl ?_
         iterate 2 refine rm rfl ?_
         refine rr rfl (rd_load rfl rfl (loadN_of (z := 3) (by kernel_rfl) (by kernel_rfl) (hl.get 1 rfl) rfl)) ?_; refine rr rfl (rd_load rfl rfl (loadN_of (z := 3) (by kernel_rfl) (by kernel_rfl) (hl.get 2 rfl) rfl)) ?_; refine rr rfl (rd_bin rfl rfl rfl (isPitch _ _ (lowE x y).1 low)) ?_; iterate 2 refine rm rfl ?_
         refine re_end rfl ?_
         exact ⟨rfl, bl (by unfold clB; rw [h60, h63]; rfl), by repeat (first | exact subL_refl _ | refine subL_skip rfl ?_), hl⟩
        ·
         refine rm rfl ?_; refine rr rfl (rd_bin rfl rfl rfl rfl) ?_; iterate 2 refine rm rfl ?_
         refine re_bool (d := 67) rfl (fun h67 => ?_) (fun h67 => ?_)
         ·
          refine rr rfl (rd_load rfl rfl (loadN_of (z := 3) (by kernel_rfl) (by kernel_rfl) (hl.get 1 rfl) rfl)) ?_; refine rr rfl (rd_load rfl rfl (loadN_of (z := 3) (by kernel_rfl) (by kernel_rfl) (hl.get 2 rfl) rfl)) ?_; refine rr rfl (rd_bin rfl rfl rfl (isPitch _ _ (lowE x y).1 low)) ?_; iterate 2 refine rm rfl ?_
          refine re_end rfl ?_
          exact ⟨rfl, bl (by unfold clB; rw [h60, h63, h67]; rfl), by repeat (first | exact subL_refl _ | refine subL_skip rfl ?_), hl⟩
         ·
          iterate 3 refine rz rfl ?_
          iterate 2 refine rm rfl ?_
          refine re_end rfl ?_
          exact ⟨rfl, bl (by unfold clB; rw [h60, h63, h67]; rfl), by repeat (first | exact subL_refl _ | refine subL_skip rfl ?_), hl⟩
      intro S1 hl
      refine xp_cond rfl rfl (fun h72 => ?_) (fun h72 => ?_)
      ·
       refine xg (by kernel_rfl) ?_; iterate 4 refine rm rfl ?_
       refine rr rfl (rd_build rfl rfl (v := aggL [.int .i64 i, .int .i64 k, .int .i64 (kdE x y).1]) (by rfl)) ?_; refine re_buildSliceR hl rfl rfl rfl rfl rfl Tryd.underlying122 rfl (c := [.int .i64 i, .int .i64 k, .int .i64 (kdE x y).1]) (by kernel_rfl) ?_; intro B78 S1 hr78 hl; refine re_appendG hl 0 rfl rfl (by simp) rfl rfl rfl rfl rfl rfl rfl Tryd.underlying122 Tryd.underlying122 rfl rfl (by kernel_rfl) (src_row (new := [.int .i64 i, .int .i64 k, .int .i64 (kdE x y).1]) hr78 rfl) rfl rfl (by kernel_rfl) (by show O2.length + 1 ≤ maxNeed; unfold maxNeed; omega) ?_; intro v79 S1 hl
       obtain ⟨av3, rfl⟩ : ∃ av3, v79 = .slice av3 (O2.length + 1) (O2.length + 1) := Grow.is (hl.gr _ (List.mem_cons_self ..))
       refine rm rfl ?_; refine re_end rfl ?_
       have hc : O2 ++ [⟨(i : Int), (k : Int), (kdE x y).1⟩] ++ clI low x i (C.drop (k + 1)) (k + 1) = O ++ clI low x i C 0 := by
        rw [← hpr2, clI_2 h33 h72, List.append_assoc]; rfl
       refine ⟨rfl, av3, O2 ++ [⟨(i : Int), (k : Int), (kdE x y).1⟩], by rw [List.length_append]; show O2.length + 1 ≤ _; omega, hc, ⟨rfl, rfl, rfl, rfl, rfl, congrArg some (congrArg (fun n => Value.slice av3 n n) (by rw [List.length_append]; rfl)), rfl, rfl, rfl, rfl, trivial⟩, ?_⟩
       rw [gOf_push]
       exact hl.tail.tail
      ·
       refine xp_skip rfl ?_
       have hc : O2 ++ clI low x i (C.drop (k + 1)) (k + 1) = O ++ clI low x i C 0 := by
        rw [← hpr2, clI_3 h33 h72]
       exact ⟨rfl, av2, O2, by omega, hc, ⟨rfl, rfl, rfl, rfl, rfl, rfl, rfl, rfl, rfl, rfl, trivial⟩, hl.tail.tail⟩
     clear hl; rintro Le3 S1 ⟨av3, O3, hO3, hpr3, hsub3, hl⟩; refine xe_sub hsub3 ?_
     refine xs (by kernel_rfl) ?_; refine rm rfl ?_; refine rr rfl (rd_len rfl rfl (len_slice Tryd.underlying122)) ?_; refine rm rfl ?_; refine rr rfl (rd_bin rfl rfl rfl rfl) ?_; refine re_end rfl ?_; refine xp_cond rfl rfl (fun h83 => ?_) (fun h83 => ?_)
     ·
      refine xp_exit rfl ?_; refine xs (by kernel_rfl) ?_; iterate 2 refine rm rfl ?_
      refine re_end rfl ?_; refine xp_ret rfl ?_
      refine scp_ret (done_ret (ress_tmp rfl rfl) ⟨hl.keep, (by simp at h83 <;> omega)⟩)
     ·
      refine xp_skip rfl ?_; refine xg (by kernel_rfl) ?_; refine rr rfl (rd_bin rfl rfl rfl (i6 (by omega))) ?_; refine rm rfl ?_; refine re_end rfl ?_
      exact ⟨C.length - (k + 1), by omega, k + 1, av3, O3, by omega, rfl, by omega, hpr3, ⟨rfl, rfl, rfl, rfl, rfl, rfl, rfl, rfl, rfl, rfl, trivial⟩, hl⟩
   ·
    refine xp_exit rfl ?_; refine xg (by kernel_rfl) ?_; refine rr rfl (rd_bin rfl rfl rfl (i6 (by omega))) ?_; refine rm rfl ?_; refine re_end rfl ?_
    have he : O2 = O ++ clI low x i C 0 := by rw [← hpr2, List.drop_eq_nil_of_le (by have := of_decide_eq_false h29; omega)]; exact (List.append_nil _).symm
    exact ⟨C.length - (i + 1), by omega, i + 1, av2, O2, by omega, rfl, by omega, by rw [he, List.append_assoc]; exact hpr, ⟨rfl, rfl, rfl, rfl, rfl, rfl, rfl, trivial⟩, hl⟩
  ·
   refine xp_exit rfl ?_; refine xs (by kernel_rfl) ?_; iterate 2 refine rm rfl ?_
   refine re_end rfl ?_; refine xp_ret rfl ?_
   refine scp_ret (done_ret (ress_tmp rfl rfl) ⟨hl.keep, (cl_end hlow (by rw [← hpr, List.drop_eq_nil_of_le (by have := of_decide_eq_false h24; omega)]; exact (List.append_nil _).symm) (hl.gr _ (List.mem_cons_self ..)))⟩)
end Go.Proofs.YtlnenodplgpceaaDoor
namespace Go.Proofs.YtlnenodplgpceaaDoor
open Go.Cm Go
set_option maxRecDepth 100000
variable {S : St}
noncomputable def c54 : Code := Tryd.f54.body.getD .skip
theorem spec54 (a : Option Addr) (cap : Nat) (C : List Pt) (hF : Fresh S) (hG : Gl S) (hv : Pts S (.slice a C.length cap) C) : CC Tryd.prog KK 54 [.slice a C.length cap] S (fun v S' => Keep S S' ∧ ∃ av, v = tupV [.slice av (clsE C).1.length (clsE C).1.length, .int .i64 (clsE C).2] ∧ Grow S S' (gOf 127 3 Cl.cells (.slice av (clsE C).1.length (clsE C).1.length) (clsE C).1)) := by
 refine cc_enter (c := c54) (n := 12) Tryd.func54 rfl rfl rfl (by kernel_rfl) rfl rfl ?_
 have hl := Hold.start S
 refine xs (by kernel_rfl) ?_; iterate 2 refine rm rfl ?_
 refine re_end rfl ?_; refine xp_seq rfl ?_; refine xs (by kernel_rfl) ?_; refine rm rfl ?_
 refine re_callL hl rfl rfl rfl rfl rfl rfl rfl (spec66 a cap C (hv.move (hl.since 0 rfl))) ?_; rintro v S1 hk1 rfl hl
 refine rm rfl ?_; refine re_end rfl ?_; refine xs (by kernel_rfl) ?_; refine rm rfl ?_; refine rr rfl (rd_bin rfl rfl rfl rfl) ?_; refine re_end rfl ?_; refine xp_cond rfl rfl (fun h8 => ?_) (fun h8 => ?_)
 ·
  refine xs (by kernel_rfl) ?_; iterate 3 refine rm rfl ?_
  refine re_end rfl ?_; refine xp_ret rfl ?_
  refine thn_ret (done_ret (ress_tmp rfl (ress_tmp rfl rfl)) ⟨hl.keep, ⟨none, by rw [cls_1 h8] <;> rfl, by rw [cls_1 h8]; exact .inl ⟨rfl, rfl, rfl⟩⟩⟩)
 ·
  refine xp_skip rfl ?_; refine xs (by kernel_rfl) ?_; refine rm rfl ?_
  refine re_callL hl rfl rfl rfl rfl rfl rfl rfl (spec67 a cap C (hl.keep.3 hF) (hG.keep hl.keep) (chk_len h8) (hv.move (hl.since 0 rfl))) ?_; have hl2 := hl.keep.1; rintro v S1 hk1 ⟨av, rfl, hg⟩ hl
  iterate 2 refine rm rfl ?_
  refine re_end rfl ?_; refine xp_ret rfl ?_
  refine done_ret (ress_tmp rfl (ress_tmp rfl rfl)) ⟨hl.keep, ⟨av, by rw [cls_2 h8] <;> rfl, by rw [cls_2 h8]; exact Grow.base hg hl2⟩⟩
noncomputable def c44 : Code := Tryd.f44.body.getD .skip
theorem spec44  : CC Tryd.prog KK 44 [] S (fun v S' => Keep S S' ∧ v = zT.v) := by
 refine cc_enter (c := c44) (n := 2) Tryd.func44 rfl rfl rfl (by kernel_rfl) rfl rfl ?_
 have hl := Hold.start S
 refine xs (by kernel_rfl) ?_; refine re_allocL hl rfl rfl rfl rfl rfl (z := [.int .i64 0, .int .i64 0]) (by kernel_rfl) ?_; intro B0 S0 hl; refine re_end rfl ?_; refine xs (by kernel_rfl) ?_; refine rr rfl (rd_build rfl rfl (v := aggL [.int .i64 0, .int .i64 1]) (by rfl)) ?_; refine re_storeL hl 0 rfl rfl rfl rfl rfl rfl rfl (by kernel_rfl) rfl ?_; intro S1 hl; refine re_end rfl ?_; refine xp_ret rfl ?_
 refine done_ret (ress_cell rfl (loadN_of (z := 2) (by kernel_rfl) (by kernel_rfl) (hl.get 0 rfl) rfl) rfl) ⟨hl.keep, rfl⟩
noncomputable def c45 : Code := Tryd.f45.body.getD .skip
theorem spec45 (x : Ev) : CC Tryd.prog KK 45 [x.v] S (fun v S' => Keep S S' ∧ v = .int .i64 (oneE x)) := by
 refine cc_enter (c := c45) (n := 47) Tryd.func45 rfl rfl rfl (by kernel_rfl) rfl rfl ?_
 have hl := Hold.start S
 refine xs (by kernel_rfl) ?_; refine re_boxL hl rfl rfl rfl rfl rfl rfl ?_; intro B1 S1 hl; refine rm rfl ?_; refine re_end rfl ?_; refine xp_seq rfl ?_; refine xs (by kernel_rfl) ?_; refine rr rfl (rd_fieldAddr rfl rfl (fa Tryd.underlying39 az39 rfl)) ?_; refine rr rfl (rd_load rfl rfl (loadN_of (z := 2) (by kernel_rfl) (by kernel_rfl) (hl.get 0 rfl) rfl)) ?_; refine rr rfl (rd_fieldAddr rfl rfl (fa Tryd.underlying39 az39 rfl)) ?_; refine rr rfl (rd_load rfl rfl (loadN_of (z := 2) (by kernel_rfl) (by kernel_rfl) (hl.get 0 rfl) rfl)) ?_
 refine re_buildSliceR hl rfl rfl rfl rfl rfl Tryd.underlying44 rfl (c := ([x.at_, x.dur].map Ti.cells).flatten) (by kernel_rfl) ?_; intro B11 Sr hr11 hl
 have hl := hl.mark
 have hv2 : Tis Sr (.slice (some ⟨B11, 0, none⟩) 2 2) [x.at_, x.dur] := LsOf.row (fun _ => rfl) hr11 rfl
 refine rr rfl (rd_len rfl rfl (len_slice Tryd.underlying44)) ?_; refine rm rfl ?_; refine re_end rfl ?_; refine xp_block rfl ?_
 -- LOOP
 refine xe_sub (L' := [(13, .int .i64 0), (12, .int .i64 2), (11, .slice (some ⟨B11, 0, none⟩) 2 2), (2, .int .i64 0), (1, ptrTo B1 0)]) ⟨rfl, rfl, rfl, rfl, rfl, trivial⟩ ?_
 refine xp_loop rfl (fun m Le S' => ∃ i : Nat, i ≤ 2 ∧ m = 2 - i ∧ firstE ([x.at_, x.dur].drop i) = firstE [x.at_, x.dur] ∧ SubE [(13, .int .i64 (i : Int)), (12, .int .i64 2), (11, .slice (some ⟨B11, 0, none⟩) 2 2), (2, .int .i64 0), (1, ptrTo B1 0)] Le ∧ HoldG S [Sr, S] S' [(B1, .cells x.cells 39 false true [])] []) ?_ (m := 2) ⟨0, by omega, rfl, rfl, ⟨rfl, rfl, rfl, rfl, rfl, trivial⟩, hl⟩
 clear hl; rintro m Le S' ⟨i, hi, rfl, hin, hsub, hl⟩; refine xe_sub hsub ?_
 refine xs (by kernel_rfl) ?_; refine rr rfl (rd_bin rfl rfl rfl rfl) ?_; refine re_end rfl ?_; refine xp_seq rfl ?_; refine xp_cond rfl rfl (fun h14 => ?_) (fun h14 => ?_)
 ·
  have hlt : i < 2 := by have := of_decide_eq_true h14; omega
  obtain ⟨y, hy⟩ := nth_some (l := [x.at_, x.dur]) hlt
  obtain ⟨b1, o1, cs1, ha, _, hrow, htk⟩ := hv2.elem hy
  refine xp_skip rfl ?_; refine xp_seq rfl ?_; refine xp_block rfl ?_; refine xs (by kernel_rfl) ?_; refine rr rfl (rd_indexAddr rfl rfl rfl (indexAddr_sl (z := 2) ha Tryd.underlying44 (by kernel_rfl) ⟨by omega, by first | omega | (simp only [List.length_cons]; omega)⟩)) ?_; refine rr rfl (rd_load rfl rfl (loadN_row (z := 2) (by kernel_rfl) (by kernel_rfl) (row_move (hl.since 0 rfl) hrow) htk)) ?_; refine re_allocL hl rfl rfl rfl rfl rfl (z := [.int .i64 0, .int .i64 0]) (by kernel_rfl) ?_; intro B4 S4 hl; refine re_storeL hl 0 rfl rfl rfl rfl rfl rfl rfl (by kernel_rfl) rfl ?_; intro S1 hl
  refine re_end rfl ?_; refine xs (by kernel_rfl) ?_; refine rr rfl (rd_load rfl rfl (loadN_of (z := 2) (by kernel_rfl) (by kernel_rfl) (hl.get 0 rfl) rfl)) ?_
  refine re_callL hl rfl rfl rfl rfl rfl rfl rfl (spec57 y) ?_; rintro v S1 hk1 rfl hl
  refine rm rfl ?_; refine re_end rfl ?_; refine xs (by kernel_rfl) ?_; refine rm rfl ?_; refine rr rfl (rd_bin rfl rfl rfl rfl) ?_; refine re_end rfl ?_; refine xp_cond rfl rfl (fun h20 => ?_) (fun h20 => ?_)
  ·
   refine xs (by kernel_rfl) ?_; iterate 2 refine rm rfl ?_
   refine re_end rfl ?_; refine xp_ret rfl ?_
   refine blk_ret (thn_ret (round_ret (blk_ret (thn_ret (done_ret (ress_tmp rfl rfl) ⟨hl.keep, by have e : firstE [x.at_, x.dur] = tE y := (by rw [← hin, drop_nth' hy]; exact (first_bad h20)); rw [one_1 (by rw [e]; exact h20), e] <;> rfl⟩)))))
  ·
   refine xp_skip rfl ?_; refine xg (by kernel_rfl) ?_; refine rr rfl (rd_bin rfl rfl rfl (i6 (by omega))) ?_; refine rm rfl ?_; refine re_end rfl ?_
   exact ⟨2 - (i + 1), by omega, i + 1, by omega, rfl, by rw [← first_go h20, ← drop_nth' hy]; exact hin, ⟨rfl, rfl, rfl, rfl, rfl, trivial⟩, hl.tail⟩
 ·
  have h0 : firstE [x.at_, x.dur] = 0 := by rw [← hin, List.drop_eq_nil_of_le (by have := of_decide_eq_false h14; simp; omega)]; rfl
  refine xp_exit rfl ?_; refine xp_seq rfl ?_; refine xs (by kernel_rfl) ?_; refine rr rfl (rd_fieldAddr rfl rfl (fa Tryd.underlying39 az39 rfl)) ?_; refine rr rfl (rd_fieldAddr rfl rfl (fa Tryd.underlying33 az33 rfl)) ?_; refine rr rfl (rl hl 0 rfl rfl (by kernel_rfl) rfl rfl) ?_; refine rr rfl (rd_bin rfl rfl rfl rfl) ?_; refine re_end rfl ?_; refine xp_cond rfl rfl (fun h26 => ?_) (fun h26 => ?_)
  ·
   refine xs (by kernel_rfl) ?_; refine rm rfl ?_; refine re_end rfl ?_; refine xp_ret rfl ?_
   refine thn_ret (done_ret (ress_tmp rfl rfl) ⟨hl.keep, by rw [one_2 h0 h26] <;> rfl⟩)
  ·
   refine xp_skip rfl ?_; refine xp_seq rfl (xe_cutR (fun Le S' => SubE [(2, .int .i64 0), (1, ptrTo B1 0)] Le ∧ midE x = 0 ∧ HoldG S [Sr, S] S' [(B1, .cells x.cells 39 false true [])] []) ?_ ?_)
   ·
    refine xs (by kernel_rfl) ?_; refine rr rfl (rd_fieldAddr rfl rfl (fa Tryd.underlying39 az39 rfl)) ?_; refine rr rfl (rl hl 0 rfl rfl (by kernel_rfl) rfl rfl) ?_; refine re_end rfl ?_; refine xp_cond rfl rfl (fun h28 => ?_) (fun h28 => ?_)
    ·
     refine xs (by kernel_rfl) ?_; refine rr rfl (rd_fieldAddr rfl rfl (fa Tryd.underlying39 az39 rfl)) ?_; refine rr rfl (rd_load rfl rfl (loadN_of (z := 3) (by kernel_rfl) (by kernel_rfl) (hl.get 0 rfl) rfl)) ?_; refine rr rfl (rd_build rfl rfl (v := aggL [.int .i64 0, .int .i64 0, .int .i64 0]) (by rfl)) ?_; refine rr rfl (rd_bin rfl rfl rfl (nePitch _ _ x.p p0)) ?_; refine re_end rfl ?_; refine xp_cond rfl rfl (fun h32 => ?_) (fun h32 => ?_)
     ·
      refine xs (by kernel_rfl) ?_; refine rm rfl ?_; refine re_end rfl ?_; refine xp_ret rfl ?_
      refine cut_ret (thn_ret (done_ret (ress_tmp rfl rfl) ⟨hl.keep, by rw [one_3 h0 h26 (by rw [mid_1 h28 h32]; rfl), mid_1 h28 h32] <;> rfl⟩))
     ·
      refine xp_skip rfl ?_
      exact .inl ⟨rfl, ⟨rfl, rfl, trivial⟩, mid_2 h28 h32, hl⟩
    ·
     refine xs (by kernel_rfl) ?_; refine rr rfl (rd_fieldAddr rfl rfl (fa Tryd.underlying39 az39 rfl)) ?_; refine rr rfl (rd_load rfl rfl (loadN_of (z := 3) (by kernel_rfl) (by kernel_rfl) (hl.get 0 rfl) rfl)) ?_
     refine re_callL hl rfl rfl rfl rfl rfl rfl rfl (spec31 x.p) ?_; rintro v S1 hk1 rfl hl
     refine rm rfl ?_; refine re_end rfl ?_; refine xs (by kernel_rfl) ?_; refine rm rfl ?_; refine rr rfl (rd_bin rfl rfl rfl rfl) ?_; refine re_end rfl ?_; refine xp_cond rfl rfl (fun h37 => ?_) (fun h37 => ?_)
     ·
      refine xs (by kernel_rfl) ?_; iterate 2 refine rm rfl ?_
      refine re_end rfl ?_; refine xp_ret rfl ?_
      refine cut_ret (thn_ret (done_ret (ress_tmp rfl rfl) ⟨hl.keep, by rw [one_3 h0 h26 (by rw [mid_3 h28]; exact h37), mid_3 h28] <;> rfl⟩))
     ·
      refine xp_skip rfl ?_
      exact .inl ⟨rfl, ⟨rfl, rfl, trivial⟩, by rw [mid_3 h28]; simpa using h37, hl⟩
   clear hl; rintro Le3 S1 ⟨hsub3, hmid, hl⟩; refine xe_sub hsub3 ?_
   refine xp_seq rfl ?_; refine xp_seq rfl (xe_toE hl 46 (.bool (decide (x.sign < 0) || decide (x.pass < 0))) ?_ rfl ?_)
   ·
    refine xg (by kernel_rfl) ?_; refine rr rfl (rd_fieldAddr rfl rfl (fa Tryd.underlying39 az39 rfl)) ?_; refine rr rfl (rl hl 0 rfl rfl (by kernel_rfl) rfl rfl) ?_; refine rr rfl (rd_bin rfl rfl rfl rfl) ?_; refine rm rfl ?_; refine re_bool (d := 42) rfl (fun h42 => ?_) (fun h42 => ?_)
    ·
     iterate 3 refine rz rfl ?_
     refine rm rfl ?_; refine re_end rfl ?_
     exact ⟨rfl, bl (by first | (simp [h42]; done) | (simp only [h42, BLs])), by repeat (first | exact subL_refl _ | refine subL_skip rfl ?_), hl⟩
    ·
     refine rr rfl (rd_fieldAddr rfl rfl (fa Tryd.underlying39 az39 rfl)) ?_; refine rr rfl (rl hl 0 rfl rfl (by kernel_rfl) rfl rfl) ?_; refine rr rfl (rd_bin rfl rfl rfl rfl) ?_; refine rm rfl ?_; refine re_end rfl ?_
     exact ⟨rfl, bl (by first | (simp [h42]; done) | (simp only [h42, BLs])), by repeat (first | exact subL_refl _ | refine subL_skip rfl ?_), hl⟩
   intro S1 hl
   refine xp_cond rfl rfl (fun h46 => ?_) (fun h46 => ?_)
   ·
    refine xs (by kernel_rfl) ?_; refine rm rfl ?_; refine re_end rfl ?_; refine xp_ret rfl ?_
    refine thn_ret (done_ret (ress_tmp rfl rfl) ⟨hl.keep, by rw [one_4 h0 h26 hmid h46] <;> rfl⟩)
   ·
    refine xp_skip rfl ?_; refine xs (by kernel_rfl) ?_; refine rm rfl ?_; refine re_end rfl ?_; refine xp_ret rfl ?_
    refine done_ret (ress_tmp rfl rfl) ⟨hl.keep, by rw [one_5 h0 h26 hmid h46] <;> rfl⟩
end Go.Proofs.YtlnenodplgpceaaDoor
namespace Go.Proofs.YtlnenodplgpceaaDoor
open Go.Cm Go
set_option maxRecDepth 100000
variable {S : St}
noncomputable def c29 : Code := Tryd.f29.body.getD .skip
theorem spec29 (a : Option Addr) (cap : Nat) (C : List Ev) (hF : Fresh S) (hv : Evs S (.slice a C.length cap) C) : CC Tryd.prog KK 29 [.slice a C.length cap] S (fun v S' => Keep S S' ∧ v = tupV [.int .i64 (evE C).1, .int .i64 (evE C).2]) := by
 refine cc_enter (c := c29) (n := 46) Tryd.func29 rfl rfl rfl (by kernel_rfl) rfl rfl ?_
 have hl := Hold.start S
 refine xs (by kernel_rfl) ?_; iterate 2 refine rm rfl ?_
 refine re_end rfl ?_; refine xp_seq rfl ?_; refine xs (by kernel_rfl) ?_; refine rm rfl ?_; refine rr rfl (rd_len rfl rfl (len_slice Tryd.underlying23)) ?_; refine rr rfl (rd_bin rfl rfl rfl rfl) ?_; refine re_end rfl ?_; refine xp_cond rfl rfl (fun h12 => ?_) (fun h12 => ?_)
 ·
  refine xs (by kernel_rfl) ?_; iterate 2 refine rm rfl ?_
  refine re_end rfl ?_; refine xp_ret rfl ?_
  refine thn_ret (done_ret (ress_tmp rfl (ress_tmp rfl rfl)) ⟨hl.keep, by rw [ev_1 h12] <;> rfl⟩)
 ·
  refine xp_skip rfl ?_; refine xs (by kernel_rfl) ?_
  refine re_callL hl rfl rfl rfl rfl rfl rfl rfl spec44 ?_; rintro v S1 hk1 rfl hl
  refine re_allocL hl rfl rfl rfl rfl rfl (z := [.int .i64 0, .int .i64 0]) (by kernel_rfl) ?_; intro B4 S4 hl; refine re_storeL hl 0 rfl rfl rfl rfl rfl rfl rfl (by kernel_rfl) rfl ?_; intro S1 hl; refine re_end rfl ?_; refine xp_seq rfl ?_; refine xs (by kernel_rfl) ?_; refine rm rfl ?_; refine rr rfl (rd_len rfl rfl (len_slice Tryd.underlying23)) ?_; refine rm rfl ?_; refine re_end rfl ?_; refine xp_block rfl ?_
  -- LOOP
  have hn : (C.length : Int) ≤ 2000 := by have := of_decide_eq_false h12; omega
  refine xe_sub (L' := [(16, .int .i64 0), (15, .int .i64 C.length), (14, .slice a C.length cap), (4, ptrTo B4 0), (3, .int .i64 0), (2, .int .i64 0)]) ⟨rfl, rfl, rfl, rfl, rfl, rfl, trivial⟩ ?_
  refine xp_loop rfl (fun m Le S' => ∃ (i : Nat) (now : Ti), i ≤ C.length ∧ m = C.length - i ∧ evG (C.drop i) now i = evG C zT 0 ∧ SubE [(16, .int .i64 (i : Int)), (15, .int .i64 C.length), (14, .slice a C.length cap), (4, ptrTo B4 0), (3, .int .i64 0), (2, .int .i64 0)] Le ∧ HoldG S [S] S' [(B4, .cells now.cells 33 false true [])] []) ?_ (m := C.length) ⟨0, zT, by omega, rfl, rfl, ⟨rfl, rfl, rfl, rfl, rfl, rfl, trivial⟩, hl⟩
  clear hl; rintro m Le S' ⟨i, now, hi, rfl, hin, hsub, hl⟩; refine xe_sub hsub ?_
  refine xs (by kernel_rfl) ?_; refine rr rfl (rd_bin rfl rfl rfl rfl) ?_; refine re_end rfl ?_; refine xp_seq rfl ?_; refine xp_cond rfl rfl (fun h17 => ?_) (fun h17 => ?_)
  ·
   have hlt : i < C.length := by have := of_decide_eq_true h17; omega
   obtain ⟨x, hx⟩ := nth_some hlt
   obtain ⟨b1, o1, cs1, ha, _, hrow, htk⟩ := hv.elem hx
   rw [drop_nth' hx] at hin
   refine xp_skip rfl ?_; refine xp_seq rfl ?_; refine xp_block rfl ?_; refine xs (by kernel_rfl) ?_; refine rm rfl ?_; refine rr rfl (rd_indexAddr rfl rfl rfl (indexAddr_sl (z := 10) ha Tryd.underlying23 (by kernel_rfl) ⟨by omega, by first | omega | (simp only [List.length_cons]; omega)⟩)) ?_; refine rr rfl (rd_load rfl rfl (loadN_row (z := 10) (by kernel_rfl) (by kernel_rfl) (row_move (hl.since 0 rfl) hrow) htk)) ?_
   refine re_allocL hl rfl rfl rfl rfl rfl (z := [.int .i64 0, .int .i64 0, .int .i64 0, .int .i64 0, .int .i64 0, .int .i64 0, .int .i64 0, .bool false, .int .i64 0, .int .i64 0]) (by kernel_rfl) ?_; intro B6 S6 hl; refine rm rfl ?_; refine re_storeL hl 0 rfl rfl rfl rfl rfl rfl rfl (by kernel_rfl) rfl ?_; intro S1 hl; refine re_end rfl ?_; refine xp_seq rfl ?_; refine xs (by kernel_rfl) ?_; refine rr rfl (rd_load rfl rfl (loadN_of (z := 10) (by kernel_rfl) (by kernel_rfl) (hl.get 0 rfl) rfl)) ?_
   refine re_callL hl rfl rfl rfl rfl rfl rfl rfl (spec45 x) ?_; rintro v S1 hk1 rfl hl
   refine rm rfl ?_; refine re_end rfl ?_; refine xs (by kernel_rfl) ?_; refine rm rfl ?_; refine rr rfl (rd_bin rfl rfl rfl rfl) ?_; refine re_end rfl ?_; refine xp_cond rfl rfl (fun h24 => ?_) (fun h24 => ?_)
   ·
    refine xs (by kernel_rfl) ?_; iterate 4 refine rm rfl ?_
    refine re_end rfl ?_; refine xp_ret rfl ?_
    refine thn_ret (blk_ret (thn_ret (round_ret (blk_ret (thn_ret (done_ret (ress_tmp rfl (ress_tmp rfl rfl)) ⟨hl.keep, by rw [ev_2 h12, ← hin, evG_1 h24] <;> rfl⟩))))))
   ·
    refine xp_skip rfl ?_; refine xp_seq rfl ?_; refine xs (by kernel_rfl) ?_; refine rr rfl (rd_fieldAddr rfl rfl (fa Tryd.underlying39 az39 rfl)) ?_; refine rr rfl (rd_load rfl rfl (loadN_of (z := 2) (by kernel_rfl) (by kernel_rfl) (hl.get 0 rfl) rfl)) ?_; refine rr rfl (rd_load rfl rfl (loadN_of (z := 2) (by kernel_rfl) (by kernel_rfl) (hl.get 1 rfl) rfl)) ?_; refine rr rfl (rd_bin rfl rfl rfl (neTime _ _ x.at_ now)) ?_; refine re_end rfl ?_; refine xp_cond rfl rfl (fun h30 => ?_) (fun h30 => ?_)
    ·
     refine xs (by kernel_rfl) ?_; iterate 3 refine rm rfl ?_
     refine re_end rfl ?_; refine xp_ret rfl ?_
     refine thn_ret (blk_ret (thn_ret (round_ret (blk_ret (thn_ret (done_ret (ress_tmp rfl (ress_tmp rfl rfl)) ⟨hl.keep, by rw [ev_2 h12, ← hin, evG_2 h24 h30] <;> rfl⟩))))))
    ·
     refine xp_skip rfl ?_; refine xs (by kernel_rfl) ?_; refine rr rfl (rd_fieldAddr rfl rfl (fa Tryd.underlying39 az39 rfl)) ?_; refine rr rfl (rd_load rfl rfl (loadN_of (z := 2) (by kernel_rfl) (by kernel_rfl) (hl.get 0 rfl) rfl)) ?_; refine rr rfl (rd_fieldAddr rfl rfl (fa Tryd.underlying39 az39 rfl)) ?_; refine rr rfl (rd_load rfl rfl (loadN_of (z := 2) (by kernel_rfl) (by kernel_rfl) (hl.get 0 rfl) rfl)) ?_
     refine re_callL hl rfl rfl rfl rfl rfl rfl rfl (spec46 x.at_ x.dur (hl.keep.3 hF)) ?_; rintro v S1 hk1 rfl hl
     iterate 3 refine rm rfl ?_
     refine re_allocL hl rfl rfl rfl rfl rfl (z := [.int .i64 0, .int .i64 0]) (by kernel_rfl) ?_; intro B8 S8 hl; refine re_storeL hl 0 rfl rfl rfl rfl rfl rfl rfl (by kernel_rfl) rfl ?_; intro S1 hl; refine rm rfl ?_; refine re_end rfl ?_; refine xp_seq rfl ?_; refine xs (by kernel_rfl) ?_; refine rm rfl ?_; refine rr rfl (rd_bin rfl rfl rfl rfl) ?_; refine re_end rfl ?_; refine xp_cond rfl rfl (fun h41 => ?_) (fun h41 => ?_)
     ·
      refine xs (by kernel_rfl) ?_; iterate 4 refine rm rfl ?_
      refine re_end rfl ?_; refine xp_ret rfl ?_
      refine thn_ret (blk_ret (thn_ret (round_ret (blk_ret (thn_ret (done_ret (ress_tmp rfl (ress_tmp rfl rfl)) ⟨hl.keep, by rw [ev_2 h12, ← hin, evG_3 h24 h30 h41] <;> rfl⟩))))))
     ·
      refine xp_skip rfl ?_; refine xg (by kernel_rfl) ?_; refine rr rfl (rd_load rfl rfl (loadN_of (z := 2) (by kernel_rfl) (by kernel_rfl) (hl.get 0 rfl) rfl)) ?_; refine re_storeL hl 2 rfl rfl rfl rfl rfl rfl rfl (by kernel_rfl) rfl ?_; intro S1 hl; refine re_end rfl ?_; refine xg (by kernel_rfl) ?_; refine rr rfl (rd_bin rfl rfl rfl (i6 (by omega))) ?_; refine rm rfl ?_; refine re_end rfl ?_
      exact ⟨C.length - (i + 1), by omega, i + 1, (addE x.at_ x.dur).1, by omega, rfl, by rw [← hin, evG_4 h24 h30 h41], ⟨rfl, rfl, rfl, rfl, rfl, rfl, trivial⟩, hl.tail.tail⟩
  ·
   refine xp_exit rfl ?_; refine xs (by kernel_rfl) ?_; iterate 2 refine rm rfl ?_
   refine re_end rfl ?_; refine xp_ret rfl ?_
   refine done_ret (ress_tmp rfl (ress_tmp rfl rfl)) ⟨hl.keep, by rw [ev_2 h12, ← hin, List.drop_eq_nil_of_le (by have := of_decide_eq_false h17; omega)] <;> rfl⟩
end Go.Proofs.YtlnenodplgpceaaDoor
namespace Go.Proofs.YtlnenodplgpceaaDoor
open Go.Cm Go
set_option maxRecDepth 100000
variable {S : St}
noncomputable def c77 : Code := Tryd.f77.body.getD .skip
theorem spec77 (a : Option Addr) (cap : Nat) (C : List Ev) (hF : Fresh S) (hv : Evs S (.slice a C.length cap) C) : CC Tryd.prog KK 77 [.slice a C.length cap] S (fun v S' => Keep S S' ∧ v = r2 (endE C)) := by
 refine cc_enter (c := c77) (n := 33) Tryd.func77 rfl rfl rfl (by kernel_rfl) rfl rfl ?_
 have hl := Hold.start S
 refine xs (by kernel_rfl) ?_; refine re_allocL hl rfl rfl rfl rfl rfl (z := [.int .i64 0, .int .i64 0]) (by kernel_rfl) ?_; intro B2 S2 hl; refine rm rfl ?_; refine re_end rfl ?_; refine xp_seq rfl ?_; refine xs (by kernel_rfl) ?_; refine rm rfl ?_
 refine re_callL hl rfl rfl rfl rfl rfl rfl rfl (spec29 a cap C (hl.keep.3 hF) (hv.move (hl.since 0 rfl))) ?_; rintro v S1 hk1 rfl hl
 iterate 5 refine rm rfl ?_
 refine re_end rfl ?_; refine xs (by kernel_rfl) ?_; refine rm rfl ?_; refine rr rfl (rd_bin rfl rfl rfl rfl) ?_; refine re_end rfl ?_; refine xp_cond rfl rfl (fun h13 => ?_) (fun h13 => ?_)
 ·
  refine xs (by kernel_rfl) ?_; refine rr rfl (rd_build rfl rfl (v := aggL [.int .i64 0, .int .i64 0]) (by rfl)) ?_; refine rm rfl ?_; refine re_storeL hl 0 rfl rfl rfl rfl rfl rfl rfl (by kernel_rfl) rfl ?_; intro S1 hl; refine rm rfl ?_; refine re_end rfl ?_; refine xp_ret rfl ?_
  refine thn_ret (done_ret (ress_cell rfl (loadN_of (z := 2) (by kernel_rfl) (by kernel_rfl) (hl.get 0 rfl) rfl) (ress_tmp rfl rfl)) ⟨hl.keep, by rw [end_1 h13] <;> rfl⟩)
 ·
  refine xp_skip rfl ?_; refine xp_seq rfl ?_; refine xs (by kernel_rfl) ?_; refine rm rfl ?_; refine rr rfl (rd_len rfl rfl (len_slice Tryd.underlying23)) ?_; refine rr rfl (rd_bin rfl rfl rfl rfl) ?_; refine re_end rfl ?_; refine xp_cond rfl rfl (fun h18 => ?_) (fun h18 => ?_)
  ·
   refine xs (by kernel_rfl) ?_
   refine re_callL hl rfl rfl rfl rfl rfl rfl rfl spec44 ?_; rintro v S1 hk1 rfl hl
   refine re_storeL hl 0 rfl rfl rfl rfl rfl rfl rfl (by kernel_rfl) rfl ?_; intro S1 hl; refine rm rfl ?_; refine re_end rfl ?_; refine xp_ret rfl ?_
   refine thn_ret (done_ret (ress_cell rfl (loadN_of (z := 2) (by kernel_rfl) (by kernel_rfl) (hl.get 0 rfl) rfl) (ress_tmp rfl rfl)) ⟨hl.keep, by rw [end_2 h13 h18] <;> rfl⟩)
  ·
   have hne : 0 < C.length := by cases C with
    | nil => simp at h18
    | cons => simp
   have hn : C.length ≤ 2000 := ev_len h13
   obtain ⟨x, hx⟩ := nth_some (l := C) (i := C.length - 1) (by omega)
   obtain ⟨b1, o1, cs1, ha, _, hrow, htk⟩ := hv.elem hx
   rw [show C.length - 1 = ((C.length : Int) - 1).toNat by omega] at htk
   refine xp_skip rfl ?_; refine xs (by kernel_rfl) ?_; iterate 2 refine rm rfl ?_
   refine rr rfl (rd_len rfl rfl (len_slice Tryd.underlying23)) ?_; refine rr rfl (rd_bin rfl rfl rfl (i6 (by omega))) ?_; refine rr rfl (rd_indexAddr rfl rfl rfl (indexAddr_sl (z := 10) ha Tryd.underlying23 (by kernel_rfl) ⟨by omega, by first | omega | (simp only [List.length_cons]; omega)⟩)) ?_; refine rr rfl (rd_load rfl rfl (loadN_row (z := 10) (by kernel_rfl) (by kernel_rfl) (row_move (hl.since 0 rfl) hrow) htk)) ?_
   refine re_allocL hl rfl rfl rfl rfl rfl (z := [.int .i64 0, .int .i64 0, .int .i64 0, .int .i64 0, .int .i64 0, .int .i64 0, .int .i64 0, .bool false, .int .i64 0, .int .i64 0]) (by kernel_rfl) ?_; intro B6 S6 hl; refine re_storeL hl 0 rfl rfl rfl rfl rfl rfl rfl (by kernel_rfl) rfl ?_; intro S1 hl; refine re_end rfl ?_; refine xs (by kernel_rfl) ?_; refine rr rfl (rd_fieldAddr rfl rfl (fa Tryd.underlying39 az39 rfl)) ?_; refine rr rfl (rd_load rfl rfl (loadN_of (z := 2) (by kernel_rfl) (by kernel_rfl) (hl.get 0 rfl) rfl)) ?_
   refine rr rfl (rd_fieldAddr rfl rfl (fa Tryd.underlying39 az39 rfl)) ?_; refine rr rfl (rd_load rfl rfl (loadN_of (z := 2) (by kernel_rfl) (by kernel_rfl) (hl.get 0 rfl) rfl)) ?_
   refine re_callL hl rfl rfl rfl rfl rfl rfl rfl (spec46 x.at_ x.dur (hl.keep.3 hF)) ?_; rintro v S1 hk1 rfl hl
   iterate 2 refine rm rfl ?_
   refine re_storeL hl 1 rfl rfl rfl rfl rfl rfl rfl (by kernel_rfl) rfl ?_; intro S1 hl; refine rm rfl ?_; refine re_end rfl ?_; refine xp_ret rfl ?_
   refine done_ret (ress_cell rfl (loadN_of (z := 2) (by kernel_rfl) (by kernel_rfl) (hl.get 1 rfl) rfl) (ress_tmp rfl rfl)) ⟨hl.keep, by rw [end_3 h13 hx] <;> rfl⟩
end Go.Proofs.YtlnenodplgpceaaDoor
namespace Go.Proofs.YtlnenodplgpceaaDoor
open Go.Cm Go
set_option maxRecDepth 100000
variable {S : St}
noncomputable def c60 : Code := Tryd.f60.body.getD .skip
theorem spec60 (a : Option Addr) (cap : Nat) (V : List (List Ev)) (hF : Fresh S) (hv : Vs S (.slice a V.length cap) V) : CC Tryd.prog KK 60 [.slice a V.length cap] S (fun v S' => Keep S S' ∧ v = tupV [.int .i64 (acE V).1, .int .i64 (acE V).2]) := by
 refine cc_enter (c := c60) (n := 28) Tryd.func60 rfl rfl rfl (by kernel_rfl) rfl rfl ?_
 have hl := Hold.start S
 refine xs (by kernel_rfl) ?_; iterate 2 refine rm rfl ?_
 refine re_end rfl ?_; refine xp_seq rfl ?_; refine xs (by kernel_rfl) ?_; refine rm rfl ?_; refine rr rfl (rd_len rfl rfl (len_slice Tryd.underlying25)) ?_; refine rr rfl (rd_bin rfl rfl rfl rfl) ?_; refine re_end rfl ?_; refine xp_cond rfl rfl (fun h10 => ?_) (fun h10 => ?_)
 ·
  refine xs (by kernel_rfl) ?_; iterate 2 refine rm rfl ?_
  refine re_end rfl ?_; refine xp_ret rfl ?_
  refine thn_ret (done_ret (ress_tmp rfl (ress_tmp rfl rfl)) ⟨hl.keep, by rw [ac_1 h10] <;> rfl⟩)
 ·
  refine xp_skip rfl ?_; refine xp_seq rfl ?_; refine xs (by kernel_rfl) ?_; refine rm rfl ?_; refine rr rfl (rd_len rfl rfl (len_slice Tryd.underlying25)) ?_; refine rm rfl ?_; refine re_end rfl ?_; refine xp_block rfl ?_
  -- LOOP
  have hn : (V.length : Int) ≤ 8 := by have := of_decide_eq_false h10; omega
  refine xe_sub (L' := [(13, .int .i64 0), (12, .int .i64 V.length), (11, .slice a V.length cap), (3, .int .i64 0), (2, .int .i64 0)]) ⟨rfl, rfl, rfl, rfl, rfl, trivial⟩ ?_
  refine xp_loop rfl (fun m Le S' => ∃ i : Nat, i ≤ V.length ∧ m = V.length - i ∧ acG (V.drop i) i = acG V 0 ∧ SubE [(13, .int .i64 (i : Int)), (12, .int .i64 V.length), (11, .slice a V.length cap), (3, .int .i64 0), (2, .int .i64 0)] Le ∧ HoldG S [S] S' [] []) ?_ (m := V.length) ⟨0, by omega, rfl, rfl, ⟨rfl, rfl, rfl, rfl, rfl, trivial⟩, hl⟩
  clear hl; rintro m Le S' ⟨i, hi, rfl, hin, hsub, hl⟩; refine xe_sub hsub ?_
  refine xs (by kernel_rfl) ?_; refine rr rfl (rd_bin rfl rfl rfl rfl) ?_; refine re_end rfl ?_; refine xp_seq rfl ?_; refine xp_cond rfl rfl (fun h14 => ?_) (fun h14 => ?_)
  ·
   have hlt : i < V.length := by have := of_decide_eq_true h14; omega
   obtain ⟨x, hx⟩ := nth_some hlt
   obtain ⟨b1, o1, cs1, aw, cw, ha, _, hrow, htk, hvx⟩ := hv.elem hx
   rw [drop_nth' hx] at hin
   refine xp_skip rfl ?_; refine xp_seq rfl ?_; refine xp_block rfl ?_; refine xs (by kernel_rfl) ?_; refine rm rfl ?_; refine rr rfl (rd_indexAddr rfl rfl rfl (indexAddr_sl (z := 1) ha Tryd.underlying25 (by kernel_rfl) ⟨by omega, by omega⟩)) ?_; refine rr rfl (rd_load rfl rfl (load1_row (by kernel_rfl) (row_move (hl.since 0 rfl) hrow) htk)) ?_; iterate 2 refine rm rfl ?_
   refine re_end rfl ?_; refine xs (by kernel_rfl) ?_; refine rm rfl ?_
   refine re_callL hl rfl rfl rfl rfl rfl rfl rfl (spec29 aw cw x (hl.keep.3 hF) (hvx.move (hl.since 0 rfl))) ?_; rintro v S1 hk1 rfl hl
   iterate 5 refine rm rfl ?_
   refine re_end rfl ?_; refine xs (by kernel_rfl) ?_; refine rm rfl ?_; refine rr rfl (rd_bin rfl rfl rfl rfl) ?_; refine re_end rfl ?_; refine xp_cond rfl rfl (fun h24 => ?_) (fun h24 => ?_)
   ·
    refine xs (by kernel_rfl) ?_; iterate 4 refine rm rfl ?_
    refine re_end rfl ?_; refine xp_ret rfl ?_
    refine blk_ret (thn_ret (round_ret (blk_ret (thn_ret (done_ret (ress_tmp rfl (ress_tmp rfl rfl)) ⟨hl.keep, by rw [ac_2 h10, ← hin, acG_1 h24] <;> rfl⟩)))))
   ·
    refine xp_skip rfl ?_; refine xg (by kernel_rfl) ?_; refine rr rfl (rd_bin rfl rfl rfl (i6 (by omega))) ?_; refine rm rfl ?_; refine re_end rfl ?_
    exact ⟨V.length - (i + 1), by omega, i + 1, by omega, rfl, by rw [← hin, acG_2 h24], ⟨rfl, rfl, rfl, rfl, rfl, trivial⟩, hl⟩
  ·
   refine xp_exit rfl ?_; refine xs (by kernel_rfl) ?_; iterate 2 refine rm rfl ?_
   refine re_end rfl ?_; refine xp_ret rfl ?_
   refine done_ret (ress_tmp rfl (ress_tmp rfl rfl)) ⟨hl.keep, by rw [ac_2 h10, ← hin, List.drop_eq_nil_of_le (by have := of_decide_eq_false h14; omega)] <;> rfl⟩
theorem mg_end {S S' : St} {A B O A0 B0 : List Ti} {ao : Option Addr} (hp : mgG (A.length + B.length) A B O = mgE A0 B0) (h : A.length + B.length = 0) (hg : Grow S S' (gOf 33 2 Ti.cells (.slice ao O.length O.length) O)) : ∃ av, (tupV [.slice ao O.length O.length] : Value) = .slice av (mgE A0 B0).length (mgE A0 B0).length ∧ Grow S S' (gOf 33 2 Ti.cells (.slice av (mgE A0 B0).length (mgE A0 B0).length) (mgE A0 B0)) := by
 rw [h] at hp
 have he : mgE A0 B0 = O := hp.symm
 rw [he]
 exact ⟨ao, rfl, hg⟩
noncomputable def c85 : Code := Tryd.f85.body.getD .skip
theorem spec85 (a0 b0 : Option Addr) (ca cb : Nat) (A0 B0 : List Ti) (hF : Fresh S) (hn : A0.length + B0.length ≤ 100000) (hva : Tis S (.slice a0 A0.length ca) A0) (hvb : Tis S (.slice b0 B0.length cb) B0) : CC Tryd.prog KK 85 [.slice a0 A0.length ca, .slice b0 B0.length cb, .func (.func 76) #[] #[]] S (fun v S' => Keep S S' ∧ ∃ av, v = .slice av (mgE A0 B0).length (mgE A0 B0).length ∧ Grow S S' (gOf 33 2 Ti.cells (.slice av (mgE A0 B0).length (mgE A0 B0).length) (mgE A0 B0))) := by
 refine cc_enter (c := c85) (n := 59) Tryd.func85 rfl rfl rfl (by kernel_rfl) rfl rfl ?_
 have hl := Hold.start S
 refine xs (by kernel_rfl) ?_; refine rm rfl ?_; refine re_end rfl ?_; refine xs (by kernel_rfl) ?_; refine rm rfl ?_; refine re_end rfl ?_; refine xp_seq rfl ?_; refine xp_block rfl ?_
 -- LOOP
 have hl := hl.addG (g := gOf 33 2 Ti.cells (.slice none 0 0) []) (.inl ⟨rfl, rfl, rfl⟩)
 refine xe_sub (L' := [(7, .slice none ([] : List Ti).length ([] : List Ti).length), (6, .slice none 0 0), (0, .slice a0 A0.length ca), (1, .slice b0 B0.length cb), (2, .func (.func 76) #[] #[])]) ⟨rfl, rfl, rfl, rfl, rfl, trivial⟩ ?_
 refine xp_loop rfl (fun m Le S' => ∃ (A B O : List Ti) (a b ao : Option Addr) (c d : Nat), m = A.length + B.length ∧ A.length + B.length + O.length ≤ A0.length + B0.length ∧ mgG (A.length + B.length) A B O = mgE A0 B0 ∧ SubE [(7, .slice ao O.length O.length), (6, .slice none 0 0), (0, .slice a A.length c), (1, .slice b B.length d), (2, .func (.func 76) #[] #[])] Le ∧ Tis S (.slice a A.length c) A ∧ Tis S (.slice b B.length d) B ∧ HoldG S [S] S' [] [gOf 33 2 Ti.cells (.slice ao O.length O.length) O]) ?_ (m := A0.length + B0.length) ⟨A0, B0, [], a0, b0, none, ca, cb, rfl, Nat.le_refl _, rfl, ⟨rfl, rfl, rfl, rfl, rfl, trivial⟩, hva, hvb, hl⟩
 clear hl; rintro m Le S' ⟨A, B, O, a, b, ao, c, d, rfl, hlen, hpr, hsub, hA, hB, hl⟩; refine xe_sub hsub ?_
 refine xp_seq rfl ?_; refine xs (by kernel_rfl) ?_; refine rm rfl ?_; refine rr rfl (rd_len rfl rfl (len_slice Tryd.underlying44)) ?_; refine rm rfl ?_; refine rr rfl (rd_len rfl rfl (len_slice Tryd.underlying44)) ?_; refine rr rfl (rd_bin rfl rfl rfl (i6 (by omega))) ?_; refine rr rfl (rd_bin rfl rfl rfl rfl) ?_; refine re_end rfl ?_; refine xp_cond rfl rfl (fun h13 => ?_) (fun h13 => ?_)
 ·
  refine xp_skip rfl ?_; refine xp_block rfl ?_
  have hpos : 0 < A.length + B.length := by have := of_decide_eq_true h13; omega
  refine xp_seq rfl (xe_cut (fun Le S' => ∃ (A1 B1 : List Ti) (a1 b1 : Option Addr) (c1 d1 : Nat), swp A B = (A1, B1) ∧ SubE [(7, .slice ao O.length O.length), (6, .slice none 0 0), (0, .slice a1 A1.length c1), (1, .slice b1 B1.length d1), (2, .func (.func 76) #[] #[])] Le ∧ Tis S (.slice a1 A1.length c1) A1 ∧ Tis S (.slice b1 B1.length d1) B1 ∧ HoldG S [S] S' [] [gOf 33 2 Ti.cells (.slice ao O.length O.length) O]) ?_ ?_)
  ·
   refine xp_seq rfl (xe_toE hl 32 (.bool (swB A B)) ?_ rfl ?_)
   ·
    refine xp_draw (idx := [0, 1, 2, 3, 4, 5, 6, 7, 8, 9, 10, 11, 12, 13, 14, 15, 16, 17, 18]) rfl (by kernel_rfl) (by kernel_rfl) ?_; refine pm rfl ?_; refine pk rfl (rd_len rfl rfl (len_slice Tryd.underlying44)) ?_; refine pr rfl (rd_bin rfl rfl rfl rfl) ?_; refine pm rfl ?_; refine rp_bool (d := 17) rfl (fun h17 => ?_) (fun h17 => ?_)
    ·
     iterate 14 refine pz rfl ?_
     refine pm rfl ?_; refine rp_end rfl ?_
     exact ⟨rfl, bl (by unfold swB; rw [h17]; rfl), by repeat (first | exact subL_refl _ | refine subL_skip rfl ?_), hl⟩
    ·
     refine pm rfl ?_; refine pk rfl (rd_len rfl rfl (len_slice Tryd.underlying44)) ?_; refine pr rfl (rd_bin rfl rfl rfl rfl) ?_; refine pm rfl ?_; refine rp_bool (d := 21) rfl (fun h21 => ?_) (fun h21 => ?_)
     ·
      iterate 2 refine pm rfl ?_
      have hpA : 0 < A.length := by have := h17; simp at this; cases A with
       | nil => exact absurd rfl this
       | cons => simp
      have hpB : 0 < B.length := by have := of_decide_eq_true h21; omega
      obtain ⟨x, hx⟩ := nth_some hpA
      obtain ⟨y, hy⟩ := nth_some hpB
      obtain ⟨b1, o1, cs1, ha, _, hrow, htk⟩ := hA.elem hx
      obtain ⟨b2, o2, cs2, ha2, _, hrow2, htk2⟩ := hB.elem hy
      refine pr rfl (rd_indexAddr rfl rfl rfl (indexAddr_sl (z := 2) ha2 Tryd.underlying44 (by kernel_rfl) ⟨by omega, by first | omega | (simp only [List.length_cons]; omega)⟩)) ?_; refine pk rfl (rd_load rfl rfl (loadN_row (z := 2) (by kernel_rfl) (by kernel_rfl) (row_move (hl.since 0 rfl) hrow2) htk2)) ?_; refine pm rfl ?_; refine pr rfl (rd_indexAddr rfl rfl rfl (indexAddr_sl (z := 2) ha Tryd.underlying44 (by kernel_rfl) ⟨by omega, by first | omega | (simp only [List.length_cons]; omega)⟩)) ?_
      refine pk rfl (rd_load rfl rfl (loadN_row (z := 2) (by kernel_rfl) (by kernel_rfl) (row_move (hl.since 0 rfl) hrow) htk)) ?_
      refine rp_callL hl rfl rfl rfl rfl rfl rfl rfl (spec76 y x) ?_; rintro v S1 hk1 rfl hl; refine ⟨stays_all (by kernel_rfl), ?_⟩
      refine pr rfl (rd_bin rfl rfl rfl rfl) ?_; iterate 2 refine pm rfl ?_
      refine rp_end rfl ?_
      exact ⟨rfl, bl (by unfold swB; rw [h17, h21]; unfold hdT; rw [hx, hy]; rfl), by repeat (first | exact subL_refl _ | refine subL_skip rfl ?_), hl⟩
     ·
      iterate 9 refine pz rfl ?_
      iterate 2 refine pm rfl ?_
      refine rp_end rfl ?_
      exact ⟨rfl, bl (by unfold swB; rw [h17, h21]; rfl), by repeat (first | exact subL_refl _ | refine subL_skip rfl ?_), hl⟩
   intro S1 hl
   refine xp_cond rfl rfl (fun h32 => ?_) (fun h32 => ?_)
   ·
    refine xg (by kernel_rfl) ?_; iterate 4 refine rm rfl ?_
    refine re_end rfl ?_
    exact ⟨rfl, B, A, b, a, d, c, by unfold swp; rw [h32]; rfl, ⟨rfl, rfl, rfl, rfl, rfl, trivial⟩, hB, hA, hl⟩
   ·
    refine xp_skip rfl ?_
    exact ⟨rfl, A, B, a, b, c, d, by unfold swp; rw [h32]; rfl, ⟨rfl, rfl, rfl, rfl, rfl, trivial⟩, hA, hB, hl⟩
  clear hl hA hB; rintro Le3 S1 ⟨A1, B1, a1, b1, c1, d1, hsw, hsub3, hA, hB, hl⟩; refine xe_sub hsub3 ?_
  obtain ⟨x, r, hxr⟩ := swp_pos hpos
  rw [hsw] at hxr
  have hxr : A1 = x :: r := hxr
  have hsl := swp_len A B
  rw [hsw, hxr] at hsl
  have hsl : r.length + 1 + B1.length = A.length + B.length := hsl
  subst hxr
  obtain ⟨bx, ox, csx, hax, _, hrowx, htkx⟩ := hA.elem (k := 0) (x := x) rfl
  refine xp_seq rfl (xe_cut (fun Le S' => ∃ (O1 : List Ti) (ao1 : Option Addr), O1 = psh O x ∧ O1.length ≤ O.length + 1 ∧ SubE [(7, .slice ao1 O1.length O1.length), (6, .slice none 0 0), (0, .slice a1 (x :: r).length c1), (1, .slice b1 B1.length d1), (2, .func (.func 76) #[] #[])] Le ∧ HoldG S [S] S' [] [gOf 33 2 Ti.cells (.slice ao1 O1.length O1.length) O1]) ?_ ?_)
  ·
   refine xp_seq rfl (xe_toE hl 49 (.bool (psB O x)) ?_ rfl ?_)
   ·
    refine xp_draw (idx := [0, 1, 2, 3, 4, 5, 6, 7, 8, 9, 10, 11, 12, 13, 14]) rfl (by kernel_rfl) (by kernel_rfl) ?_; refine pm rfl ?_; refine pk rfl (rd_len rfl rfl (len_slice Tryd.underlying44)) ?_; refine pr rfl (rd_bin rfl rfl rfl rfl) ?_; refine pm rfl ?_; refine rp_bool (d := 38) rfl (fun h38 => ?_) (fun h38 => ?_)
    ·
     iterate 10 refine pz rfl ?_
     refine pm rfl ?_; refine rp_end rfl ?_
     exact ⟨rfl, bl (by unfold psB; rw [h38]; rfl), by repeat (first | exact subL_refl _ | refine subL_skip rfl ?_), hl⟩
    ·
     iterate 2 refine pm rfl ?_
     refine pk rfl (rd_len rfl rfl (len_slice Tryd.underlying44)) ?_
     have hpO : 0 < O.length := by have := h38; simp at this; cases O with
      | nil => exact absurd rfl this
      | cons => simp
     obtain ⟨y, hy⟩ := nth_some (l := O) (i := O.length - 1) (by omega)
     have hO := Grow.ls (f := Ti.cells) (z := 2) (e := 33) (v := .slice ao O.length O.length) (C := O) (fun _ => rfl) (hl.gr _ (List.mem_cons_self ..))
     obtain ⟨b2, o2, cs2, ha2, _, hrow2, htk2⟩ := hO.elem hy
     rw [show O.length - 1 = ((O.length : Int) - 1).toNat by omega] at htk2
     refine pr rfl (rd_bin rfl rfl rfl (i6 (by omega))) ?_; refine pr rfl (rd_indexAddr rfl rfl rfl (indexAddr_sl (z := 2) ha2 Tryd.underlying44 (by kernel_rfl) ⟨by omega, by first | omega | (simp only [List.length_cons]; omega)⟩)) ?_; refine pk rfl (rd_load rfl rfl (loadN_row (z := 2) (by kernel_rfl) (by kernel_rfl) hrow2 htk2)) ?_; refine pm rfl ?_; refine pr rfl (rd_indexAddr rfl rfl rfl (indexAddr_sl (z := 2) hax Tryd.underlying44 (by kernel_rfl) ⟨by omega, by first | omega | (simp only [List.length_cons]; omega)⟩)) ?_
     refine pk rfl (rd_load rfl rfl (loadN_row (z := 2) (by kernel_rfl) (by kernel_rfl) (row_move (hl.since 0 rfl) hrowx) htkx)) ?_; refine pr rfl (rd_bin rfl rfl rfl (neTime _ _ y x)) ?_; refine pm rfl ?_; refine rp_end rfl ?_
     exact ⟨rfl, bl (by unfold psB; rw [h38, hy]; rfl), by repeat (first | exact subL_refl _ | refine subL_skip rfl ?_), hl⟩
   intro S1 hl
   refine xp_cond rfl rfl (fun h49 => ?_) (fun h49 => ?_)
   ·
    refine xg (by kernel_rfl) ?_; iterate 2 refine rm rfl ?_
    refine rr rfl (rd_indexAddr rfl rfl rfl (indexAddr_sl (z := 2) hax Tryd.underlying44 (by kernel_rfl) ⟨by omega, by first | omega | (simp only [List.length_cons]; omega)⟩)) ?_; refine rr rfl (rd_load rfl rfl (loadN_row (z := 2) (by kernel_rfl) (by kernel_rfl) (row_move (hl.since 0 rfl) hrowx) htkx)) ?_; refine re_buildSliceR hl rfl rfl rfl rfl rfl Tryd.underlying44 rfl (c := x.cells) (by kernel_rfl) ?_; intro B54 S1 hr54 hl
    refine re_appendG hl 0 rfl rfl (by simp) rfl rfl rfl rfl rfl rfl rfl Tryd.underlying44 Tryd.underlying44 rfl rfl (by kernel_rfl) (src_row (new := x.cells) hr54 rfl) rfl rfl (by kernel_rfl) (by show O.length + 1 ≤ maxNeed; unfold maxNeed; omega) ?_; intro v55 S1 hl
    obtain ⟨av3, rfl⟩ : ∃ av3, v55 = .slice av3 (O.length + 1) (O.length + 1) := Grow.is (hl.gr _ (List.mem_cons_self ..))
    refine rm rfl ?_; refine re_end rfl ?_
    refine ⟨rfl, O ++ [x], av3, by unfold psh; rw [h49]; rfl, by rw [List.length_append]; exact Nat.le_refl _, ⟨congrArg some (congrArg (fun n => Value.slice av3 n n) (by rw [List.length_append]; rfl)), rfl, rfl, rfl, rfl, trivial⟩, ?_⟩
    rw [gOf_push]
    exact hl
   ·
    refine xp_skip rfl ?_
    exact ⟨rfl, O, ao, by unfold psh; rw [h49]; rfl, by omega, ⟨rfl, rfl, rfl, rfl, rfl, trivial⟩, hl⟩
  clear hl; rintro Le4 S1 ⟨O1, ao1, hO1, hlO, hsub4, hl⟩; refine xe_sub hsub4 ?_
  obtain ⟨a2, c2, hslc, hA2⟩ := hA.tail (t := 44) (P := Tryd.prog) (hl.since 0 rfl) Tryd.underlying44 (by kernel_rfl)
  refine xg (by kernel_rfl) ?_; refine rm rfl ?_; refine rr rfl (rd_slice rfl rfl rfl rfl rfl hslc) ?_; refine rm rfl ?_; refine re_end rfl ?_
  refine ⟨r.length + B1.length, by omega, r, B1, O1, a2, b1, ao1, c2, d1, rfl, by omega, ?_, ⟨rfl, rfl, rfl, rfl, rfl, trivial⟩, hA2, hB, hl⟩
  rw [← hpr, ← hsl, show r.length + 1 + B1.length = (r.length + B1.length) + 1 by omega, mg_step hsw rfl, hO1]
 ·
  refine xp_exit rfl ?_; refine xs (by kernel_rfl) ?_; iterate 2 refine rm rfl ?_
  refine re_end rfl ?_; refine xp_ret rfl ?_
  refine done_ret (ress_tmp rfl rfl) ⟨hl.keep, (mg_end hpr (by have := of_decide_eq_false h13; omega) (hl.gr _ (List.mem_cons_self ..)))⟩
end Go.Proofs.YtlnenodplgpceaaDoor
