/-
  sign.kept, sign.within, sign.ranged.
-/
import Derived.Test.YtgnhcamhcnkbfaaGreatDoorSm0
namespace Go.Proofs.YtgnhcamhcnkbfaaGreatDoor
open Go.Cm Go
set_option maxRecDepth 100000
variable {S : St}
def keptS (s : Sg) (a0 a1 a2 a3 a4 a5 a6 a7 a8 a9 a10 a11 : Bool) : Sg := { kind := s.kind, value := bif a0 then s.value else 0, place := bif a1 then s.place else 0, acc := bif a2 then s.acc else 0, color := bif a3 then s.color else false, stem := bif a4 then s.stem else 0, oblique := bif a5 then s.oblique else false, last := bif a6 then s.last else false, mx := bif a7 then s.mx else 0, md := bif a7 then s.md else 0, tm := bif a7 then s.tm else 0, pr := bif a7 then s.pr else 0, stroke := bif a8 then s.stroke else false, n := bif a9 then s.n else 0, d := bif a10 then s.d else 0, step := bif a11 then s.step else 0, line := bif a11 then s.line else 0 }
noncomputable def c66 : Code := Tryz.f66.body.getD .skip
theorem spec66 (s : Sg) (a0 a1 a2 a3 a4 a5 a6 a7 a8 a9 a10 a11 : Bool) : CC Tryz.prog KK 66 [s.v, .agg #[.bool a0, .bool a1, .bool a2, .bool a3, .bool a4, .bool a5, .bool a6, .bool a7, .bool a8, .bool a9, .bool a10, .bool a11]] S (fun v S' => Keep S S' ∧ v = (keptS s a0 a1 a2 a3 a4 a5 a6 a7 a8 a9 a10 a11).v) := by
  refine cc_enter (c := c66) (n := 70) Tryz.func66 rfl rfl rfl (by kernel_rfl) rfl rfl ?_
  have hl := Hold.start S
  refine xp_seq rfl ?_; refine xp_region rfl (by kernel_rfl) ?_; refine re_boxL hl rfl rfl rfl rfl rfl rfl ?_; intro B2 S2 hl; refine re_boxL hl rfl rfl rfl rfl rfl rfl ?_; intro B3 S3 hl; refine re_allocL hl rfl rfl rfl rfl rfl (z := [.int .i64 0, .int .i64 0, .int .i64 0, .int .i64 0, .bool false, .int .i64 0, .bool false, .bool false, .int .i64 0, .int .i64 0, .int .i64 0, .int .i64 0, .bool false, .int .i64 0, .int .i64 0, .int .i64 0, .int .i64 0]) (by kernel_rfl) ?_; intro B4 S4 hl; refine re_end rfl ?_; refine xp_seq rfl ?_; refine xp_region rfl (by kernel_rfl) ?_
  refine re_rd rfl rfl rfl rfl (rd_fieldAddr rfl rfl (fieldAddr_at Tryz.underlying54 rfl (by kernel_rfl))) ?_; refine re_rd rfl rfl rfl rfl (rd_load rfl rfl (load1_of (by kernel_rfl) (hl.get 2 rfl) rfl)) ?_; refine re_rd rfl rfl rfl rfl (rd_build rfl rfl (v := aggL [.int .i64 s.kind, .int .i64 0, .int .i64 0, .int .i64 0, .bool false, .int .i64 0, .bool false, .bool false, .int .i64 0, .int .i64 0, .int .i64 0, .int .i64 0, .bool false, .int .i64 0, .int .i64 0, .int .i64 0, .int .i64 0]) (by rfl)) ?_
  refine re_allocL hl rfl rfl rfl rfl rfl (z := [.int .i64 0, .int .i64 0, .int .i64 0, .int .i64 0, .bool false, .int .i64 0, .bool false, .bool false, .int .i64 0, .int .i64 0, .int .i64 0, .int .i64 0, .bool false, .int .i64 0, .int .i64 0, .int .i64 0, .int .i64 0]) (by kernel_rfl) ?_; intro B5 S5 hl; refine re_storeL hl 0 rfl rfl rfl rfl rfl rfl rfl (by kernel_rfl) rfl ?_; intro S6 hl; refine re_end rfl ?_
  refine xp_seq rfl (xe_to (L1 := [(2, ptrTo B2 0), (3, ptrTo B3 0), (4, ptrTo B4 0), (5, ptrTo B5 0)]) (fun S' => Hold S [S] S' [(B5, .cells [.int .i64 s.kind, .int .i64 (bif a0 then s.value else 0), .int .i64 0, .int .i64 0, .bool false, .int .i64 0, .bool false, .bool false, .int .i64 0, .int .i64 0, .int .i64 0, .int .i64 0, .bool false, .int .i64 0, .int .i64 0, .int .i64 0, .int .i64 0] 54 false true []), (B4, .cells [.int .i64 0, .int .i64 0, .int .i64 0, .int .i64 0, .bool false, .int .i64 0, .bool false, .bool false, .int .i64 0, .int .i64 0, .int .i64 0, .int .i64 0, .bool false, .int .i64 0, .int .i64 0, .int .i64 0, .int .i64 0] 54 false true []), (B3, .cells [.bool a0, .bool a1, .bool a2, .bool a3, .bool a4, .bool a5, .bool a6, .bool a7, .bool a8, .bool a9, .bool a10, .bool a11] 123 false true []), (B2, .cells [.int .i64 s.kind, .int .i64 s.value, .int .i64 s.place, .int .i64 s.acc, .bool s.color, .int .i64 s.stem, .bool s.oblique, .bool s.last, .int .i64 s.mx, .int .i64 s.md, .int .i64 s.tm, .int .i64 s.pr, .bool s.stroke, .int .i64 s.n, .int .i64 s.d, .int .i64 s.step, .int .i64 s.line] 54 false true [])]) ?_ ?_)
  · refine xp_seq rfl (xp_region rfl (by kernel_rfl) ?_)
    refine re_rd rfl rfl rfl rfl (rd_fieldAddr rfl rfl (fieldAddr_at Tryz.underlying123 rfl (by kernel_rfl))) ?_; refine re_rd rfl rfl rfl rfl (rd_load rfl rfl (load1_of (by kernel_rfl) (hl.get 2 rfl) rfl)) ?_; refine re_end rfl ?_; refine xp_cond rfl rfl (fun h => ?_) (fun h => ?_)
    · subst h
      refine xp_region rfl (by kernel_rfl) ?_; refine re_rd rfl rfl rfl rfl (rd_fieldAddr rfl rfl (fieldAddr_at Tryz.underlying54 rfl (by kernel_rfl))) ?_; refine re_rd rfl rfl rfl rfl (rd_load rfl rfl (load1_of (by kernel_rfl) (hl.get 3 rfl) rfl)) ?_; refine re_rd rfl rfl rfl rfl (rd_fieldAddr rfl rfl (fieldAddr_at Tryz.underlying54 rfl (by kernel_rfl))) ?_; refine re_storeL hl 0 rfl rfl rfl rfl rfl rfl rfl (by kernel_rfl) rfl ?_; intro S1 hl
      exact re_end rfl ⟨rfl, ⟨rfl, rfl, rfl, rfl, trivial⟩, hl⟩
    · subst h
      exact xp_skip rfl ⟨rfl, ⟨rfl, rfl, rfl, rfl, trivial⟩, hl⟩
  clear hl; intro S6 hl
  refine xp_seq rfl (xe_to (L1 := [(2, ptrTo B2 0), (3, ptrTo B3 0), (4, ptrTo B4 0), (5, ptrTo B5 0)]) (fun S' => Hold S [S] S' [(B5, .cells [.int .i64 s.kind, .int .i64 (bif a0 then s.value else 0), .int .i64 (bif a1 then s.place else 0), .int .i64 0, .bool false, .int .i64 0, .bool false, .bool false, .int .i64 0, .int .i64 0, .int .i64 0, .int .i64 0, .bool false, .int .i64 0, .int .i64 0, .int .i64 0, .int .i64 0] 54 false true []), (B4, .cells [.int .i64 0, .int .i64 0, .int .i64 0, .int .i64 0, .bool false, .int .i64 0, .bool false, .bool false, .int .i64 0, .int .i64 0, .int .i64 0, .int .i64 0, .bool false, .int .i64 0, .int .i64 0, .int .i64 0, .int .i64 0] 54 false true []), (B3, .cells [.bool a0, .bool a1, .bool a2, .bool a3, .bool a4, .bool a5, .bool a6, .bool a7, .bool a8, .bool a9, .bool a10, .bool a11] 123 false true []), (B2, .cells [.int .i64 s.kind, .int .i64 s.value, .int .i64 s.place, .int .i64 s.acc, .bool s.color, .int .i64 s.stem, .bool s.oblique, .bool s.last, .int .i64 s.mx, .int .i64 s.md, .int .i64 s.tm, .int .i64 s.pr, .bool s.stroke, .int .i64 s.n, .int .i64 s.d, .int .i64 s.step, .int .i64 s.line] 54 false true [])]) ?_ ?_)
  · refine xp_seq rfl (xp_region rfl (by kernel_rfl) ?_)
    refine re_rd rfl rfl rfl rfl (rd_fieldAddr rfl rfl (fieldAddr_at Tryz.underlying123 rfl (by kernel_rfl))) ?_; refine re_rd rfl rfl rfl rfl (rd_load rfl rfl (load1_of (by kernel_rfl) (hl.get 2 rfl) rfl)) ?_; refine re_end rfl ?_; refine xp_cond rfl rfl (fun h => ?_) (fun h => ?_)
    · subst h
      refine xp_region rfl (by kernel_rfl) ?_; refine re_rd rfl rfl rfl rfl (rd_fieldAddr rfl rfl (fieldAddr_at Tryz.underlying54 rfl (by kernel_rfl))) ?_; refine re_rd rfl rfl rfl rfl (rd_load rfl rfl (load1_of (by kernel_rfl) (hl.get 3 rfl) rfl)) ?_; refine re_rd rfl rfl rfl rfl (rd_fieldAddr rfl rfl (fieldAddr_at Tryz.underlying54 rfl (by kernel_rfl))) ?_; refine re_storeL hl 0 rfl rfl rfl rfl rfl rfl rfl (by kernel_rfl) rfl ?_; intro S1 hl
      exact re_end rfl ⟨rfl, ⟨rfl, rfl, rfl, rfl, trivial⟩, hl⟩
    · subst h
      exact xp_skip rfl ⟨rfl, ⟨rfl, rfl, rfl, rfl, trivial⟩, hl⟩
  clear hl; intro S6 hl
  refine xp_seq rfl (xe_to (L1 := [(2, ptrTo B2 0), (3, ptrTo B3 0), (4, ptrTo B4 0), (5, ptrTo B5 0)]) (fun S' => Hold S [S] S' [(B5, .cells [.int .i64 s.kind, .int .i64 (bif a0 then s.value else 0), .int .i64 (bif a1 then s.place else 0), .int .i64 (bif a2 then s.acc else 0), .bool false, .int .i64 0, .bool false, .bool false, .int .i64 0, .int .i64 0, .int .i64 0, .int .i64 0, .bool false, .int .i64 0, .int .i64 0, .int .i64 0, .int .i64 0] 54 false true []), (B4, .cells [.int .i64 0, .int .i64 0, .int .i64 0, .int .i64 0, .bool false, .int .i64 0, .bool false, .bool false, .int .i64 0, .int .i64 0, .int .i64 0, .int .i64 0, .bool false, .int .i64 0, .int .i64 0, .int .i64 0, .int .i64 0] 54 false true []), (B3, .cells [.bool a0, .bool a1, .bool a2, .bool a3, .bool a4, .bool a5, .bool a6, .bool a7, .bool a8, .bool a9, .bool a10, .bool a11] 123 false true []), (B2, .cells [.int .i64 s.kind, .int .i64 s.value, .int .i64 s.place, .int .i64 s.acc, .bool s.color, .int .i64 s.stem, .bool s.oblique, .bool s.last, .int .i64 s.mx, .int .i64 s.md, .int .i64 s.tm, .int .i64 s.pr, .bool s.stroke, .int .i64 s.n, .int .i64 s.d, .int .i64 s.step, .int .i64 s.line] 54 false true [])]) ?_ ?_)
  · refine xp_seq rfl (xp_region rfl (by kernel_rfl) ?_)
    refine re_rd rfl rfl rfl rfl (rd_fieldAddr rfl rfl (fieldAddr_at Tryz.underlying123 rfl (by kernel_rfl))) ?_; refine re_rd rfl rfl rfl rfl (rd_load rfl rfl (load1_of (by kernel_rfl) (hl.get 2 rfl) rfl)) ?_; refine re_end rfl ?_; refine xp_cond rfl rfl (fun h => ?_) (fun h => ?_)
    · subst h
      refine xp_region rfl (by kernel_rfl) ?_; refine re_rd rfl rfl rfl rfl (rd_fieldAddr rfl rfl (fieldAddr_at Tryz.underlying54 rfl (by kernel_rfl))) ?_; refine re_rd rfl rfl rfl rfl (rd_load rfl rfl (load1_of (by kernel_rfl) (hl.get 3 rfl) rfl)) ?_; refine re_rd rfl rfl rfl rfl (rd_fieldAddr rfl rfl (fieldAddr_at Tryz.underlying54 rfl (by kernel_rfl))) ?_; refine re_storeL hl 0 rfl rfl rfl rfl rfl rfl rfl (by kernel_rfl) rfl ?_; intro S1 hl
      exact re_end rfl ⟨rfl, ⟨rfl, rfl, rfl, rfl, trivial⟩, hl⟩
    · subst h
      exact xp_skip rfl ⟨rfl, ⟨rfl, rfl, rfl, rfl, trivial⟩, hl⟩
  clear hl; intro S6 hl
  refine xp_seq rfl (xe_to (L1 := [(2, ptrTo B2 0), (3, ptrTo B3 0), (4, ptrTo B4 0), (5, ptrTo B5 0)]) (fun S' => Hold S [S] S' [(B5, .cells [.int .i64 s.kind, .int .i64 (bif a0 then s.value else 0), .int .i64 (bif a1 then s.place else 0), .int .i64 (bif a2 then s.acc else 0), .bool (bif a3 then s.color else false), .int .i64 0, .bool false, .bool false, .int .i64 0, .int .i64 0, .int .i64 0, .int .i64 0, .bool false, .int .i64 0, .int .i64 0, .int .i64 0, .int .i64 0] 54 false true []), (B4, .cells [.int .i64 0, .int .i64 0, .int .i64 0, .int .i64 0, .bool false, .int .i64 0, .bool false, .bool false, .int .i64 0, .int .i64 0, .int .i64 0, .int .i64 0, .bool false, .int .i64 0, .int .i64 0, .int .i64 0, .int .i64 0] 54 false true []), (B3, .cells [.bool a0, .bool a1, .bool a2, .bool a3, .bool a4, .bool a5, .bool a6, .bool a7, .bool a8, .bool a9, .bool a10, .bool a11] 123 false true []), (B2, .cells [.int .i64 s.kind, .int .i64 s.value, .int .i64 s.place, .int .i64 s.acc, .bool s.color, .int .i64 s.stem, .bool s.oblique, .bool s.last, .int .i64 s.mx, .int .i64 s.md, .int .i64 s.tm, .int .i64 s.pr, .bool s.stroke, .int .i64 s.n, .int .i64 s.d, .int .i64 s.step, .int .i64 s.line] 54 false true [])]) ?_ ?_)
  · refine xp_seq rfl (xp_region rfl (by kernel_rfl) ?_)
    refine re_rd rfl rfl rfl rfl (rd_fieldAddr rfl rfl (fieldAddr_at Tryz.underlying123 rfl (by kernel_rfl))) ?_; refine re_rd rfl rfl rfl rfl (rd_load rfl rfl (load1_of (by kernel_rfl) (hl.get 2 rfl) rfl)) ?_; refine re_end rfl ?_; refine xp_cond rfl rfl (fun h => ?_) (fun h => ?_)
    · subst h
      refine xp_region rfl (by kernel_rfl) ?_; refine re_rd rfl rfl rfl rfl (rd_fieldAddr rfl rfl (fieldAddr_at Tryz.underlying54 rfl (by kernel_rfl))) ?_; refine re_rd rfl rfl rfl rfl (rd_load rfl rfl (load1_of (by kernel_rfl) (hl.get 3 rfl) rfl)) ?_; refine re_rd rfl rfl rfl rfl (rd_fieldAddr rfl rfl (fieldAddr_at Tryz.underlying54 rfl (by kernel_rfl))) ?_; refine re_storeL hl 0 rfl rfl rfl rfl rfl rfl rfl (by kernel_rfl) rfl ?_; intro S1 hl
      exact re_end rfl ⟨rfl, ⟨rfl, rfl, rfl, rfl, trivial⟩, hl⟩
    · subst h
      exact xp_skip rfl ⟨rfl, ⟨rfl, rfl, rfl, rfl, trivial⟩, hl⟩
  clear hl; intro S6 hl
  refine xp_seq rfl (xe_to (L1 := [(2, ptrTo B2 0), (3, ptrTo B3 0), (4, ptrTo B4 0), (5, ptrTo B5 0)]) (fun S' => Hold S [S] S' [(B5, .cells [.int .i64 s.kind, .int .i64 (bif a0 then s.value else 0), .int .i64 (bif a1 then s.place else 0), .int .i64 (bif a2 then s.acc else 0), .bool (bif a3 then s.color else false), .int .i64 (bif a4 then s.stem else 0), .bool false, .bool false, .int .i64 0, .int .i64 0, .int .i64 0, .int .i64 0, .bool false, .int .i64 0, .int .i64 0, .int .i64 0, .int .i64 0] 54 false true []), (B4, .cells [.int .i64 0, .int .i64 0, .int .i64 0, .int .i64 0, .bool false, .int .i64 0, .bool false, .bool false, .int .i64 0, .int .i64 0, .int .i64 0, .int .i64 0, .bool false, .int .i64 0, .int .i64 0, .int .i64 0, .int .i64 0] 54 false true []), (B3, .cells [.bool a0, .bool a1, .bool a2, .bool a3, .bool a4, .bool a5, .bool a6, .bool a7, .bool a8, .bool a9, .bool a10, .bool a11] 123 false true []), (B2, .cells [.int .i64 s.kind, .int .i64 s.value, .int .i64 s.place, .int .i64 s.acc, .bool s.color, .int .i64 s.stem, .bool s.oblique, .bool s.last, .int .i64 s.mx, .int .i64 s.md, .int .i64 s.tm, .int .i64 s.pr, .bool s.stroke, .int .i64 s.n, .int .i64 s.d, .int .i64 s.step, .int .i64 s.line] 54 false true [])]) ?_ ?_)
  · refine xp_seq rfl (xp_region rfl (by kernel_rfl) ?_)
    refine re_rd rfl rfl rfl rfl (rd_fieldAddr rfl rfl (fieldAddr_at Tryz.underlying123 rfl (by kernel_rfl))) ?_; refine re_rd rfl rfl rfl rfl (rd_load rfl rfl (load1_of (by kernel_rfl) (hl.get 2 rfl) rfl)) ?_; refine re_end rfl ?_; refine xp_cond rfl rfl (fun h => ?_) (fun h => ?_)
    · subst h
      refine xp_region rfl (by kernel_rfl) ?_; refine re_rd rfl rfl rfl rfl (rd_fieldAddr rfl rfl (fieldAddr_at Tryz.underlying54 rfl (by kernel_rfl))) ?_; refine re_rd rfl rfl rfl rfl (rd_load rfl rfl (load1_of (by kernel_rfl) (hl.get 3 rfl) rfl)) ?_; refine re_rd rfl rfl rfl rfl (rd_fieldAddr rfl rfl (fieldAddr_at Tryz.underlying54 rfl (by kernel_rfl))) ?_; refine re_storeL hl 0 rfl rfl rfl rfl rfl rfl rfl (by kernel_rfl) rfl ?_; intro S1 hl
      exact re_end rfl ⟨rfl, ⟨rfl, rfl, rfl, rfl, trivial⟩, hl⟩
    · subst h
      exact xp_skip rfl ⟨rfl, ⟨rfl, rfl, rfl, rfl, trivial⟩, hl⟩
  clear hl; intro S6 hl
  refine xp_seq rfl (xe_to (L1 := [(2, ptrTo B2 0), (3, ptrTo B3 0), (4, ptrTo B4 0), (5, ptrTo B5 0)]) (fun S' => Hold S [S] S' [(B5, .cells [.int .i64 s.kind, .int .i64 (bif a0 then s.value else 0), .int .i64 (bif a1 then s.place else 0), .int .i64 (bif a2 then s.acc else 0), .bool (bif a3 then s.color else false), .int .i64 (bif a4 then s.stem else 0), .bool (bif a5 then s.oblique else false), .bool false, .int .i64 0, .int .i64 0, .int .i64 0, .int .i64 0, .bool false, .int .i64 0, .int .i64 0, .int .i64 0, .int .i64 0] 54 false true []), (B4, .cells [.int .i64 0, .int .i64 0, .int .i64 0, .int .i64 0, .bool false, .int .i64 0, .bool false, .bool false, .int .i64 0, .int .i64 0, .int .i64 0, .int .i64 0, .bool false, .int .i64 0, .int .i64 0, .int .i64 0, .int .i64 0] 54 false true []), (B3, .cells [.bool a0, .bool a1, .bool a2, .bool a3, .bool a4, .bool a5, .bool a6, .bool a7, .bool a8, .bool a9, .bool a10, .bool a11] 123 false true []), (B2, .cells [.int .i64 s.kind, .int .i64 s.value, .int .i64 s.place, .int .i64 s.acc, .bool s.color, .int .i64 s.stem, .bool s.oblique, .bool s.last, .int .i64 s.mx, .int .i64 s.md, .int .i64 s.tm, .int .i64 s.pr, .bool s.stroke, .int .i64 s.n, .int .i64 s.d, .int .i64 s.step, .int .i64 s.line] 54 false true [])]) ?_ ?_)
  · refine xp_seq rfl (xp_region rfl (by kernel_rfl) ?_)
    refine re_rd rfl rfl rfl rfl (rd_fieldAddr rfl rfl (fieldAddr_at Tryz.underlying123 rfl (by kernel_rfl))) ?_; refine re_rd rfl rfl rfl rfl (rd_load rfl rfl (load1_of (by kernel_rfl) (hl.get 2 rfl) rfl)) ?_; refine re_end rfl ?_; refine xp_cond rfl rfl (fun h => ?_) (fun h => ?_)
    · subst h
      refine xp_region rfl (by kernel_rfl) ?_; refine re_rd rfl rfl rfl rfl (rd_fieldAddr rfl rfl (fieldAddr_at Tryz.underlying54 rfl (by kernel_rfl))) ?_; refine re_rd rfl rfl rfl rfl (rd_load rfl rfl (load1_of (by kernel_rfl) (hl.get 3 rfl) rfl)) ?_; refine re_rd rfl rfl rfl rfl (rd_fieldAddr rfl rfl (fieldAddr_at Tryz.underlying54 rfl (by kernel_rfl))) ?_; refine re_storeL hl 0 rfl rfl rfl rfl rfl rfl rfl (by kernel_rfl) rfl ?_; intro S1 hl
      exact re_end rfl ⟨rfl, ⟨rfl, rfl, rfl, rfl, trivial⟩, hl⟩
    · subst h
      exact xp_skip rfl ⟨rfl, ⟨rfl, rfl, rfl, rfl, trivial⟩, hl⟩
  clear hl; intro S6 hl
  refine xp_seq rfl (xe_to (L1 := [(2, ptrTo B2 0), (3, ptrTo B3 0), (4, ptrTo B4 0), (5, ptrTo B5 0)]) (fun S' => Hold S [S] S' [(B5, .cells [.int .i64 s.kind, .int .i64 (bif a0 then s.value else 0), .int .i64 (bif a1 then s.place else 0), .int .i64 (bif a2 then s.acc else 0), .bool (bif a3 then s.color else false), .int .i64 (bif a4 then s.stem else 0), .bool (bif a5 then s.oblique else false), .bool (bif a6 then s.last else false), .int .i64 0, .int .i64 0, .int .i64 0, .int .i64 0, .bool false, .int .i64 0, .int .i64 0, .int .i64 0, .int .i64 0] 54 false true []), (B4, .cells [.int .i64 0, .int .i64 0, .int .i64 0, .int .i64 0, .bool false, .int .i64 0, .bool false, .bool false, .int .i64 0, .int .i64 0, .int .i64 0, .int .i64 0, .bool false, .int .i64 0, .int .i64 0, .int .i64 0, .int .i64 0] 54 false true []), (B3, .cells [.bool a0, .bool a1, .bool a2, .bool a3, .bool a4, .bool a5, .bool a6, .bool a7, .bool a8, .bool a9, .bool a10, .bool a11] 123 false true []), (B2, .cells [.int .i64 s.kind, .int .i64 s.value, .int .i64 s.place, .int .i64 s.acc, .bool s.color, .int .i64 s.stem, .bool s.oblique, .bool s.last, .int .i64 s.mx, .int .i64 s.md, .int .i64 s.tm, .int .i64 s.pr, .bool s.stroke, .int .i64 s.n, .int .i64 s.d, .int .i64 s.step, .int .i64 s.line] 54 false true [])]) ?_ ?_)
  · refine xp_seq rfl (xp_region rfl (by kernel_rfl) ?_)
    refine re_rd rfl rfl rfl rfl (rd_fieldAddr rfl rfl (fieldAddr_at Tryz.underlying123 rfl (by kernel_rfl))) ?_; refine re_rd rfl rfl rfl rfl (rd_load rfl rfl (load1_of (by kernel_rfl) (hl.get 2 rfl) rfl)) ?_; refine re_end rfl ?_; refine xp_cond rfl rfl (fun h => ?_) (fun h => ?_)
    · subst h
      refine xp_region rfl (by kernel_rfl) ?_; refine re_rd rfl rfl rfl rfl (rd_fieldAddr rfl rfl (fieldAddr_at Tryz.underlying54 rfl (by kernel_rfl))) ?_; refine re_rd rfl rfl rfl rfl (rd_load rfl rfl (load1_of (by kernel_rfl) (hl.get 3 rfl) rfl)) ?_; refine re_rd rfl rfl rfl rfl (rd_fieldAddr rfl rfl (fieldAddr_at Tryz.underlying54 rfl (by kernel_rfl))) ?_; refine re_storeL hl 0 rfl rfl rfl rfl rfl rfl rfl (by kernel_rfl) rfl ?_; intro S1 hl
      exact re_end rfl ⟨rfl, ⟨rfl, rfl, rfl, rfl, trivial⟩, hl⟩
    · subst h
      exact xp_skip rfl ⟨rfl, ⟨rfl, rfl, rfl, rfl, trivial⟩, hl⟩
  clear hl; intro S6 hl
  refine xp_seq rfl (xe_to (L1 := [(2, ptrTo B2 0), (3, ptrTo B3 0), (4, ptrTo B4 0), (5, ptrTo B5 0)]) (fun S' => Hold S [S] S' [(B5, .cells [.int .i64 s.kind, .int .i64 (bif a0 then s.value else 0), .int .i64 (bif a1 then s.place else 0), .int .i64 (bif a2 then s.acc else 0), .bool (bif a3 then s.color else false), .int .i64 (bif a4 then s.stem else 0), .bool (bif a5 then s.oblique else false), .bool (bif a6 then s.last else false), .int .i64 (bif a7 then s.mx else 0), .int .i64 (bif a7 then s.md else 0), .int .i64 (bif a7 then s.tm else 0), .int .i64 (bif a7 then s.pr else 0), .bool false, .int .i64 0, .int .i64 0, .int .i64 0, .int .i64 0] 54 false true []), (B4, .cells [.int .i64 0, .int .i64 0, .int .i64 0, .int .i64 0, .bool false, .int .i64 0, .bool false, .bool false, .int .i64 0, .int .i64 0, .int .i64 0, .int .i64 0, .bool false, .int .i64 0, .int .i64 0, .int .i64 0, .int .i64 0] 54 false true []), (B3, .cells [.bool a0, .bool a1, .bool a2, .bool a3, .bool a4, .bool a5, .bool a6, .bool a7, .bool a8, .bool a9, .bool a10, .bool a11] 123 false true []), (B2, .cells [.int .i64 s.kind, .int .i64 s.value, .int .i64 s.place, .int .i64 s.acc, .bool s.color, .int .i64 s.stem, .bool s.oblique, .bool s.last, .int .i64 s.mx, .int .i64 s.md, .int .i64 s.tm, .int .i64 s.pr, .bool s.stroke, .int .i64 s.n, .int .i64 s.d, .int .i64 s.step, .int .i64 s.line] 54 false true [])]) ?_ ?_)
  · refine xp_seq rfl (xp_region rfl (by kernel_rfl) ?_)
    refine re_rd rfl rfl rfl rfl (rd_fieldAddr rfl rfl (fieldAddr_at Tryz.underlying123 rfl (by kernel_rfl))) ?_; refine re_rd rfl rfl rfl rfl (rd_load rfl rfl (load1_of (by kernel_rfl) (hl.get 2 rfl) rfl)) ?_; refine re_end rfl ?_; refine xp_cond rfl rfl (fun h => ?_) (fun h => ?_)
    · subst h
      refine xp_region rfl (by kernel_rfl) ?_; refine re_rd rfl rfl rfl rfl (rd_fieldAddr rfl rfl (fieldAddr_at Tryz.underlying54 rfl (by kernel_rfl))) ?_; refine re_rd rfl rfl rfl rfl (rd_load rfl rfl (loadN_of (z := 4) (by kernel_rfl) (by kernel_rfl) (hl.get 3 rfl) rfl)) ?_; refine re_rd rfl rfl rfl rfl (rd_fieldAddr rfl rfl (fieldAddr_at Tryz.underlying54 rfl (by kernel_rfl))) ?_; refine re_storeL hl 0 rfl rfl rfl rfl rfl rfl rfl (by kernel_rfl) rfl ?_; intro S1 hl
      exact re_end rfl ⟨rfl, ⟨rfl, rfl, rfl, rfl, trivial⟩, hl⟩
    · subst h
      exact xp_skip rfl ⟨rfl, ⟨rfl, rfl, rfl, rfl, trivial⟩, hl⟩
  clear hl; intro S6 hl
  refine xp_seq rfl (xe_to (L1 := [(2, ptrTo B2 0), (3, ptrTo B3 0), (4, ptrTo B4 0), (5, ptrTo B5 0)]) (fun S' => Hold S [S] S' [(B5, .cells [.int .i64 s.kind, .int .i64 (bif a0 then s.value else 0), .int .i64 (bif a1 then s.place else 0), .int .i64 (bif a2 then s.acc else 0), .bool (bif a3 then s.color else false), .int .i64 (bif a4 then s.stem else 0), .bool (bif a5 then s.oblique else false), .bool (bif a6 then s.last else false), .int .i64 (bif a7 then s.mx else 0), .int .i64 (bif a7 then s.md else 0), .int .i64 (bif a7 then s.tm else 0), .int .i64 (bif a7 then s.pr else 0), .bool (bif a8 then s.stroke else false), .int .i64 0, .int .i64 0, .int .i64 0, .int .i64 0] 54 false true []), (B4, .cells [.int .i64 0, .int .i64 0, .int .i64 0, .int .i64 0, .bool false, .int .i64 0, .bool false, .bool false, .int .i64 0, .int .i64 0, .int .i64 0, .int .i64 0, .bool false, .int .i64 0, .int .i64 0, .int .i64 0, .int .i64 0] 54 false true []), (B3, .cells [.bool a0, .bool a1, .bool a2, .bool a3, .bool a4, .bool a5, .bool a6, .bool a7, .bool a8, .bool a9, .bool a10, .bool a11] 123 false true []), (B2, .cells [.int .i64 s.kind, .int .i64 s.value, .int .i64 s.place, .int .i64 s.acc, .bool s.color, .int .i64 s.stem, .bool s.oblique, .bool s.last, .int .i64 s.mx, .int .i64 s.md, .int .i64 s.tm, .int .i64 s.pr, .bool s.stroke, .int .i64 s.n, .int .i64 s.d, .int .i64 s.step, .int .i64 s.line] 54 false true [])]) ?_ ?_)
  · refine xp_seq rfl (xp_region rfl (by kernel_rfl) ?_)
    refine re_rd rfl rfl rfl rfl (rd_fieldAddr rfl rfl (fieldAddr_at Tryz.underlying123 rfl (by kernel_rfl))) ?_; refine re_rd rfl rfl rfl rfl (rd_load rfl rfl (load1_of (by kernel_rfl) (hl.get 2 rfl) rfl)) ?_; refine re_end rfl ?_; refine xp_cond rfl rfl (fun h => ?_) (fun h => ?_)
    · subst h
      refine xp_region rfl (by kernel_rfl) ?_; refine re_rd rfl rfl rfl rfl (rd_fieldAddr rfl rfl (fieldAddr_at Tryz.underlying54 rfl (by kernel_rfl))) ?_; refine re_rd rfl rfl rfl rfl (rd_load rfl rfl (load1_of (by kernel_rfl) (hl.get 3 rfl) rfl)) ?_; refine re_rd rfl rfl rfl rfl (rd_fieldAddr rfl rfl (fieldAddr_at Tryz.underlying54 rfl (by kernel_rfl))) ?_; refine re_storeL hl 0 rfl rfl rfl rfl rfl rfl rfl (by kernel_rfl) rfl ?_; intro S1 hl
      exact re_end rfl ⟨rfl, ⟨rfl, rfl, rfl, rfl, trivial⟩, hl⟩
    · subst h
      exact xp_skip rfl ⟨rfl, ⟨rfl, rfl, rfl, rfl, trivial⟩, hl⟩
  clear hl; intro S6 hl
  refine xp_seq rfl (xe_to (L1 := [(2, ptrTo B2 0), (3, ptrTo B3 0), (4, ptrTo B4 0), (5, ptrTo B5 0)]) (fun S' => Hold S [S] S' [(B5, .cells [.int .i64 s.kind, .int .i64 (bif a0 then s.value else 0), .int .i64 (bif a1 then s.place else 0), .int .i64 (bif a2 then s.acc else 0), .bool (bif a3 then s.color else false), .int .i64 (bif a4 then s.stem else 0), .bool (bif a5 then s.oblique else false), .bool (bif a6 then s.last else false), .int .i64 (bif a7 then s.mx else 0), .int .i64 (bif a7 then s.md else 0), .int .i64 (bif a7 then s.tm else 0), .int .i64 (bif a7 then s.pr else 0), .bool (bif a8 then s.stroke else false), .int .i64 (bif a9 then s.n else 0), .int .i64 0, .int .i64 0, .int .i64 0] 54 false true []), (B4, .cells [.int .i64 0, .int .i64 0, .int .i64 0, .int .i64 0, .bool false, .int .i64 0, .bool false, .bool false, .int .i64 0, .int .i64 0, .int .i64 0, .int .i64 0, .bool false, .int .i64 0, .int .i64 0, .int .i64 0, .int .i64 0] 54 false true []), (B3, .cells [.bool a0, .bool a1, .bool a2, .bool a3, .bool a4, .bool a5, .bool a6, .bool a7, .bool a8, .bool a9, .bool a10, .bool a11] 123 false true []), (B2, .cells [.int .i64 s.kind, .int .i64 s.value, .int .i64 s.place, .int .i64 s.acc, .bool s.color, .int .i64 s.stem, .bool s.oblique, .bool s.last, .int .i64 s.mx, .int .i64 s.md, .int .i64 s.tm, .int .i64 s.pr, .bool s.stroke, .int .i64 s.n, .int .i64 s.d, .int .i64 s.step, .int .i64 s.line] 54 false true [])]) ?_ ?_)
  · refine xp_seq rfl (xp_region rfl (by kernel_rfl) ?_)
    refine re_rd rfl rfl rfl rfl (rd_fieldAddr rfl rfl (fieldAddr_at Tryz.underlying123 rfl (by kernel_rfl))) ?_; refine re_rd rfl rfl rfl rfl (rd_load rfl rfl (load1_of (by kernel_rfl) (hl.get 2 rfl) rfl)) ?_; refine re_end rfl ?_; refine xp_cond rfl rfl (fun h => ?_) (fun h => ?_)
    · subst h
      refine xp_region rfl (by kernel_rfl) ?_; refine re_rd rfl rfl rfl rfl (rd_fieldAddr rfl rfl (fieldAddr_at Tryz.underlying54 rfl (by kernel_rfl))) ?_; refine re_rd rfl rfl rfl rfl (rd_load rfl rfl (load1_of (by kernel_rfl) (hl.get 3 rfl) rfl)) ?_; refine re_rd rfl rfl rfl rfl (rd_fieldAddr rfl rfl (fieldAddr_at Tryz.underlying54 rfl (by kernel_rfl))) ?_; refine re_storeL hl 0 rfl rfl rfl rfl rfl rfl rfl (by kernel_rfl) rfl ?_; intro S1 hl
      exact re_end rfl ⟨rfl, ⟨rfl, rfl, rfl, rfl, trivial⟩, hl⟩
    · subst h
      exact xp_skip rfl ⟨rfl, ⟨rfl, rfl, rfl, rfl, trivial⟩, hl⟩
  clear hl; intro S6 hl
  refine xp_seq rfl (xe_to (L1 := [(2, ptrTo B2 0), (3, ptrTo B3 0), (4, ptrTo B4 0), (5, ptrTo B5 0)]) (fun S' => Hold S [S] S' [(B5, .cells [.int .i64 s.kind, .int .i64 (bif a0 then s.value else 0), .int .i64 (bif a1 then s.place else 0), .int .i64 (bif a2 then s.acc else 0), .bool (bif a3 then s.color else false), .int .i64 (bif a4 then s.stem else 0), .bool (bif a5 then s.oblique else false), .bool (bif a6 then s.last else false), .int .i64 (bif a7 then s.mx else 0), .int .i64 (bif a7 then s.md else 0), .int .i64 (bif a7 then s.tm else 0), .int .i64 (bif a7 then s.pr else 0), .bool (bif a8 then s.stroke else false), .int .i64 (bif a9 then s.n else 0), .int .i64 (bif a10 then s.d else 0), .int .i64 0, .int .i64 0] 54 false true []), (B4, .cells [.int .i64 0, .int .i64 0, .int .i64 0, .int .i64 0, .bool false, .int .i64 0, .bool false, .bool false, .int .i64 0, .int .i64 0, .int .i64 0, .int .i64 0, .bool false, .int .i64 0, .int .i64 0, .int .i64 0, .int .i64 0] 54 false true []), (B3, .cells [.bool a0, .bool a1, .bool a2, .bool a3, .bool a4, .bool a5, .bool a6, .bool a7, .bool a8, .bool a9, .bool a10, .bool a11] 123 false true []), (B2, .cells [.int .i64 s.kind, .int .i64 s.value, .int .i64 s.place, .int .i64 s.acc, .bool s.color, .int .i64 s.stem, .bool s.oblique, .bool s.last, .int .i64 s.mx, .int .i64 s.md, .int .i64 s.tm, .int .i64 s.pr, .bool s.stroke, .int .i64 s.n, .int .i64 s.d, .int .i64 s.step, .int .i64 s.line] 54 false true [])]) ?_ ?_)
  · refine xp_seq rfl (xp_region rfl (by kernel_rfl) ?_)
    refine re_rd rfl rfl rfl rfl (rd_fieldAddr rfl rfl (fieldAddr_at Tryz.underlying123 rfl (by kernel_rfl))) ?_; refine re_rd rfl rfl rfl rfl (rd_load rfl rfl (load1_of (by kernel_rfl) (hl.get 2 rfl) rfl)) ?_; refine re_end rfl ?_; refine xp_cond rfl rfl (fun h => ?_) (fun h => ?_)
    · subst h
      refine xp_region rfl (by kernel_rfl) ?_; refine re_rd rfl rfl rfl rfl (rd_fieldAddr rfl rfl (fieldAddr_at Tryz.underlying54 rfl (by kernel_rfl))) ?_; refine re_rd rfl rfl rfl rfl (rd_load rfl rfl (load1_of (by kernel_rfl) (hl.get 3 rfl) rfl)) ?_; refine re_rd rfl rfl rfl rfl (rd_fieldAddr rfl rfl (fieldAddr_at Tryz.underlying54 rfl (by kernel_rfl))) ?_; refine re_storeL hl 0 rfl rfl rfl rfl rfl rfl rfl (by kernel_rfl) rfl ?_; intro S1 hl
      exact re_end rfl ⟨rfl, ⟨rfl, rfl, rfl, rfl, trivial⟩, hl⟩
    · subst h
      exact xp_skip rfl ⟨rfl, ⟨rfl, rfl, rfl, rfl, trivial⟩, hl⟩
  clear hl; intro S6 hl
  refine xp_seq rfl (xe_to (L1 := [(2, ptrTo B2 0), (3, ptrTo B3 0), (4, ptrTo B4 0), (5, ptrTo B5 0)]) (fun S' => Hold S [S] S' [(B5, .cells [.int .i64 s.kind, .int .i64 (bif a0 then s.value else 0), .int .i64 (bif a1 then s.place else 0), .int .i64 (bif a2 then s.acc else 0), .bool (bif a3 then s.color else false), .int .i64 (bif a4 then s.stem else 0), .bool (bif a5 then s.oblique else false), .bool (bif a6 then s.last else false), .int .i64 (bif a7 then s.mx else 0), .int .i64 (bif a7 then s.md else 0), .int .i64 (bif a7 then s.tm else 0), .int .i64 (bif a7 then s.pr else 0), .bool (bif a8 then s.stroke else false), .int .i64 (bif a9 then s.n else 0), .int .i64 (bif a10 then s.d else 0), .int .i64 (bif a11 then s.step else 0), .int .i64 (bif a11 then s.line else 0)] 54 false true []), (B4, .cells [.int .i64 0, .int .i64 0, .int .i64 0, .int .i64 0, .bool false, .int .i64 0, .bool false, .bool false, .int .i64 0, .int .i64 0, .int .i64 0, .int .i64 0, .bool false, .int .i64 0, .int .i64 0, .int .i64 0, .int .i64 0] 54 false true []), (B3, .cells [.bool a0, .bool a1, .bool a2, .bool a3, .bool a4, .bool a5, .bool a6, .bool a7, .bool a8, .bool a9, .bool a10, .bool a11] 123 false true []), (B2, .cells [.int .i64 s.kind, .int .i64 s.value, .int .i64 s.place, .int .i64 s.acc, .bool s.color, .int .i64 s.stem, .bool s.oblique, .bool s.last, .int .i64 s.mx, .int .i64 s.md, .int .i64 s.tm, .int .i64 s.pr, .bool s.stroke, .int .i64 s.n, .int .i64 s.d, .int .i64 s.step, .int .i64 s.line] 54 false true [])]) ?_ ?_)
  · refine xp_seq rfl (xp_region rfl (by kernel_rfl) ?_)
    refine re_rd rfl rfl rfl rfl (rd_fieldAddr rfl rfl (fieldAddr_at Tryz.underlying123 rfl (by kernel_rfl))) ?_; refine re_rd rfl rfl rfl rfl (rd_load rfl rfl (load1_of (by kernel_rfl) (hl.get 2 rfl) rfl)) ?_; refine re_end rfl ?_; refine xp_cond rfl rfl (fun h => ?_) (fun h => ?_)
    · subst h
      refine xp_region rfl (by kernel_rfl) ?_; refine re_rd rfl rfl rfl rfl (rd_fieldAddr rfl rfl (fieldAddr_at Tryz.underlying54 rfl (by kernel_rfl))) ?_; refine re_rd rfl rfl rfl rfl (rd_load rfl rfl (loadN_of (z := 2) (by kernel_rfl) (by kernel_rfl) (hl.get 3 rfl) rfl)) ?_; refine re_rd rfl rfl rfl rfl (rd_fieldAddr rfl rfl (fieldAddr_at Tryz.underlying54 rfl (by kernel_rfl))) ?_; refine re_storeL hl 0 rfl rfl rfl rfl rfl rfl rfl (by kernel_rfl) rfl ?_; intro S1 hl
      exact re_end rfl ⟨rfl, ⟨rfl, rfl, rfl, rfl, trivial⟩, hl⟩
    · subst h
      exact xp_skip rfl ⟨rfl, ⟨rfl, rfl, rfl, rfl, trivial⟩, hl⟩
  clear hl; intro S6 hl
  refine xp_seq rfl ?_; refine xp_region rfl (by kernel_rfl) ?_; refine re_rd rfl rfl rfl rfl (rd_load rfl rfl (loadN_of (z := 17) (by kernel_rfl) (by kernel_rfl) (hl.get 0 rfl) rfl)) ?_; refine re_storeL hl 1 rfl rfl rfl rfl rfl rfl rfl (by kernel_rfl) rfl ?_; intro S1 hl; refine re_end rfl ?_; refine xp_ret rfl ?_
  exact done_ret (ress_cell rfl (loadN_of (z := 17) (by kernel_rfl) (by kernel_rfl) (hl.get 1 rfl) rfl) rfl) ⟨hl.keep, rfl⟩
noncomputable def c79 : Code := Tryz.f79.body.getD .skip
theorem spec79 (a b c : Int) : CC Tryz.prog KK 79 [.int .i64 a, .int .i64 b, .int .i64 c] S (fun v S' => Keep S S' ∧ v = .bool (decide (b ≤ a) && decide (a ≤ c))) := by
  refine cc_enter (c := c79) (n := 15) Tryz.func79 rfl rfl rfl (by kernel_rfl) rfl rfl ?_
  have hl := Hold.start S
  refine xp_seq rfl ?_; refine xp_region rfl (by kernel_rfl) ?_; refine re_rd rfl rfl rfl rfl (rd_assign rfl rfl) ?_; refine re_end rfl ?_; refine xp_seq rfl ?_; refine xp_region rfl (by kernel_rfl) ?_; iterate 2 refine re_rd rfl rfl rfl rfl (rd_move rfl rfl) ?_
  refine re_rd rfl rfl rfl rfl (rd_bin rfl rfl rfl rfl) ?_; refine re_rd rfl rfl rfl rfl (rd_move rfl rfl) ?_; refine re_bool (d := 10) rfl (fun h10 => ?_) (fun h10 => ?_)
  ·
    iterate 2 refine re_rd rfl rfl rfl rfl (rd_move rfl rfl) ?_
    refine re_rd rfl rfl rfl rfl (rd_bin rfl rfl rfl rfl) ?_; refine re_rd rfl rfl rfl rfl (rd_pick_t rfl rfl rfl) ?_; refine re_rd rfl rfl rfl rfl (rd_assign rfl rfl) ?_; refine re_end rfl ?_; refine xp_ret rfl ?_
    refine done_ret (ress_tmp rfl rfl) ⟨hl.keep, congrArg Value.bool (by first | (simp [h10]; done) | (simp at *; simp [*]; done) | (simp at *; omega))⟩
  ·
    iterate 3 refine re_pass rfl rfl rfl rfl ?_
    refine re_rd rfl rfl rfl rfl (rd_pick_f rfl rfl rfl) ?_; refine re_rd rfl rfl rfl rfl (rd_assign rfl rfl) ?_; refine re_end rfl ?_; refine xp_ret rfl ?_
    refine done_ret (ress_tmp rfl rfl) ⟨hl.keep, congrArg Value.bool (by first | (simp [h10]; done) | (simp at *; simp [*]; done) | (simp at *; omega))⟩

def rangedF (s : Sg) (a0 a1 a2 a4 a10 a11 : Bool) : Bool := !((a0 && !(decide (1 ≤ s.value) && decide (s.value ≤ 8))) || (a1 && !(decide (-4 ≤ s.place) && decide (s.place ≤ 12))) || (a2 && !(decide (-1 ≤ s.acc) && decide (s.acc ≤ 2))) || (a4 && !(decide (0 ≤ s.stem) && decide (s.stem ≤ 3))) || (a10 && (!(decide (1 ≤ s.n) && decide (s.n ≤ 100)) || !(decide (1 ≤ s.d) && decide (s.d ≤ 100)))) || (a11 && (((s.step != 0) && (s.step != 3) && (s.step != 4)) || !(decide (1 ≤ s.line) && decide (s.line ≤ 5)))) || ((s.kind == 8) && !(decide (0 ≤ s.n) && decide (s.n ≤ 2))) || ((s.kind == 10) && !(decide (2 ≤ s.n) && decide (s.n ≤ 4))))
noncomputable def c68 : Code := Tryz.f68.body.getD .skip
theorem spec68 (s : Sg) (a0 a1 a2 a3 a4 a5 a6 a7 a8 a9 a10 a11 : Bool) : CC Tryz.prog KK 68 [s.v, .agg #[.bool a0, .bool a1, .bool a2, .bool a3, .bool a4, .bool a5, .bool a6, .bool a7, .bool a8, .bool a9, .bool a10, .bool a11]] S (fun v S' => Keep S S' ∧ v = .bool (rangedF s a0 a1 a2 a4 a10 a11)) := by
  refine cc_enter (c := c68) (n := 104) Tryz.func68 rfl rfl rfl (by kernel_rfl) rfl rfl ?_
  have hl := Hold.start S
  refine xp_seq rfl ?_; refine xp_region rfl (by kernel_rfl) ?_; refine re_boxL hl rfl rfl rfl rfl rfl rfl ?_; intro B2 S2 hl; refine re_boxL hl rfl rfl rfl rfl rfl rfl ?_; intro B3 S3 hl; refine re_rd rfl rfl rfl rfl (rd_assign rfl rfl) ?_; refine re_end rfl ?_; refine xp_seq rfl ?_; refine xp_block rfl ?_; refine xp_seq rfl (xe_toL hl [(5, .bool (a0 && !(decide (1 ≤ s.value) && decide (s.value ≤ 8)))), (3, ptrTo B3 0), (2, ptrTo B2 0)] ?_ ?_)
  ·
    refine xp_region rfl (by kernel_rfl) ?_; refine re_rd rfl rfl rfl rfl (rd_fieldAddr rfl rfl (fieldAddr_at Tryz.underlying123 rfl (by kernel_rfl))) ?_; refine re_rd rfl rfl rfl rfl (rd_load rfl rfl (load1_of (by kernel_rfl) (hl.get 0 rfl) rfl)) ?_; refine re_rd rfl rfl rfl rfl (rd_move rfl rfl) ?_; refine re_bool (d := 8) rfl (fun h8 => ?_) (fun h8 => ?_)
    ·
      refine re_rd rfl rfl rfl rfl (rd_fieldAddr rfl rfl (fieldAddr_at Tryz.underlying54 rfl (by kernel_rfl))) ?_; refine re_rd rfl rfl rfl rfl (rd_load rfl rfl (load1_of (by kernel_rfl) (hl.get 1 rfl) rfl)) ?_
      refine re_callL hl rfl rfl rfl rfl rfl rfl rfl (spec79 _ _ _) ?_; rintro v S1 hk1 rfl hl
      refine re_rd rfl rfl rfl rfl (rd_un rfl rfl rfl) ?_; refine re_rd rfl rfl rfl rfl (rd_pick_t rfl rfl rfl) ?_; refine re_rd rfl rfl rfl rfl (rd_assign rfl rfl) ?_; refine re_end rfl ?_
      exact ⟨rfl, ⟨bl (by first | (simp [h8]; done) | (simp only [h8, BLs])), rfl, rfl, trivial⟩, hl⟩
    ·
      iterate 4 refine re_pass rfl rfl rfl rfl ?_
      refine re_rd rfl rfl rfl rfl (rd_pick_f rfl rfl rfl) ?_; refine re_rd rfl rfl rfl rfl (rd_assign rfl rfl) ?_; refine re_end rfl ?_
      exact ⟨rfl, ⟨bl (by first | (simp [h8]; done) | (simp only [h8, BLs])), rfl, rfl, trivial⟩, hl⟩
  intro S1 hl
  refine xp_cond rfl rfl (fun h5 => ?_) (fun h5 => ?_)
  ·
    refine xp_skip rfl ?_; refine xp_seq rfl ?_; refine xp_region rfl (by kernel_rfl) ?_; refine re_rd rfl rfl rfl rfl (rd_assign rfl rfl) ?_; refine re_end rfl ?_; refine xp_ret rfl ?_
    refine done_ret (ress_tmp rfl rfl) ⟨hl.keep, congrArg Value.bool (by simp only [rangedF, h5]; rfl)⟩
  ·
    refine xp_seq rfl (xe_toL hl [(14, .bool (a1 && !(decide (-4 ≤ s.place) && decide (s.place ≤ 12)))), (3, ptrTo B3 0), (2, ptrTo B2 0)] ?_ ?_)
    ·
      refine xp_region rfl (by kernel_rfl) ?_; refine re_rd rfl rfl rfl rfl (rd_fieldAddr rfl rfl (fieldAddr_at Tryz.underlying123 rfl (by kernel_rfl))) ?_; refine re_rd rfl rfl rfl rfl (rd_load rfl rfl (load1_of (by kernel_rfl) (hl.get 0 rfl) rfl)) ?_; refine re_rd rfl rfl rfl rfl (rd_move rfl rfl) ?_; refine re_bool (d := 17) rfl (fun h17 => ?_) (fun h17 => ?_)
      ·
        refine re_rd rfl rfl rfl rfl (rd_fieldAddr rfl rfl (fieldAddr_at Tryz.underlying54 rfl (by kernel_rfl))) ?_; refine re_rd rfl rfl rfl rfl (rd_load rfl rfl (load1_of (by kernel_rfl) (hl.get 1 rfl) rfl)) ?_
        refine re_callL hl rfl rfl rfl rfl rfl rfl rfl (spec79 _ _ _) ?_; rintro v S1 hk1 rfl hl
        refine re_rd rfl rfl rfl rfl (rd_un rfl rfl rfl) ?_; refine re_rd rfl rfl rfl rfl (rd_pick_t rfl rfl rfl) ?_; refine re_rd rfl rfl rfl rfl (rd_assign rfl rfl) ?_; refine re_end rfl ?_
        exact ⟨rfl, ⟨bl (by first | (simp [h17]; done) | (simp only [h17, BLs])), rfl, rfl, trivial⟩, hl⟩
      ·
        iterate 4 refine re_pass rfl rfl rfl rfl ?_
        refine re_rd rfl rfl rfl rfl (rd_pick_f rfl rfl rfl) ?_; refine re_rd rfl rfl rfl rfl (rd_assign rfl rfl) ?_; refine re_end rfl ?_
        exact ⟨rfl, ⟨bl (by first | (simp [h17]; done) | (simp only [h17, BLs])), rfl, rfl, trivial⟩, hl⟩
    intro S1 hl
    refine xp_cond rfl rfl (fun h14 => ?_) (fun h14 => ?_)
    ·
      refine xp_skip rfl ?_; refine xp_seq rfl ?_; refine xp_region rfl (by kernel_rfl) ?_; refine re_rd rfl rfl rfl rfl (rd_assign rfl rfl) ?_; refine re_end rfl ?_; refine xp_ret rfl ?_
      refine done_ret (ress_tmp rfl rfl) ⟨hl.keep, congrArg Value.bool (by simp only [rangedF, h14, h5]; rfl)⟩
    ·
      refine xp_seq rfl (xe_toL hl [(23, .bool (a2 && !(decide (-1 ≤ s.acc) && decide (s.acc ≤ 2)))), (3, ptrTo B3 0), (2, ptrTo B2 0)] ?_ ?_)
      ·
        refine xp_region rfl (by kernel_rfl) ?_; refine re_rd rfl rfl rfl rfl (rd_fieldAddr rfl rfl (fieldAddr_at Tryz.underlying123 rfl (by kernel_rfl))) ?_; refine re_rd rfl rfl rfl rfl (rd_load rfl rfl (load1_of (by kernel_rfl) (hl.get 0 rfl) rfl)) ?_; refine re_rd rfl rfl rfl rfl (rd_move rfl rfl) ?_; refine re_bool (d := 26) rfl (fun h26 => ?_) (fun h26 => ?_)
        ·
          refine re_rd rfl rfl rfl rfl (rd_fieldAddr rfl rfl (fieldAddr_at Tryz.underlying54 rfl (by kernel_rfl))) ?_; refine re_rd rfl rfl rfl rfl (rd_load rfl rfl (load1_of (by kernel_rfl) (hl.get 1 rfl) rfl)) ?_
          refine re_callL hl rfl rfl rfl rfl rfl rfl rfl (spec79 _ _ _) ?_; rintro v S1 hk1 rfl hl
          refine re_rd rfl rfl rfl rfl (rd_un rfl rfl rfl) ?_; refine re_rd rfl rfl rfl rfl (rd_pick_t rfl rfl rfl) ?_; refine re_rd rfl rfl rfl rfl (rd_assign rfl rfl) ?_; refine re_end rfl ?_
          exact ⟨rfl, ⟨bl (by first | (simp [h26]; done) | (simp only [h26, BLs])), rfl, rfl, trivial⟩, hl⟩
        ·
          iterate 4 refine re_pass rfl rfl rfl rfl ?_
          refine re_rd rfl rfl rfl rfl (rd_pick_f rfl rfl rfl) ?_; refine re_rd rfl rfl rfl rfl (rd_assign rfl rfl) ?_; refine re_end rfl ?_
          exact ⟨rfl, ⟨bl (by first | (simp [h26]; done) | (simp only [h26, BLs])), rfl, rfl, trivial⟩, hl⟩
      intro S1 hl
      refine xp_cond rfl rfl (fun h23 => ?_) (fun h23 => ?_)
      ·
        refine xp_skip rfl ?_; refine xp_seq rfl ?_; refine xp_region rfl (by kernel_rfl) ?_; refine re_rd rfl rfl rfl rfl (rd_assign rfl rfl) ?_; refine re_end rfl ?_; refine xp_ret rfl ?_
        refine done_ret (ress_tmp rfl rfl) ⟨hl.keep, congrArg Value.bool (by simp only [rangedF, h23, h14, h5]; rfl)⟩
      ·
        refine xp_seq rfl (xe_toL hl [(32, .bool (a4 && !(decide (0 ≤ s.stem) && decide (s.stem ≤ 3)))), (3, ptrTo B3 0), (2, ptrTo B2 0)] ?_ ?_)
        ·
          refine xp_region rfl (by kernel_rfl) ?_; refine re_rd rfl rfl rfl rfl (rd_fieldAddr rfl rfl (fieldAddr_at Tryz.underlying123 rfl (by kernel_rfl))) ?_; refine re_rd rfl rfl rfl rfl (rd_load rfl rfl (load1_of (by kernel_rfl) (hl.get 0 rfl) rfl)) ?_; refine re_rd rfl rfl rfl rfl (rd_move rfl rfl) ?_; refine re_bool (d := 35) rfl (fun h35 => ?_) (fun h35 => ?_)
          ·
            refine re_rd rfl rfl rfl rfl (rd_fieldAddr rfl rfl (fieldAddr_at Tryz.underlying54 rfl (by kernel_rfl))) ?_; refine re_rd rfl rfl rfl rfl (rd_load rfl rfl (load1_of (by kernel_rfl) (hl.get 1 rfl) rfl)) ?_
            refine re_callL hl rfl rfl rfl rfl rfl rfl rfl (spec79 _ _ _) ?_; rintro v S1 hk1 rfl hl
            refine re_rd rfl rfl rfl rfl (rd_un rfl rfl rfl) ?_; refine re_rd rfl rfl rfl rfl (rd_pick_t rfl rfl rfl) ?_; refine re_rd rfl rfl rfl rfl (rd_assign rfl rfl) ?_; refine re_end rfl ?_
            exact ⟨rfl, ⟨bl (by first | (simp [h35]; done) | (simp only [h35, BLs])), rfl, rfl, trivial⟩, hl⟩
          ·
            iterate 4 refine re_pass rfl rfl rfl rfl ?_
            refine re_rd rfl rfl rfl rfl (rd_pick_f rfl rfl rfl) ?_; refine re_rd rfl rfl rfl rfl (rd_assign rfl rfl) ?_; refine re_end rfl ?_
            exact ⟨rfl, ⟨bl (by first | (simp [h35]; done) | (simp only [h35, BLs])), rfl, rfl, trivial⟩, hl⟩
        intro S1 hl
        refine xp_cond rfl rfl (fun h32 => ?_) (fun h32 => ?_)
        ·
          refine xp_skip rfl ?_; refine xp_seq rfl ?_; refine xp_region rfl (by kernel_rfl) ?_; refine re_rd rfl rfl rfl rfl (rd_assign rfl rfl) ?_; refine re_end rfl ?_; refine xp_ret rfl ?_
          refine done_ret (ress_tmp rfl rfl) ⟨hl.keep, congrArg Value.bool (by simp only [rangedF, h32, h23, h14, h5]; rfl)⟩
        ·
          refine xp_seq rfl (xe_toL hl [(41, .bool (a10 && (!(decide (1 ≤ s.n) && decide (s.n ≤ 100)) || !(decide (1 ≤ s.d) && decide (s.d ≤ 100))))), (3, ptrTo B3 0), (2, ptrTo B2 0)] ?_ ?_)
          ·
            refine xp_region rfl (by kernel_rfl) ?_; refine re_rd rfl rfl rfl rfl (rd_fieldAddr rfl rfl (fieldAddr_at Tryz.underlying123 rfl (by kernel_rfl))) ?_; refine re_rd rfl rfl rfl rfl (rd_load rfl rfl (load1_of (by kernel_rfl) (hl.get 0 rfl) rfl)) ?_; refine re_rd rfl rfl rfl rfl (rd_move rfl rfl) ?_; refine re_bool (d := 44) rfl (fun h44 => ?_) (fun h44 => ?_)
            ·
              refine re_rd rfl rfl rfl rfl (rd_fieldAddr rfl rfl (fieldAddr_at Tryz.underlying54 rfl (by kernel_rfl))) ?_; refine re_rd rfl rfl rfl rfl (rd_load rfl rfl (load1_of (by kernel_rfl) (hl.get 1 rfl) rfl)) ?_
              refine re_callL hl rfl rfl rfl rfl rfl rfl rfl (spec79 _ _ _) ?_; rintro v S1 hk1 rfl hl
              refine re_rd rfl rfl rfl rfl (rd_un rfl rfl rfl) ?_; refine re_rd rfl rfl rfl rfl (rd_move rfl rfl) ?_; refine re_bool (d := 49) rfl (fun h49 => ?_) (fun h49 => ?_)
              ·
                iterate 4 refine re_pass rfl rfl rfl rfl ?_
                iterate 2 refine re_rd rfl rfl rfl rfl (rd_pick_t rfl rfl rfl) ?_
                refine re_rd rfl rfl rfl rfl (rd_assign rfl rfl) ?_; refine re_end rfl ?_
                exact ⟨rfl, ⟨bl (by first | (simp [h49, h44]; done) | (simp only [h49, h44, BLs])), rfl, rfl, trivial⟩, hl⟩
              ·
                refine re_rd rfl rfl rfl rfl (rd_fieldAddr rfl rfl (fieldAddr_at Tryz.underlying54 rfl (by kernel_rfl))) ?_; refine re_rd rfl rfl rfl rfl (rd_load rfl rfl (load1_of (by kernel_rfl) (hl.get 1 rfl) rfl)) ?_
                refine re_callL hl rfl rfl rfl rfl rfl rfl rfl (spec79 _ _ _) ?_; rintro v S1 hk1 rfl hl
                refine re_rd rfl rfl rfl rfl (rd_un rfl rfl rfl) ?_; refine re_rd rfl rfl rfl rfl (rd_pick_f rfl rfl rfl) ?_; refine re_rd rfl rfl rfl rfl (rd_pick_t rfl rfl rfl) ?_; refine re_rd rfl rfl rfl rfl (rd_assign rfl rfl) ?_; refine re_end rfl ?_
                exact ⟨rfl, ⟨bl (by first | (simp [h49, h44]; done) | (simp only [h49, h44, BLs])), rfl, rfl, trivial⟩, hl⟩
            ·
              iterate 10 refine re_pass rfl rfl rfl rfl ?_
              refine re_rd rfl rfl rfl rfl (rd_pick_f rfl rfl rfl) ?_; refine re_rd rfl rfl rfl rfl (rd_assign rfl rfl) ?_; refine re_end rfl ?_
              exact ⟨rfl, ⟨bl (by first | (simp [h44]; done) | (simp only [h44, BLs])), rfl, rfl, trivial⟩, hl⟩
          intro S1 hl
          refine xp_cond rfl rfl (fun h41 => ?_) (fun h41 => ?_)
          ·
            refine xp_skip rfl ?_; refine xp_seq rfl ?_; refine xp_region rfl (by kernel_rfl) ?_; refine re_rd rfl rfl rfl rfl (rd_assign rfl rfl) ?_; refine re_end rfl ?_; refine xp_ret rfl ?_
            refine done_ret (ress_tmp rfl rfl) ⟨hl.keep, congrArg Value.bool (by simp only [rangedF, h41, h32, h23, h14, h5]; rfl)⟩
          ·
            refine xp_seq rfl (xe_toL hl [(56, .bool (a11 && (((s.step != 0) && (s.step != 3) && (s.step != 4)) || !(decide (1 ≤ s.line) && decide (s.line ≤ 5))))), (3, ptrTo B3 0), (2, ptrTo B2 0)] ?_ ?_)
            ·
              refine xp_region rfl (by kernel_rfl) ?_; refine re_rd rfl rfl rfl rfl (rd_fieldAddr rfl rfl (fieldAddr_at Tryz.underlying123 rfl (by kernel_rfl))) ?_; refine re_rd rfl rfl rfl rfl (rd_load rfl rfl (load1_of (by kernel_rfl) (hl.get 0 rfl) rfl)) ?_; refine re_rd rfl rfl rfl rfl (rd_move rfl rfl) ?_; refine re_bool (d := 59) rfl (fun h59 => ?_) (fun h59 => ?_)
              ·
                refine re_rd rfl rfl rfl rfl (rd_fieldAddr rfl rfl (fieldAddr_at Tryz.underlying54 rfl (by kernel_rfl))) ?_; refine re_rd rfl rfl rfl rfl (rd_fieldAddr rfl rfl (fieldAddr_at Tryz.underlying52 rfl (by kernel_rfl))) ?_; refine re_rd rfl rfl rfl rfl (rd_load rfl rfl (load1_of (by kernel_rfl) (hl.get 1 rfl) rfl)) ?_; refine re_rd rfl rfl rfl rfl (rd_bin rfl rfl rfl rfl) ?_; refine re_rd rfl rfl rfl rfl (rd_move rfl rfl) ?_; refine re_bool (d := 64) rfl (fun h64 => ?_) (fun h64 => ?_)
                ·
                  refine re_rd rfl rfl rfl rfl (rd_fieldAddr rfl rfl (fieldAddr_at Tryz.underlying54 rfl (by kernel_rfl))) ?_; refine re_rd rfl rfl rfl rfl (rd_fieldAddr rfl rfl (fieldAddr_at Tryz.underlying52 rfl (by kernel_rfl))) ?_; refine re_rd rfl rfl rfl rfl (rd_load rfl rfl (load1_of (by kernel_rfl) (hl.get 1 rfl) rfl)) ?_; refine re_rd rfl rfl rfl rfl (rd_bin rfl rfl rfl rfl) ?_; refine re_rd rfl rfl rfl rfl (rd_pick_t rfl rfl rfl) ?_; refine re_rd rfl rfl rfl rfl (rd_move rfl rfl) ?_; refine re_bool (d := 70) rfl (fun h70 => ?_) (fun h70 => ?_)
                  ·
                    refine re_rd rfl rfl rfl rfl (rd_fieldAddr rfl rfl (fieldAddr_at Tryz.underlying54 rfl (by kernel_rfl))) ?_; refine re_rd rfl rfl rfl rfl (rd_fieldAddr rfl rfl (fieldAddr_at Tryz.underlying52 rfl (by kernel_rfl))) ?_; refine re_rd rfl rfl rfl rfl (rd_load rfl rfl (load1_of (by kernel_rfl) (hl.get 1 rfl) rfl)) ?_; refine re_rd rfl rfl rfl rfl (rd_bin rfl rfl rfl rfl) ?_; refine re_rd rfl rfl rfl rfl (rd_pick_t rfl rfl rfl) ?_; refine re_rd rfl rfl rfl rfl (rd_move rfl rfl) ?_; refine re_bool (d := 76) rfl (fun h76 => ?_) (fun h76 => ?_)
                    ·
                      iterate 5 refine re_pass rfl rfl rfl rfl ?_
                      iterate 2 refine re_rd rfl rfl rfl rfl (rd_pick_t rfl rfl rfl) ?_
                      refine re_rd rfl rfl rfl rfl (rd_assign rfl rfl) ?_; refine re_end rfl ?_
                      exact ⟨rfl, ⟨bl (by first | (simp [h76, h70, h64, h59]; done) | (simp only [h76, h70, h64, h59, BLs])), rfl, rfl, trivial⟩, hl⟩
                    ·
                      refine re_rd rfl rfl rfl rfl (rd_fieldAddr rfl rfl (fieldAddr_at Tryz.underlying54 rfl (by kernel_rfl))) ?_; refine re_rd rfl rfl rfl rfl (rd_fieldAddr rfl rfl (fieldAddr_at Tryz.underlying52 rfl (by kernel_rfl))) ?_; refine re_rd rfl rfl rfl rfl (rd_load rfl rfl (load1_of (by kernel_rfl) (hl.get 1 rfl) rfl)) ?_
                      refine re_callL hl rfl rfl rfl rfl rfl rfl rfl (spec79 _ _ _) ?_; rintro v S1 hk1 rfl hl
                      refine re_rd rfl rfl rfl rfl (rd_un rfl rfl rfl) ?_; refine re_rd rfl rfl rfl rfl (rd_pick_f rfl rfl rfl) ?_; refine re_rd rfl rfl rfl rfl (rd_pick_t rfl rfl rfl) ?_; refine re_rd rfl rfl rfl rfl (rd_assign rfl rfl) ?_; refine re_end rfl ?_
                      exact ⟨rfl, ⟨bl (by first | (simp [h76, h70, h64, h59]; done) | (simp only [h76, h70, h64, h59, BLs])), rfl, rfl, trivial⟩, hl⟩
                  ·
                    iterate 4 refine re_pass rfl rfl rfl rfl ?_
                    refine re_rd rfl rfl rfl rfl (rd_pick_f rfl rfl rfl) ?_; refine re_rd rfl rfl rfl rfl (rd_move rfl rfl) ?_; refine re_rd rfl rfl rfl rfl (rd_fieldAddr rfl rfl (fieldAddr_at Tryz.underlying54 rfl (by kernel_rfl))) ?_; refine re_rd rfl rfl rfl rfl (rd_fieldAddr rfl rfl (fieldAddr_at Tryz.underlying52 rfl (by kernel_rfl))) ?_; refine re_rd rfl rfl rfl rfl (rd_load rfl rfl (load1_of (by kernel_rfl) (hl.get 1 rfl) rfl)) ?_
                    refine re_callL hl rfl rfl rfl rfl rfl rfl rfl (spec79 _ _ _) ?_; rintro v S1 hk1 rfl hl
                    refine re_rd rfl rfl rfl rfl (rd_un rfl rfl rfl) ?_; refine re_rd rfl rfl rfl rfl (rd_pick_f rfl rfl rfl) ?_; refine re_rd rfl rfl rfl rfl (rd_pick_t rfl rfl rfl) ?_; refine re_rd rfl rfl rfl rfl (rd_assign rfl rfl) ?_; refine re_end rfl ?_
                    exact ⟨rfl, ⟨bl (by first | (simp [h70, h64, h59]; done) | (simp only [h70, h64, h59, BLs])), rfl, rfl, trivial⟩, hl⟩
                ·
                  iterate 4 refine re_pass rfl rfl rfl rfl ?_
                  refine re_rd rfl rfl rfl rfl (rd_pick_f rfl rfl rfl) ?_; refine re_rd rfl rfl rfl rfl (rd_move rfl rfl) ?_; iterate 4 refine re_pass rfl rfl rfl rfl ?_
                  refine re_rd rfl rfl rfl rfl (rd_pick_f rfl rfl rfl) ?_; refine re_rd rfl rfl rfl rfl (rd_move rfl rfl) ?_; refine re_rd rfl rfl rfl rfl (rd_fieldAddr rfl rfl (fieldAddr_at Tryz.underlying54 rfl (by kernel_rfl))) ?_; refine re_rd rfl rfl rfl rfl (rd_fieldAddr rfl rfl (fieldAddr_at Tryz.underlying52 rfl (by kernel_rfl))) ?_; refine re_rd rfl rfl rfl rfl (rd_load rfl rfl (load1_of (by kernel_rfl) (hl.get 1 rfl) rfl)) ?_
                  refine re_callL hl rfl rfl rfl rfl rfl rfl rfl (spec79 _ _ _) ?_; rintro v S1 hk1 rfl hl
                  refine re_rd rfl rfl rfl rfl (rd_un rfl rfl rfl) ?_; refine re_rd rfl rfl rfl rfl (rd_pick_f rfl rfl rfl) ?_; refine re_rd rfl rfl rfl rfl (rd_pick_t rfl rfl rfl) ?_; refine re_rd rfl rfl rfl rfl (rd_assign rfl rfl) ?_; refine re_end rfl ?_
                  exact ⟨rfl, ⟨bl (by first | (simp [h64, h59]; done) | (simp only [h64, h59, BLs])), rfl, rfl, trivial⟩, hl⟩
              ·
                iterate 23 refine re_pass rfl rfl rfl rfl ?_
                refine re_rd rfl rfl rfl rfl (rd_pick_f rfl rfl rfl) ?_; refine re_rd rfl rfl rfl rfl (rd_assign rfl rfl) ?_; refine re_end rfl ?_
                exact ⟨rfl, ⟨bl (by first | (simp [h59]; done) | (simp only [h59, BLs])), rfl, rfl, trivial⟩, hl⟩
            intro S1 hl
            refine xp_cond rfl rfl (fun h56 => ?_) (fun h56 => ?_)
            ·
              refine xp_skip rfl ?_; refine xp_seq rfl ?_; refine xp_region rfl (by kernel_rfl) ?_; refine re_rd rfl rfl rfl rfl (rd_assign rfl rfl) ?_; refine re_end rfl ?_; refine xp_ret rfl ?_
              refine done_ret (ress_tmp rfl rfl) ⟨hl.keep, congrArg Value.bool (by simp only [rangedF, h56, h41, h32, h23, h14, h5]; rfl)⟩
            ·
              refine xp_seq rfl (xe_toL hl [(84, .bool ((s.kind == 8) && !(decide (0 ≤ s.n) && decide (s.n ≤ 2)))), (3, ptrTo B3 0), (2, ptrTo B2 0)] ?_ ?_)
              ·
                refine xp_region rfl (by kernel_rfl) ?_; refine re_rd rfl rfl rfl rfl (rd_fieldAddr rfl rfl (fieldAddr_at Tryz.underlying54 rfl (by kernel_rfl))) ?_; refine re_rd rfl rfl rfl rfl (rd_load rfl rfl (load1_of (by kernel_rfl) (hl.get 1 rfl) rfl)) ?_; refine re_rd rfl rfl rfl rfl (rd_bin rfl rfl rfl rfl) ?_; refine re_rd rfl rfl rfl rfl (rd_move rfl rfl) ?_; refine re_bool (d := 88) rfl (fun h88 => ?_) (fun h88 => ?_)
                ·
                  refine re_rd rfl rfl rfl rfl (rd_fieldAddr rfl rfl (fieldAddr_at Tryz.underlying54 rfl (by kernel_rfl))) ?_; refine re_rd rfl rfl rfl rfl (rd_load rfl rfl (load1_of (by kernel_rfl) (hl.get 1 rfl) rfl)) ?_
                  refine re_callL hl rfl rfl rfl rfl rfl rfl rfl (spec79 _ _ _) ?_; rintro v S1 hk1 rfl hl
                  refine re_rd rfl rfl rfl rfl (rd_un rfl rfl rfl) ?_; refine re_rd rfl rfl rfl rfl (rd_pick_t rfl rfl rfl) ?_; refine re_rd rfl rfl rfl rfl (rd_assign rfl rfl) ?_; refine re_end rfl ?_
                  exact ⟨rfl, ⟨bl (by first | (simp [h88]; done) | (simp only [h88, BLs])), rfl, rfl, trivial⟩, hl⟩
                ·
                  iterate 4 refine re_pass rfl rfl rfl rfl ?_
                  refine re_rd rfl rfl rfl rfl (rd_pick_f rfl rfl rfl) ?_; refine re_rd rfl rfl rfl rfl (rd_assign rfl rfl) ?_; refine re_end rfl ?_
                  exact ⟨rfl, ⟨bl (by first | (simp [h88]; done) | (simp only [h88, BLs])), rfl, rfl, trivial⟩, hl⟩
              intro S1 hl
              refine xp_cond rfl rfl (fun h84 => ?_) (fun h84 => ?_)
              ·
                refine xp_skip rfl ?_; refine xp_seq rfl ?_; refine xp_region rfl (by kernel_rfl) ?_; refine re_rd rfl rfl rfl rfl (rd_assign rfl rfl) ?_; refine re_end rfl ?_; refine xp_ret rfl ?_
                refine done_ret (ress_tmp rfl rfl) ⟨hl.keep, congrArg Value.bool (by simp only [rangedF, h84, h56, h41, h32, h23, h14, h5]; rfl)⟩
              ·
                refine xp_seq rfl (xe_toL hl [(94, .bool ((s.kind == 10) && !(decide (2 ≤ s.n) && decide (s.n ≤ 4)))), (3, ptrTo B3 0), (2, ptrTo B2 0)] ?_ ?_)
                ·
                  refine xp_region rfl (by kernel_rfl) ?_; refine re_rd rfl rfl rfl rfl (rd_fieldAddr rfl rfl (fieldAddr_at Tryz.underlying54 rfl (by kernel_rfl))) ?_; refine re_rd rfl rfl rfl rfl (rd_load rfl rfl (load1_of (by kernel_rfl) (hl.get 1 rfl) rfl)) ?_; refine re_rd rfl rfl rfl rfl (rd_bin rfl rfl rfl rfl) ?_; refine re_rd rfl rfl rfl rfl (rd_move rfl rfl) ?_; refine re_bool (d := 98) rfl (fun h98 => ?_) (fun h98 => ?_)
                  ·
                    refine re_rd rfl rfl rfl rfl (rd_fieldAddr rfl rfl (fieldAddr_at Tryz.underlying54 rfl (by kernel_rfl))) ?_; refine re_rd rfl rfl rfl rfl (rd_load rfl rfl (load1_of (by kernel_rfl) (hl.get 1 rfl) rfl)) ?_
                    refine re_callL hl rfl rfl rfl rfl rfl rfl rfl (spec79 _ _ _) ?_; rintro v S1 hk1 rfl hl
                    refine re_rd rfl rfl rfl rfl (rd_un rfl rfl rfl) ?_; refine re_rd rfl rfl rfl rfl (rd_pick_t rfl rfl rfl) ?_; refine re_rd rfl rfl rfl rfl (rd_assign rfl rfl) ?_; refine re_end rfl ?_
                    exact ⟨rfl, ⟨bl (by first | (simp [h98]; done) | (simp only [h98, BLs])), rfl, rfl, trivial⟩, hl⟩
                  ·
                    iterate 4 refine re_pass rfl rfl rfl rfl ?_
                    refine re_rd rfl rfl rfl rfl (rd_pick_f rfl rfl rfl) ?_; refine re_rd rfl rfl rfl rfl (rd_assign rfl rfl) ?_; refine re_end rfl ?_
                    exact ⟨rfl, ⟨bl (by first | (simp [h98]; done) | (simp only [h98, BLs])), rfl, rfl, trivial⟩, hl⟩
                intro S1 hl
                refine xp_cond rfl rfl (fun h94 => ?_) (fun h94 => ?_)
                ·
                  refine xp_skip rfl ?_; refine xp_seq rfl ?_; refine xp_region rfl (by kernel_rfl) ?_; refine re_rd rfl rfl rfl rfl (rd_assign rfl rfl) ?_; refine re_end rfl ?_; refine xp_ret rfl ?_
                  refine done_ret (ress_tmp rfl rfl) ⟨hl.keep, congrArg Value.bool (by simp only [rangedF, h94, h84, h56, h41, h32, h23, h14, h5]; rfl)⟩
                ·
                  refine xp_seq rfl ?_; refine xp_region rfl (by kernel_rfl) ?_; refine re_rd rfl rfl rfl rfl (rd_assign rfl rfl) ?_; refine re_end rfl ?_; refine xp_ret rfl ?_
                  refine blk_ret (thn_ret (done_ret (ress_tmp rfl rfl) ⟨hl.keep, congrArg Value.bool (by simp only [rangedF, h94, h84, h56, h41, h32, h23, h14, h5]; rfl)⟩))

end Go.Proofs.YtgnhcamhcnkbfaaGreatDoor
