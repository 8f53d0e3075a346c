/-
  own.
-/
import Derived.Test.YtgmmomlgklmedaaGreatDoorSm14
namespace Go.Proofs.YtgmmomlgklmedaaGreatDoor
open Go.Cm Go
set_option maxRecDepth 100000
variable {S : St}
theorem src_is {S : St} {v : Value} {nm : ByteArray} {L : List Spt} (h : SrcAt S v nm L) : ∃ a cap, v = aggL [.string nm, .slice a L.length cap] ∧ Spots S (.slice a L.length cap) L := by
  obtain ⟨sv, rfl, h⟩ := h
  obtain ⟨a, cap, rfl⟩ := h.is
  exact ⟨a, cap, rfl, h⟩
theorem cc_known {P : Program} {K : Known} {f : FuncId} {args : List Value} {S : St} {v : Value} (h : K.call f args S = some v) : CC P K f args S fun w S' => Keep S S' ∧ w = v := ⟨0, v, S, by unfold enterF; rw [h], Keep.refl S, rfl⟩
theorem small_name {nm : List UInt8} {L : List Spt} {most : Int} (h : smallF nm L most = true) : nm.length ≤ 100 := by
  unfold smallF bigB at h
  simp at h
  omega
theorem sameF_self (n : List UInt8) (L : List Spt) : sameF n n L L = true := by
  unfold sameF
  rw [sameBytes_refl, decide_eq_true rfl]
  rfl
theorem mergeG_bounds : ∀ (L1 L2 out r : List Spt), mergeG out L1 L2 = some r → r.length ≤ out.length + L1.length ∧ ∀ x, x ∈ r → x ∈ out ∨ x.signs.length ≤ 4
  | [], L2, out, r, h => by
    have e : mergeG out [] L2 = some out := by cases L2 <;> rfl
    rw [e] at h
    cases h
    exact ⟨by omega, fun x hx => .inl hx⟩
  | x :: L1, [], out, r, h => by
    have e : mergeG out (x :: L1) [] = some out := rfl
    rw [e] at h
    cases h
    exact ⟨by omega, fun x hx => .inl hx⟩
  | x :: L1, y :: L2, out, r, h => by
    cases hb : decide (sizeF (merge2 x y) > 4) with
    | true => rw [mergeG_no hb] at h; cases h
    | false =>
      rw [mergeG_step hb] at h
      obtain ⟨h1, h2⟩ := mergeG_bounds L1 L2 _ r h
      refine ⟨by simp at h1 ⊢; omega, fun z hz => ?_⟩
      rcases h2 z hz with h | h
      · rcases List.mem_append.1 h with h | h
        · exact .inl h
        · rw [List.mem_singleton.1 h]
          refine .inr ?_
          have := of_decide_eq_false hb
          unfold sizeF at this
          cases hbl : (merge2 x y).blank with
          | true => rw [hbl] at this; simp at this; omega
          | false => rw [hbl] at this; simp at this; omega
      · exact .inr h
theorem mergeR_bounds (n1 n2 : ByteArray) (L1 L2 : List Spt) : (mergeR n1 n2 L1 L2).2.2.length ≤ L1.length ∧ ∀ x, x ∈ (mergeR n1 n2 L1 L2).2.2 → x.signs.length ≤ 4 := by
  unfold mergeR
  have nil : ([] : List Spt).length ≤ L1.length ∧ ∀ x, x ∈ ([] : List Spt) → x.signs.length ≤ 4 := ⟨by simp, fun x hx => (List.not_mem_nil hx).elim⟩
  cases ((checkF n1.data.toList L1).1 != 0) with
  | true => exact nil
  | false =>
    cases ((checkF n2.data.toList L2).1 != 0) with
    | true => exact nil
    | false =>
      cases (difB n1.data.toList n2.data.toList L1 L2) with
      | true => exact nil
      | false =>
        simp only [cond_false]
        cases h : mergeG [] L1 L2 with
        | none => exact nil
        | some r =>
          obtain ⟨h1, h2⟩ := mergeG_bounds L1 L2 [] r h
          refine ⟨by simpa using h1, fun x hx => ?_⟩
          rcases h2 x hx with h | h
          · exact (List.not_mem_nil h).elim
          · exact h
noncomputable def c6 : Code := Tryz.f6.body.getD .skip
theorem spec6 (nm : ByteArray) (a : Option Addr) (cap : Nat) (L : List Spt) (hn : L.length ≤ 1000) (hs : ∀ x, x ∈ L → x.signs.length ≤ 1000) (hF : Fresh S) (hv : Spots S (.slice a L.length cap) L) : CC Tryz.prog KK 6 [aggL [.string nm, .slice a L.length cap]] S (fun v S' => Keep S S' ∧ SrcAt S' v nm L) := by
  refine cc_enter (c := c6) (n := 35) Tryz.func6 rfl rfl rfl (by kernel_rfl) rfl rfl ?_
  have hl := Hold.start S
  refine xp_seq rfl ?_
  refine xp_region rfl (by kernel_rfl) ?_
  refine re_boxL hl rfl rfl rfl rfl rfl rfl ?_; intro B1 S1 hl
  refine re_allocL hl rfl rfl rfl rfl rfl (z := [.string noName, .slice none 0 0]) (by kernel_rfl) ?_; intro B2 S2 hl
  refine re_end rfl ?_
  refine xp_seq rfl ?_
  refine xp_region rfl (by kernel_rfl) ?_
  refine re_rd rfl rfl rfl rfl (rd_fieldAddr rfl rfl (fieldAddr_at Tryz.underlying24 rfl (by kernel_rfl))) ?_
  refine re_rd rfl rfl rfl rfl (rd_load rfl rfl (load1_of (by kernel_rfl) (hl.get 1 rfl) rfl)) ?_
  refine re_rd rfl rfl rfl rfl (rd_build rfl rfl (v := aggL [.string nm, .slice none 0 0]) (by rfl)) ?_
  refine re_allocL hl rfl rfl rfl rfl rfl (z := [.string noName, .slice none 0 0]) (by kernel_rfl) ?_; intro B3 S3 hl
  refine re_storeL hl 0 rfl rfl rfl rfl rfl rfl rfl (by kernel_rfl) rfl ?_; intro S1 hl
  refine re_end rfl ?_
  refine xp_seq rfl ?_
  refine xp_seq rfl ?_
  refine xp_region rfl (by kernel_rfl) ?_
  refine re_rd rfl rfl rfl rfl (rd_assign rfl rfl) ?_
  refine re_end rfl ?_
  refine xp_block rfl ?_
  -- LOOP
  have hl := hl.addG (g := ⟨.slice none 0 0, 34, 2, [], 0⟩) (.inl ⟨rfl, rfl, rfl⟩)
  refine xe_sub (L' := [(4, .int .i64 0), (3, ptrTo B3 0), (2, ptrTo B2 0), (1, ptrTo B1 0)]) ⟨rfl, rfl, rfl, rfl, trivial⟩ ?_
  refine xp_loop rfl (fun m Le S' => ∃ (i : Nat) (D : List (List Value)) (av : Option Addr), i ≤ L.length ∧ m = L.length - i ∧ SubE [(4, .int .i64 (i : Int)), (3, ptrTo B3 0), (2, ptrTo B2 0), (1, ptrTo B1 0)] Le ∧ D.length = i ∧ PtsAt S' D (L.take i) ∧ HoldG S [S] S' [(B3, .cells [.string nm, .slice av D.length D.length] 24 false true []), (B2, .cells [.string noName, .slice none 0 0] 24 false true []), (B1, .cells [.string nm, .slice a L.length cap] 24 false true [])] [⟨.slice av D.length D.length, 34, 2, D.flatten, D.length⟩]) ?_ (m := L.length) ⟨0, [], none, by omega, rfl, ⟨rfl, rfl, rfl, rfl, trivial⟩, rfl, ⟨rfl, fun d hd => (List.not_mem_nil hd).elim, fun k x h => by cases k <;> cases h⟩, hl⟩
  clear hl; rintro m Le S' ⟨i, D, av, hi, rfl, hsub, hDi, hpts, hl⟩; refine xe_sub hsub ?_
  have hl := hl.mark
  refine xp_seq rfl ?_
  refine xp_seq rfl ?_
  refine xp_region rfl (by kernel_rfl) ?_
  refine re_rd rfl rfl rfl rfl (rd_move rfl rfl) ?_
  refine re_rd rfl rfl rfl rfl (rd_fieldAddr rfl rfl (fieldAddr_at Tryz.underlying24 rfl (by kernel_rfl))) ?_
  refine re_rd rfl rfl rfl rfl (rd_load rfl rfl (load1_of (by kernel_rfl) (hl.get 2 rfl) rfl)) ?_
  refine re_rd rfl rfl rfl rfl (rd_len rfl rfl (len_slice Tryz.underlying22)) ?_
  refine re_rd rfl rfl rfl rfl (rd_bin rfl rfl rfl rfl) ?_
  refine re_end rfl ?_
  refine xp_cond rfl rfl (fun h12 => ?_) (fun h12 => ?_)
  ·
    have hlt : i < L.length := by have := of_decide_eq_true h12; omega
    obtain ⟨x, hx⟩ := nth_some hlt
    obtain ⟨bx, ox, csx, ax, capx, hax, hrowx, htkx, hsgx⟩ := hv.elem hx
    have hxs : x.signs.length ≤ 1000 := hs x (nth_mem hx)
    refine xp_skip rfl ?_
    refine xp_seq rfl ?_
    refine xp_block rfl ?_
    refine xp_draw (idx := [0, 1, 2, 3, 4, 5, 6, 7, 9, 10, 11, 12, 13, 14, 8, 15, 16, 17, 18, 19]) rfl (by kernel_rfl) (by kernel_rfl) ?_
    refine rp_rd rfl rfl rfl rfl rfl (rd_fieldAddr rfl rfl (fieldAddr_at Tryz.underlying24 rfl (by kernel_rfl))) ?_
    refine rp_lk rfl rfl rfl rfl rfl (rd_load rfl rfl (load1_of (by kernel_rfl) (hl.get 0 rfl) rfl)) ?_
    refine rp_rd rfl rfl rfl rfl rfl (rd_fieldAddr rfl rfl (fieldAddr_at Tryz.underlying24 rfl (by kernel_rfl))) ?_
    refine rp_lk rfl rfl rfl rfl rfl (rd_load rfl rfl (load1_of (by kernel_rfl) (hl.get 2 rfl) rfl)) ?_
    refine rp_rd rfl rfl rfl rfl rfl (rd_move rfl rfl) ?_
    refine rp_rd rfl rfl rfl rfl rfl (rd_indexAddr rfl rfl rfl (indexAddr_sl (z := 2) hax Tryz.underlying22 (by kernel_rfl) ⟨by omega, by omega⟩)) ?_
    refine rp_rd rfl rfl rfl rfl rfl (rd_fieldAddr rfl rfl (fieldAddr_at Tryz.underlying34 rfl (by kernel_rfl))) ?_
    refine rp_lk rfl rfl rfl rfl rfl (rd_load rfl rfl (load1_row (by kernel_rfl) (row_move (hl.since 1 rfl) hrowx) (tk_nth htkx rfl))) ?_
    refine rp_rd rfl rfl rfl rfl rfl (rd_fieldAddr rfl rfl (fieldAddr_at Tryz.underlying24 rfl (by kernel_rfl))) ?_
    refine rp_lk rfl rfl rfl rfl rfl (rd_load rfl rfl (load1_of (by kernel_rfl) (hl.get 2 rfl) rfl)) ?_
    refine rp_rd rfl rfl rfl rfl rfl (rd_move rfl rfl) ?_
    refine rp_rd rfl rfl rfl rfl rfl (rd_indexAddr rfl rfl rfl (indexAddr_sl (z := 2) hax Tryz.underlying22 (by kernel_rfl) ⟨by omega, by omega⟩)) ?_
    refine rp_rd rfl rfl rfl rfl rfl (rd_fieldAddr rfl rfl (fieldAddr_at Tryz.underlying34 rfl (by kernel_rfl))) ?_
    refine rp_lk rfl rfl rfl rfl rfl (rd_load rfl rfl (load1_row (by kernel_rfl) (row_move (hl.since 1 rfl) hrowx) (tk_nth htkx rfl))) ?_
    refine rp_callL hl rfl rfl rfl rfl rfl rfl rfl (spec20 ax capx x.signs hxs (hsgx.move (hl.since 1 rfl))) ?_; rintro v S1 hk1 hgz hl; refine ⟨stays_of ⟨stays_load (X := True) rfl rfl (load1_row (by kernel_rfl) (row_move (hl.since 1 rfl) hrowx) (tk_nth htkx rfl)) (same_atom (atom_bool _)) rfl trivial, stays_load (X := True) rfl rfl (load1_of (by kernel_rfl) (hl.get 2 rfl) rfl) (same_atom (atom_slice _ _ _)) rfl trivial, stays_load (X := True) rfl rfl (load1_row (by kernel_rfl) (row_move (hl.since 1 rfl) hrowx) (tk_nth htkx rfl)) (same_atom (atom_slice _ _ _)) rfl trivial, stays_load (X := True) rfl rfl (load1_of (by kernel_rfl) (hl.get 2 rfl) rfl) (same_atom (atom_slice _ _ _)) rfl trivial, stays_load (X := True) rfl rfl (load1_of (by kernel_rfl) (hl.get 0 rfl) rfl) (same_atom (atom_slice _ _ _)) rfl trivial, trivial⟩, ?_⟩
    have hsz := GrowS.signs hgz
    obtain ⟨az, rfl⟩ : ∃ az, v = .slice az x.signs.length x.signs.length := Grow.is hgz
    have hl := hl.mark
    refine rp_rd rfl rfl rfl rfl rfl (rd_build rfl rfl (v := aggL [.slice az x.signs.length x.signs.length, .bool x.blank]) (by rfl)) ?_
    refine rp_buildSliceR hF hl rfl rfl rfl rfl rfl Tryz.underlying22 rfl (c := [.slice az x.signs.length x.signs.length, .bool x.blank]) (by kernel_rfl) ?_; intro B31 S1 hg31 hr31 hl
    refine rp_appendG hl 0 rfl rfl (by simp) rfl rfl rfl rfl rfl rfl rfl Tryz.underlying22 Tryz.underlying22 rfl rfl (by kernel_rfl) (src_row (new := [.slice az x.signs.length x.signs.length, .bool x.blank]) hr31 rfl) rfl rfl (by kernel_rfl) (by show D.length + 1 ≤ maxNeed; unfold maxNeed; omega) ?_; intro v32 S1 hl; refine ⟨stays_all (by kernel_rfl), ?_⟩
    obtain ⟨av2, rfl⟩ : ∃ av2, v32 = .slice av2 (D.length + 1) (D.length + 1) := Grow.is (hl.gr _ (List.mem_cons_self ..))
    refine rp_rd rfl rfl rfl rfl rfl (rd_fieldAddr rfl rfl (fieldAddr_at Tryz.underlying24 rfl (by kernel_rfl))) ?_
    refine rp_storeL hl 0 rfl rfl rfl rfl rfl rfl rfl (by kernel_rfl) rfl ?_; intro S1 hl; refine ⟨stays_all (by kernel_rfl), ?_⟩
    refine rp_end rfl ?_
    refine xp_region rfl (by kernel_rfl) ?_
    refine re_rd rfl rfl rfl rfl (rd_move rfl rfl) ?_
    refine re_rd rfl rfl rfl rfl (rd_bin rfl rfl rfl rfl) ?_
    refine re_rd rfl rfl rfl rfl (rd_assign rfl rfl) ?_
    refine re_end rfl ?_
    have hsc : SpotC _ x [.slice az x.signs.length x.signs.length, .bool x.blank] := ⟨_, rfl, hsz.move (hl.since 0 rfl)⟩
    refine ⟨L.length - (i + 1), by omega, i + 1, D ++ [[.slice az x.signs.length x.signs.length, .bool x.blank]], av2, by omega, rfl, ⟨congrArg some (congrArg (Value.int .i64) (IntWalk.i64_in _ (by omega))), rfl, rfl, rfl, trivial⟩, by rw [List.length_append, hDi]; rfl, by rw [take_nth' hx]; exact (hpts.move (hl.since 1 rfl)).push hsc, ?_⟩
    rw [List.flatten_append, List.length_append]
    exact hl.marks (fun T hT => List.mem_cons_of_mem _ (List.mem_cons_of_mem _ hT))
  ·
    refine xp_exit rfl ?_
    refine xp_seq rfl ?_
    refine xp_region rfl (by kernel_rfl) ?_
    refine re_rd rfl rfl rfl rfl (rd_load rfl rfl (loadN_of (z := 2) (by kernel_rfl) (by kernel_rfl) (hl.get 0 rfl) rfl)) ?_
    refine re_storeL hl 1 rfl rfl rfl rfl rfl rfl rfl (by kernel_rfl) rfl ?_; intro S1 hl
    refine re_end rfl ?_
    refine xp_ret rfl ?_
    refine done_ret (ress_cell rfl (loadN_of (z := 2) (by kernel_rfl) (by kernel_rfl) (hl.get 1 rfl) rfl) rfl) ⟨hl.keep, ⟨_, rfl, Grow.spots (hl.gr _ (List.mem_cons_self ..)) (by have hp := hpts.move (hl.since 0 rfl); rw [List.take_of_length_le (by have := of_decide_eq_false h12; omega)] at hp; exact hp)⟩⟩

end Go.Proofs.YtgmmomlgklmedaaGreatDoor
