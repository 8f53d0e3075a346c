/-
  source.fits.
-/
import Derived.Test.YtgnhcamhcnkbfaaGreatDoorSm22
namespace Go.Proofs.YtgnhcamhcnkbfaaGreatDoor
open Go.Cm Go
set_option maxRecDepth 100000
variable {S : St}
def kc2 (p : Int × Int) : Value := aggL [.int .i64 p.1, .int .i64 p.2]
theorem kc2_eq (a b : Int × Int) : eqV Tryz.prog eqDepth 116 (kc2 a) (kc2 b) = some (decide (a = b)) := by
  have h : eqV Tryz.prog 40 116 (aggL [.int .i64 a.1, .int .i64 a.2]) (aggL [.int .i64 b.1, .int .i64 b.2]) = some ((a.1 == b.1) && ((a.2 == b.2) && true)) :=
    eq_struct Tryz.underlying116 (by kernel_rfl) (eqFields_cons (by kernel_rfl) (part1 (by kernel_rfl) rfl) (part1 (by kernel_rfl) rfl) (eq_int Tryz.underlying3) (eqFields_cons (by kernel_rfl) (part1 (by kernel_rfl) rfl) (part1 (by kernel_rfl) rfl) (eq_int Tryz.underlying3) rfl))
  refine h.trans (congrArg some ?_)
  obtain ⟨a1, a2⟩ := a
  obtain ⟨b1, b2⟩ := b
  rw [Bool.eq_iff_iff]
  simp
theorem kc2_ok (p : Int × Int) : keyOk Tryz.prog 20 116 (kc2 p) = true := by
  show keyOk Tryz.prog (19 + 1) 116 (aggL [.int .i64 p.1, .int .i64 p.2]) = true
  kernel_rfl
theorem kc2_pl (p : Int × Int) : plainKey 20 (kc2 p) = true := rfl
theorem kc2_sm (p : Int × Int) : sameV 1000 (kc2 p) (kc2 p) = true := by
  show sameV (999 + 1) (.agg _) (.agg _) = true
  unfold sameV
  exact sameL_atoms _ 999 (by decide : 2 < 999) (atoms_cons (atom_int _ _) (atoms_cons (atom_int _ _) atoms_nil))
abbrev KD := List ((Int × Int) × Value)
def getD2 (D : KD) (a b : Int) : Value := (asc D (a, b)).getD (.int .i64 0)
def one1 : Value := .int .i64 1
def b01 (b : Bool) : Value := .int .i64 (bif b then 1 else 0)
/-- what is written down up to a place -/
def FitsD (L : List Spt) (C : List Sg) (D : KD) (p q : Nat) : Prop := ∀ a b : Nat, a ≤ L.length → b ≤ C.length → getD2 D a b = b01 ((decide (p ≤ a) || (decide (a + 1 = p) && decide (q ≤ b))) && canAt L C a b)
def FitsAll (L : List Spt) (C : List Sg) (D : KD) : Prop := ∀ a b : Nat, a ≤ L.length → b ≤ C.length → getD2 D a b = b01 (canAt L C a b)
def Nxt (L : List Spt) (C : List Sg) (D : KD) (i : Nat) : Prop := ∀ b : Nat, b ≤ C.length → getD2 D (i + 1) b = b01 (canAt L C (i + 1) b)
def putB1 (c : Bool) (D : KD) (a b : Int) : KD := bif c then putA D (a, b) one1 else D
theorem getD2_put (c : Bool) (D : KD) (x y a b : Int) : getD2 (putB1 c D x y) a b = if (a, b) = (x, y) ∧ c = true then one1 else getD2 D a b := by
  unfold putB1 getD2
  cases c with
  | false => rw [if_neg (fun h => by cases h.2)]; rfl
  | true =>
    show (asc (putA D (x, y) one1) (a, b)).getD _ = _
    rw [asc_put]
    by_cases h : (a, b) = (x, y)
    · rw [if_pos h, if_pos ⟨h, rfl⟩]; rfl
    · rw [if_neg h, if_neg (fun e => h e.1)]
theorem fits_nxt {L : List Spt} {C : List Sg} {D : KD} {i q : Nat} (h : FitsD L C D (i + 1) q) (hi : i < L.length) : Nxt L C D i := fun b hb => by
  have := h (i + 1) b (by omega) hb
  rw [show decide (i + 1 ≤ i + 1) = true by simp, Bool.true_or, Bool.true_and] at this
  exact this
theorem nxt_put {L : List Spt} {C : List Sg} {D : KD} {i k : Nat} {c : Bool} (h : Nxt L C D i) : Nxt L C (putB1 c D i k) i := fun b hb => by
  rw [getD2_put, if_neg (fun e => ?_)]
  · exact h b hb
  · have := congrArg Prod.fst e.1
    simp only at this
    omega
theorem fits_start (L : List Spt) (C : List Sg) : FitsD L C (putA [] ((L.length : Int), (C.length : Int)) one1) L.length (C.length + 1) := fun a b ha hb => by
  have h0 := getD2_put true [] L.length C.length a b
  unfold putB1 at h0
  rw [cond_true] at h0
  rw [h0]
  by_cases hn : a = L.length
  · subst hn
    rw [canAt_end hb]
    by_cases hm : b = C.length
    · subst hm
      rw [if_pos ⟨rfl, rfl⟩]; simp; rfl
    · rw [if_neg (fun e => hm (by have := congrArg Prod.snd e.1; simp only at this; omega))]
      simp [hm]; rfl
  · rw [if_neg (fun e => hn (by have := congrArg Prod.fst e.1; simp only at this; omega))]
    have h1 : decide (L.length ≤ a) = false := by rw [decide_eq_false_iff_not]; omega
    have h2 : decide (C.length + 1 ≤ b) = false := by rw [decide_eq_false_iff_not]; omega
    rw [h1, h2, Bool.and_false, Bool.or_false, Bool.false_and]; rfl
def secB (L : List Spt) (C : List Sg) (i k : Nat) (x : Spt) : Bool := match nth C k with
  | some y => canAt L C (i + 1) (k + 1) && decide (y ∈ x.signs)
  | none => false
theorem canAt_step {L : List Spt} {C : List Sg} {i k : Nat} {x : Spt} (hx : nth L i = some x) (hk : k ≤ C.length) : canAt L C i k = ((x.blank && canAt L C (i + 1) k) || secB L C i k x) := by
  unfold secB
  by_cases h : k < C.length
  · obtain ⟨y, hy⟩ := nth_some h
    rw [canAt_in hx hy, hy]
  · obtain rfl : k = C.length := by omega
    rw [canAt_last hx, nth_none (Nat.le_refl _), Bool.or_false]
theorem fits_step {L : List Spt} {C : List Sg} {D : KD} {i k : Nat} {x : Spt} (hx : nth L i = some x) (hk : k ≤ C.length) (h : FitsD L C D (i + 1) (k + 1)) : FitsD L C (putB1 (secB L C i k x) (putB1 (x.blank && canAt L C (i + 1) k) D i k) i k) (i + 1) k := fun a b ha hb => by
  rw [getD2_put, getD2_put]
  by_cases e : (a : Int) = i ∧ (b : Int) = k
  · obtain ⟨e1, e2⟩ := e
    obtain rfl : a = i := by omega
    obtain rfl : b = k := by omega
    have h1 : decide (a + 1 ≤ a) = false := by rw [decide_eq_false_iff_not]; omega
    have h2 : decide (b + 1 ≤ b) = false := by rw [decide_eq_false_iff_not]; omega
    have h0 := h a b ha hb
    rw [h1, h2, Bool.and_false, Bool.or_false, Bool.false_and] at h0
    rw [h1, show decide (a + 1 = a + 1) = true by simp, show decide (b ≤ b) = true by simp, Bool.and_true, Bool.or_true, Bool.true_and, canAt_step hx hk]
    cases c1 : secB L C a b x with
    | true => rw [if_pos ⟨rfl, rfl⟩, Bool.or_true]; rfl
    | false =>
      rw [if_neg (fun e => by cases e.2), Bool.or_false]
      cases c2 : (x.blank && canAt L C (a + 1) b) with
      | true => rw [if_pos ⟨rfl, rfl⟩]; rfl
      | false => rw [if_neg (fun e => by cases e.2)]; exact h0
  · have hne : ¬ ((a : Int), (b : Int)) = ((i : Int), (k : Int)) := fun e2 => e ⟨congrArg Prod.fst e2, congrArg Prod.snd e2⟩
    rw [if_neg (fun e => hne e.1), if_neg (fun e => hne e.1), h a b ha hb]
    by_cases hi : a = i
    · subst hi
      have hkb : b ≠ k := fun e2 => e ⟨rfl, by rw [e2]⟩
      have : decide (k + 1 ≤ b) = decide (k ≤ b) := by rw [Bool.eq_iff_iff]; simp; omega
      rw [this]
    · have : decide (a + 1 = i + 1) = false := by rw [decide_eq_false_iff_not]; omega
      rw [this, Bool.false_and, Bool.false_and]
theorem fits_row {L : List Spt} {C : List Sg} {D : KD} {i : Nat} (h : FitsD L C D (i + 1) 0) : FitsD L C D i (C.length + 1) := fun a b ha hb => by
  rw [h a b ha hb]
  have h2 : decide (C.length + 1 ≤ b) = false := by rw [decide_eq_false_iff_not]; omega
  have h3 : decide (0 ≤ b) = true := by simp
  rw [h2, h3, Bool.and_false, Bool.or_false, Bool.and_true]
  congr 2
  rw [Bool.eq_iff_iff]
  simp
  omega
theorem fits_all {L : List Spt} {C : List Sg} {D : KD} {q : Nat} (h : FitsD L C D 0 q) : FitsAll L C D := fun a b ha hb => by
  rw [h a b ha hb]
  simp
theorem gt01 (b : Bool) : decide ((bif b then 1 else 0 : Int) > 0) = b := by cases b <;> rfl
noncomputable def c58 : Code := Tryz.f58.body.getD .skip
theorem spec58 (n1 n2 : ByteArray) (a1 a2 : Option Addr) (cap1 cap2 : Nat) (L : List Spt) (C : List Sg) (hn : L.length ≤ 1000) (hm : C.length ≤ 1000) (hs : ∀ x, x ∈ L → x.signs.length ≤ 1000) (hv : Spots S (.slice a1 L.length cap1) L) (hw : Signs S (.slice a2 C.length cap2) C) : CC Tryz.prog KK 58 [aggL [.string n1, .slice a1 L.length cap1], aggL [.string n2, .slice a2 C.length cap2]] S (fun v S' => Keep S S' ∧ (∃ M D, v = .map (some M) ∧ S.size ≤ M ∧ M < S'.size ∧ S'.get M = some (mapB kc2 D) ∧ FitsAll L C D)) := by
  refine cc_enter (c := c58) (n := 85) Tryz.func58 rfl rfl rfl (by kernel_rfl) rfl rfl ?_
  have hl := Hold.start S
  refine xp_seq rfl ?_; refine xp_region rfl (by kernel_rfl) ?_; refine re_boxL hl rfl rfl rfl rfl rfl rfl ?_; intro B2 S2 hl; refine re_boxL hl rfl rfl rfl rfl rfl rfl ?_; intro B3 S3 hl; refine re_rd rfl rfl rfl rfl (rd_assign rfl rfl) ?_; refine re_end rfl ?_; refine xp_seq rfl ?_; refine xp_region rfl (by kernel_rfl) ?_; refine re_makeMapL hl (kc2) rfl rfl rfl rfl rfl ?_; intro B8 S8 hl; refine re_rd rfl rfl rfl rfl (rd_fieldAddr rfl rfl (fieldAddr_at Tryz.underlying24 rfl (by kernel_rfl))) ?_; refine re_rd rfl rfl rfl rfl (rd_load rfl rfl (load1_of (by kernel_rfl) (hl.get 2 rfl) rfl)) ?_
  refine re_rd rfl rfl rfl rfl (rd_len rfl rfl (len_slice Tryz.underlying22)) ?_; refine re_rd rfl rfl rfl rfl (rd_fieldAddr rfl rfl (fieldAddr_at Tryz.underlying27 rfl (by kernel_rfl))) ?_; refine re_rd rfl rfl rfl rfl (rd_load rfl rfl (load1_of (by kernel_rfl) (hl.get 1 rfl) rfl)) ?_; refine re_rd rfl rfl rfl rfl (rd_len rfl rfl (len_slice Tryz.underlying25)) ?_; refine re_rd rfl rfl rfl rfl (rd_build rfl rfl (v := aggL [.int .i64 L.length, .int .i64 C.length]) (by rfl)) ?_
  refine re_insertL hl 0 (k := ((L.length : Int), (C.length : Int))) rfl rfl rfl rfl rfl rfl rfl rfl Tryz.underlying113 (kc2_eq) (kc2_ok _) (kc2_pl _) (kc2_sm _) ?_; intro S1 hl; refine re_rd rfl rfl rfl rfl (rd_move rfl rfl) ?_; refine re_rd rfl rfl rfl rfl (rd_assign rfl rfl) ?_; refine re_end rfl ?_; iterate 2 refine xp_seq rfl ?_
  refine xp_region rfl (by kernel_rfl) ?_; refine re_rd rfl rfl rfl rfl (rd_fieldAddr rfl rfl (fieldAddr_at Tryz.underlying24 rfl (by kernel_rfl))) ?_; refine re_rd rfl rfl rfl rfl (rd_load rfl rfl (load1_of (by kernel_rfl) (hl.get 2 rfl) rfl)) ?_; refine re_rd rfl rfl rfl rfl (rd_len rfl rfl (len_slice Tryz.underlying22)) ?_; refine re_rd rfl rfl rfl rfl (rd_bin rfl rfl rfl (congrArg some (congrArg (Value.int .i64) (IntWalk.i64_in _ (by omega))))) ?_; refine re_rd rfl rfl rfl rfl (rd_assign rfl rfl) ?_; refine re_end rfl ?_; refine xp_block rfl ?_
  -- LOOP
  refine xe_sub (L' := [(6, .int .i64 ((L.length : Int) - 1)), (5, .map (some B8)), (3, ptrTo B3 0), (2, ptrTo B2 0)]) ⟨rfl, rfl, rfl, rfl, trivial⟩ ?_
  refine xp_loop rfl (fun m Le S' => ∃ (p : Nat) (D : KD), p ≤ L.length ∧ m = p ∧ SubE [(6, .int .i64 ((p : Int) - 1)), (5, .map (some B8)), (3, ptrTo B3 0), (2, ptrTo B2 0)] Le ∧ FitsD L C D p (C.length + 1) ∧ HoldG S [S] S' [(B8, mapB kc2 (D)), (B3, .cells [.string n2, .slice a2 C.length cap2] 27 false true []), (B2, .cells [.string n1, .slice a1 L.length cap1] 24 false true [])] []) ?_ (m := L.length) ⟨L.length, _, Nat.le_refl _, rfl, ⟨rfl, rfl, rfl, rfl, trivial⟩, fits_start L C, hl⟩
  clear hl; rintro p Le S' ⟨_, D, hp, rfl, hsub, hin, hl⟩; refine xe_sub hsub ?_
  iterate 2 refine xp_seq rfl ?_
  refine xp_region rfl (by kernel_rfl) ?_; refine re_rd rfl rfl rfl rfl (rd_move rfl rfl) ?_; refine re_rd rfl rfl rfl rfl (rd_bin rfl rfl rfl rfl) ?_; refine re_end rfl ?_; refine xp_cond rfl rfl (fun h22 => ?_) (fun h22 => ?_)
  ·
    obtain ⟨i, rfl⟩ : ∃ i, p = i + 1 := ⟨p - 1, by have := of_decide_eq_true h22; omega⟩
    have hlt : i < L.length := by omega
    obtain ⟨x, hx⟩ := nth_some hlt
    obtain ⟨b1, o1, cs1, ax, capx, hax, hrowx, htkx, hsgx⟩ := hv.elem hx
    have hxs : x.signs.length ≤ 1000 := hs x (nth_mem hx)
    refine xe_sub (L' := [(6, .int .i64 (i : Int)), (5, .map (some B8)), (3, ptrTo B3 0), (2, ptrTo B2 0)]) ⟨congrArg some (congrArg (Value.int .i64) (show (((i + 1 : Nat) : Int) - 1) = (i : Int) by omega)), rfl, rfl, rfl, trivial⟩ ?_; refine xp_skip rfl ?_; refine xp_seq rfl ?_; refine xp_block rfl ?_; refine xp_seq rfl ?_; refine xp_region rfl (by kernel_rfl) ?_; refine re_rd rfl rfl rfl rfl (rd_fieldAddr rfl rfl (fieldAddr_at Tryz.underlying27 rfl (by kernel_rfl))) ?_; refine re_rd rfl rfl rfl rfl (rd_load rfl rfl (load1_of (by kernel_rfl) (hl.get 1 rfl) rfl)) ?_
    refine re_rd rfl rfl rfl rfl (rd_len rfl rfl (len_slice Tryz.underlying25)) ?_; refine re_rd rfl rfl rfl rfl (rd_assign rfl rfl) ?_; refine re_end rfl ?_; refine xp_block rfl ?_
    -- LOOP
    refine xe_sub (L' := [(7, .int .i64 (((C.length + 1 : Nat) : Int) - 1)), (6, .int .i64 (i : Int)), (5, .map (some B8)), (3, ptrTo B3 0), (2, ptrTo B2 0)]) ⟨congrArg some (congrArg (Value.int .i64) (show (C.length : Int) = (((C.length + 1 : Nat) : Int) - 1) by omega)), rfl, rfl, rfl, rfl, trivial⟩ ?_
    refine xp_loop rfl (fun m Le S' => ∃ (q : Nat) (D : KD), q ≤ C.length + 1 ∧ m = q ∧ SubE [(7, .int .i64 ((q : Int) - 1)), (6, .int .i64 (i : Int)), (5, .map (some B8)), (3, ptrTo B3 0), (2, ptrTo B2 0)] Le ∧ FitsD L C D (i + 1) q ∧ HoldG S [S] S' [(B8, mapB kc2 (D)), (B3, .cells [.string n2, .slice a2 C.length cap2] 27 false true []), (B2, .cells [.string n1, .slice a1 L.length cap1] 24 false true [])] []) ?_ (m := C.length + 1) ⟨C.length + 1, D, Nat.le_refl _, rfl, ⟨rfl, rfl, rfl, rfl, rfl, trivial⟩, hin, hl⟩
    clear hl hin D; rintro q Le S' ⟨_, D, hq, rfl, hsub2, hin, hl⟩; refine xe_sub hsub2 ?_
    iterate 2 refine xp_seq rfl ?_
    refine xp_region rfl (by kernel_rfl) ?_; refine re_rd rfl rfl rfl rfl (rd_move rfl rfl) ?_; refine re_rd rfl rfl rfl rfl (rd_bin rfl rfl rfl rfl) ?_; refine re_end rfl ?_; refine xp_cond rfl rfl (fun h29 => ?_) (fun h29 => ?_)
    ·
      obtain ⟨k, rfl⟩ : ∃ k, q = k + 1 := ⟨q - 1, by have := of_decide_eq_true h29; omega⟩
      have hk : k ≤ C.length := by omega
      have hnx := fits_nxt hin hlt
      refine xe_sub (L' := [(7, .int .i64 (k : Int)), (6, .int .i64 (i : Int)), (5, .map (some B8)), (3, ptrTo B3 0), (2, ptrTo B2 0)]) ⟨congrArg some (congrArg (Value.int .i64) (show (((k + 1 : Nat) : Int) - 1) = (k : Int) by omega)), rfl, rfl, rfl, rfl, trivial⟩ ?_; refine xp_skip rfl ?_; refine xp_seq rfl ?_; refine xp_block rfl ?_; refine xp_seq rfl (xe_to0 (fun S' => HoldG S [S] S' [(B8, mapB kc2 (putB1 (x.blank && canAt L C (i + 1) k) D i k)), (B3, .cells [.string n2, .slice a2 C.length cap2] 27 false true []), (B2, .cells [.string n1, .slice a1 L.length cap1] 24 false true [])] []) ?_ ?_)
      ·
        refine xp_seq rfl (xe_toE hl 46 (.bool (x.blank && canAt L C (i + 1) k)) ?_ rfl ?_)
        ·
          refine xp_region rfl (by kernel_rfl) ?_; refine re_rd rfl rfl rfl rfl (rd_fieldAddr rfl rfl (fieldAddr_at Tryz.underlying24 rfl (by kernel_rfl))) ?_; refine re_rd rfl rfl rfl rfl (rd_load rfl rfl (load1_of (by kernel_rfl) (hl.get 2 rfl) rfl)) ?_; refine re_rd rfl rfl rfl rfl (rd_move rfl rfl) ?_; refine re_rd rfl rfl rfl rfl (rd_indexAddr rfl rfl rfl (indexAddr_sl (z := 2) hax Tryz.underlying22 (by kernel_rfl) ⟨by omega, by omega⟩)) ?_; refine re_rd rfl rfl rfl rfl (rd_fieldAddr rfl rfl (fieldAddr_at Tryz.underlying43 rfl (by kernel_rfl))) ?_
          refine re_rd rfl rfl rfl rfl (rd_load rfl rfl (load1_row (by kernel_rfl) (row_move (hl.since 0 rfl) hrowx) (tk_nth htkx rfl))) ?_; refine re_rd rfl rfl rfl rfl (rd_move rfl rfl) ?_; refine re_bool (d := 38) rfl (fun h38 => ?_) (fun h38 => ?_)
          ·
            iterate 2 refine re_rd rfl rfl rfl rfl (rd_move rfl rfl) ?_
            refine re_rd rfl rfl rfl rfl (rd_bin rfl rfl rfl (congrArg some (congrArg (Value.int .i64) (IntWalk.i64_in _ (by omega))))) ?_; refine re_rd rfl rfl rfl rfl (rd_move rfl rfl) ?_; refine re_rd rfl rfl rfl rfl (rd_build rfl rfl (v := aggL [.int .i64 ((i : Int) + 1), .int .i64 (k : Int)]) (by rfl)) ?_; refine re_rd rfl rfl rfl rfl (rd_lookup rfl rfl rfl ((lookup_of (k := (((i : Int) + 1), (k : Int))) Tryz.underlying113 (hl.get 0 rfl) kc2_eq (kc2_ok _) (z := .int .i64 0) (by kernel_rfl)).trans (congrArg some (hnx k hk)))) ?_; refine re_rd rfl rfl rfl rfl (rd_bin rfl rfl rfl rfl) ?_
            refine re_rd rfl rfl rfl rfl (rd_pick_t rfl rfl rfl) ?_; refine re_end rfl ?_
            exact ⟨rfl, bl (by first | (rw [gt01]; rw [h38]; rfl) | (rw [h38]; rfl) | (simp [h38]; done) | (simp only [h38, BLs])), by repeat (first | exact subL_refl _ | refine subL_skip rfl ?_), hl⟩
          ·
            iterate 7 refine re_pass rfl rfl rfl rfl ?_
            refine re_rd rfl rfl rfl rfl (rd_pick_f rfl rfl rfl) ?_; refine re_end rfl ?_
            exact ⟨rfl, bl (by first | (rw [gt01]; rw [h38]; rfl) | (rw [h38]; rfl) | (simp [h38]; done) | (simp only [h38, BLs])), by repeat (first | exact subL_refl _ | refine subL_skip rfl ?_), hl⟩
        intro S1 hl
        refine xp_cond rfl rfl (fun h46 => ?_) (fun h46 => ?_)
        ·
          refine xp_region rfl (by kernel_rfl) ?_; iterate 3 refine re_rd rfl rfl rfl rfl (rd_move rfl rfl) ?_
          refine re_rd rfl rfl rfl rfl (rd_build rfl rfl (v := aggL [.int .i64 (i : Int), .int .i64 (k : Int)]) (by rfl)) ?_; refine re_mapUpdateL hl 0 (k := ((i : Int), (k : Int))) rfl rfl rfl rfl rfl rfl rfl rfl Tryz.underlying113 (kc2_eq) (kc2_ok _) (kc2_pl _) (kc2_sm _) ?_; intro S1 hl; refine re_end rfl ?_
          exact ⟨rfl, by repeat (first | exact subL_refl _ | refine subL_skip rfl ?_), (by unfold putB1; rw [h46]; exact hl)⟩
        ·
          refine xp_skip rfl ?_
          exact ⟨rfl, by repeat (first | exact subL_refl _ | refine subL_skip rfl ?_), (by unfold putB1; rw [h46]; exact hl)⟩
      intro S1 hl
      refine xp_seq rfl (xe_toE hl 79 (.bool (secB L C i k x)) ?_ rfl ?_)
      ·
        refine xp_draw (idx := [0, 1, 2, 3, 4, 5, 6, 7, 8, 9, 10, 11, 12, 13, 14, 15, 16, 17, 18, 19, 20, 21, 22, 23, 24, 25, 26, 27, 28]) rfl (by kernel_rfl) (by kernel_rfl) ?_; refine rp_rd rfl rfl rfl rfl rfl (rd_move rfl rfl) ?_; refine rp_rd rfl rfl rfl rfl rfl (rd_fieldAddr rfl rfl (fieldAddr_at Tryz.underlying27 rfl (by kernel_rfl))) ?_; refine rp_lk rfl rfl rfl rfl rfl (rd_load rfl rfl (load1_of (by kernel_rfl) (hl.get 1 rfl) rfl)) ?_; refine rp_lk rfl rfl rfl rfl rfl (rd_len rfl rfl (len_slice Tryz.underlying25)) ?_; refine rp_rd rfl rfl rfl rfl rfl (rd_bin rfl rfl rfl rfl) ?_
        refine rp_rd rfl rfl rfl rfl rfl (rd_move rfl rfl) ?_; refine rp_bool (d := 56) rfl (fun h56 => ?_) (fun h56 => ?_)
        ·
          have hlt2 : k < C.length := by have := of_decide_eq_true h56; omega
          obtain ⟨y, hy⟩ := nth_some hlt2
          obtain ⟨b5, o5, cs5, ha5, _, hrow5, htk5⟩ := hw.elem hy
          iterate 2 refine rp_rd rfl rfl rfl rfl rfl (rd_move rfl rfl) ?_
          refine rp_rd rfl rfl rfl rfl rfl (rd_bin rfl rfl rfl (congrArg some (congrArg (Value.int .i64) (IntWalk.i64_in _ (by omega))))) ?_; refine rp_rd rfl rfl rfl rfl rfl (rd_move rfl rfl) ?_; refine rp_rd rfl rfl rfl rfl rfl (rd_bin rfl rfl rfl (congrArg some (congrArg (Value.int .i64) (IntWalk.i64_in _ (by omega))))) ?_; refine rp_rd rfl rfl rfl rfl rfl (rd_build rfl rfl (v := aggL [.int .i64 ((i : Int) + 1), .int .i64 ((k : Int) + 1)]) (by rfl)) ?_
          refine rp_lk rfl rfl rfl rfl rfl (rd_lookup rfl rfl rfl ((lookup_of (k := (((i : Int) + 1), ((k : Int) + 1))) Tryz.underlying113 (hl.get 0 rfl) kc2_eq (kc2_ok _) (z := .int .i64 0) (by kernel_rfl)).trans (congrArg some (nxt_put hnx (k + 1) (by omega))))) ?_; refine rp_rd rfl rfl rfl rfl rfl (rd_bin rfl rfl rfl  rfl) ?_; refine rp_rd rfl rfl rfl rfl rfl (rd_pick_t rfl rfl rfl) ?_; refine rp_rd rfl rfl rfl rfl rfl (rd_move rfl rfl) ?_; refine rp_bool (d := 66) rfl (fun h66 => ?_) (fun h66 => ?_)
          ·
            refine rp_rd rfl rfl rfl rfl rfl (rd_fieldAddr rfl rfl (fieldAddr_at Tryz.underlying24 rfl (by kernel_rfl))) ?_; refine rp_lk rfl rfl rfl rfl rfl (rd_load rfl rfl (load1_of (by kernel_rfl) (hl.get 2 rfl) rfl)) ?_; refine rp_rd rfl rfl rfl rfl rfl (rd_move rfl rfl) ?_; refine rp_rd rfl rfl rfl rfl rfl (rd_indexAddr rfl rfl rfl (indexAddr_sl (z := 2) hax Tryz.underlying22 (by kernel_rfl) ⟨by omega, by omega⟩)) ?_; refine rp_rd rfl rfl rfl rfl rfl (rd_fieldAddr rfl rfl (fieldAddr_at Tryz.underlying43 rfl (by kernel_rfl))) ?_
            refine rp_lk rfl rfl rfl rfl rfl (rd_load rfl rfl (load1_row (by kernel_rfl) (row_move (hl.since 0 rfl) hrowx) (tk_nth htkx rfl))) ?_; refine rp_rd rfl rfl rfl rfl rfl (rd_fieldAddr rfl rfl (fieldAddr_at Tryz.underlying27 rfl (by kernel_rfl))) ?_; refine rp_lk rfl rfl rfl rfl rfl (rd_load rfl rfl (load1_of (by kernel_rfl) (hl.get 1 rfl) rfl)) ?_; refine rp_rd rfl rfl rfl rfl rfl (rd_move rfl rfl) ?_; refine rp_rd rfl rfl rfl rfl rfl (rd_indexAddr rfl rfl rfl (indexAddr_sl (z := 17) ha5 Tryz.underlying25 (by kernel_rfl) ⟨by omega, by omega⟩)) ?_
            refine rp_lk rfl rfl rfl rfl rfl (rd_load rfl rfl (loadN_row (z := 17) (by kernel_rfl) (by kernel_rfl) (row_move (hl.since 0 rfl) hrow5) htk5)) ?_
            refine rp_callL hl rfl rfl rfl rfl rfl rfl rfl (spec57 ax capx x.signs y hxs (hsgx.move (hl.since 0 rfl))) ?_; rintro v S1 hk1 rfl hl; refine ⟨stays_all (by kernel_rfl), ?_⟩
            refine rp_rd rfl rfl rfl rfl rfl (rd_pick_t rfl rfl rfl) ?_; refine rp_end rfl ?_
            exact ⟨rfl, bl (by unfold secB; rw [hy]; rw [gt01] at h66; simp only [h66, Bool.true_and]), by repeat (first | exact subL_refl _ | refine subL_skip rfl ?_), hl⟩
          ·
            iterate 12 refine rp_pass rfl rfl rfl rfl ?_
            refine rp_rd rfl rfl rfl rfl rfl (rd_pick_f rfl rfl rfl) ?_; refine rp_end rfl ?_
            exact ⟨rfl, bl (by unfold secB; rw [hy]; rw [gt01] at h66; simp only [h66, Bool.false_and]), by repeat (first | exact subL_refl _ | refine subL_skip rfl ?_), hl⟩
        ·
          iterate 8 refine rp_pass rfl rfl rfl rfl ?_
          refine rp_rd rfl rfl rfl rfl rfl (rd_pick_f rfl rfl rfl) ?_; refine rp_rd rfl rfl rfl rfl rfl (rd_move rfl rfl) ?_; iterate 12 refine rp_pass rfl rfl rfl rfl ?_
          refine rp_rd rfl rfl rfl rfl rfl (rd_pick_f rfl rfl rfl) ?_; refine rp_end rfl ?_
          exact ⟨rfl, bl (by unfold secB; rw [nth_none (by have := of_decide_eq_false h56; omega)]), by repeat (first | exact subL_refl _ | refine subL_skip rfl ?_), hl⟩
      intro S1 hl
      refine xp_cond rfl rfl (fun h79 => ?_) (fun h79 => ?_)
      ·
        refine xp_region rfl (by kernel_rfl) ?_; iterate 3 refine re_rd rfl rfl rfl rfl (rd_move rfl rfl) ?_
        refine re_rd rfl rfl rfl rfl (rd_build rfl rfl (v := aggL [.int .i64 (i : Int), .int .i64 (k : Int)]) (by rfl)) ?_; refine re_mapUpdateL hl 0 (k := ((i : Int), (k : Int))) rfl rfl rfl rfl rfl rfl rfl rfl Tryz.underlying113 (kc2_eq) (kc2_ok _) (kc2_pl _) (kc2_sm _) ?_; intro S1 hl; refine re_end rfl ?_; refine xp_region rfl (by kernel_rfl) ?_; refine re_rd rfl rfl rfl rfl (rd_move rfl rfl) ?_; refine re_rd rfl rfl rfl rfl (rd_bin rfl rfl rfl (congrArg some (congrArg (Value.int .i64) (IntWalk.i64_in _ (by omega))))) ?_; refine re_rd rfl rfl rfl rfl (rd_assign rfl rfl) ?_; refine re_end rfl ?_
        refine ⟨k, by omega, k, putB1 (secB L C i k x) (putB1 (x.blank && canAt L C (i + 1) k) D i k) i k, by omega, rfl, ⟨rfl, rfl, rfl, rfl, rfl, trivial⟩, fits_step hx hk hin, ?_⟩
        exact (by unfold putB1; rw [h79]; exact hl)
      ·
        refine xp_skip rfl ?_; refine xp_region rfl (by kernel_rfl) ?_; refine re_rd rfl rfl rfl rfl (rd_move rfl rfl) ?_; refine re_rd rfl rfl rfl rfl (rd_bin rfl rfl rfl (congrArg some (congrArg (Value.int .i64) (IntWalk.i64_in _ (by omega))))) ?_; refine re_rd rfl rfl rfl rfl (rd_assign rfl rfl) ?_; refine re_end rfl ?_
        refine ⟨k, by omega, k, putB1 (secB L C i k x) (putB1 (x.blank && canAt L C (i + 1) k) D i k) i k, by omega, rfl, ⟨rfl, rfl, rfl, rfl, rfl, trivial⟩, fits_step hx hk hin, ?_⟩
        exact (by unfold putB1; rw [h79]; exact hl)
    ·
      refine xp_exit rfl ?_; refine xp_region rfl (by kernel_rfl) ?_; refine re_rd rfl rfl rfl rfl (rd_move rfl rfl) ?_; refine re_rd rfl rfl rfl rfl (rd_bin rfl rfl rfl (congrArg some (congrArg (Value.int .i64) (IntWalk.i64_in _ (by omega))))) ?_; refine re_rd rfl rfl rfl rfl (rd_assign rfl rfl) ?_; refine re_end rfl ?_
      obtain rfl : q = 0 := by have := of_decide_eq_false h29; omega
      exact ⟨i, by omega, i, D, by omega, rfl, ⟨rfl, rfl, rfl, rfl, trivial⟩, fits_row hin, hl⟩
  ·
    refine xp_exit rfl ?_; refine xp_seq rfl ?_; refine xp_region rfl (by kernel_rfl) ?_; refine re_rd rfl rfl rfl rfl (rd_move rfl rfl) ?_; refine re_rd rfl rfl rfl rfl (rd_assign rfl rfl) ?_; refine re_end rfl ?_; refine xp_ret rfl ?_
    refine done_ret (ress_tmp rfl rfl) ⟨hl.keep, (by obtain rfl : p = 0 := (by have := of_decide_eq_false h22; omega); exact ⟨B8, D, rfl, (hl.at_ _ _ (List.mem_cons_self ..)).2.1, (hl.at_ _ _ (List.mem_cons_self ..)).2.2, hl.get 0 rfl, fits_all hin⟩)⟩

end Go.Proofs.YtgnhcamhcnkbfaaGreatDoor
