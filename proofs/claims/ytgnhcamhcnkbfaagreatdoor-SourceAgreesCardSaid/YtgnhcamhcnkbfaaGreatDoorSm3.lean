/-
  Lists of signs, names.
-/
import Derived.Test.YtgnhcamhcnkbfaaGreatDoorSm2
namespace Go.Proofs.YtgnhcamhcnkbfaaGreatDoor
open Go.Cm Go
set_option maxRecDepth 100000
variable {S : St}
theorem nth_some {α : Type} : ∀ {l : List α} {i : Nat}, i < l.length → ∃ x, nth l i = some x
  | x :: _, 0, _ => ⟨x, rfl⟩
  | _ :: l, i + 1, h => nth_some (l := l) (i := i) (by simpa using h)
theorem nth_lt {α : Type} : ∀ {l : List α} {i : Nat} {x : α}, nth l i = some x → i < l.length
  | _ :: _, 0, _, _ => by simp
  | _ :: l, i + 1, x, h => by have := nth_lt (l := l) (i := i) (x := x) h; simp only [List.length_cons]; omega
theorem nth_map {α β : Type} (f : α → β) : ∀ {l : List α} {i : Nat} {x : α}, nth l i = some x → nth (l.map f) i = some (f x)
  | _ :: _, 0, _, h => by cases h; rfl
  | _ :: l, i + 1, x, h => nth_map f (l := l) (i := i) (x := x) h
/-- the signs of a slice -/
def Signs (S : St) (v : Value) (C : List Sg) : Prop := SliceAt S 54 17 v (C.map Sg.cells)
theorem Signs.move {S S' : St} (h : RK S S') {v : Value} {C : List Sg} (hs : Signs S v C) : Signs S' v C := SliceAt.move h hs
theorem Signs.is {S : St} {v : Value} {C : List Sg} (h : Signs S v C) : ∃ a cap, v = .slice a C.length cap := by
  obtain ⟨a, cap, e⟩ := SliceAt.is h
  exact ⟨a, cap, by simpa using e⟩
theorem Signs.elem {S : St} {a : Option Addr} {len cap : Nat} {C : List Sg} (h : Signs S (.slice a len cap) C) {k : Nat} {x : Sg} (hk : nth C k = some x) :
    ∃ b o cs, a = some ⟨b, o, none⟩ ∧ len = C.length ∧ RowAt S b 54 cs ∧ takeN 17 (dropN (o + k * 17) cs) = some x.cells := by
  obtain ⟨b, o, cs, h1, h2, h3, h4⟩ := SliceAt.elem h (nth_map Sg.cells hk)
  exact ⟨b, o, cs, h1, by simpa using h2, h3, h4⟩
theorem nth_ext {α : Type} : ∀ {l r : List α}, l.length = r.length → (∀ j, j < l.length → nth l j = nth r j) → l = r
  | [], [], _, _ => rfl
  | [], _ :: _, h, _ => by simp at h
  | _ :: _, [], h, _ => by simp at h
  | x :: l, y :: r, h, hj => by
    have h0 := hj 0 (by simp)
    cases h0
    rw [nth_ext (l := l) (r := r) (by simpa using h) fun j k => hj (j + 1) (by simpa using k)]
def idxF : List Sg → Sg → Nat → Int
  | [], _, _ => -1
  | x :: C, s, k => bif decide (s = x) then k else idxF C s (k + 1)
theorem idxF_at : ∀ (C : List Sg) (s : Sg) (i k : Nat), (∀ j, j < i → ∀ y, nth C j = some y → s ≠ y) → nth C i = some s → idxF C s k = ((k + i : Nat) : Int)
  | [], _, _, _, _, h => by cases h
  | x :: C, s, 0, k, _, h => by
    obtain rfl : x = s := Option.some.inj h
    unfold idxF
    rw [decide_eq_true rfl]
    rfl
  | x :: C, s, i + 1, k, hn, h => by
    have h0 : s ≠ x := hn 0 (by omega) x rfl
    unfold idxF
    rw [decide_eq_false h0]
    show idxF C s (k + 1) = _
    rw [idxF_at C s i (k + 1) (fun j hj y hy => hn (j + 1) (by omega) y hy) h]
    congr 1; omega
theorem idxF_none : ∀ (C : List Sg) (s : Sg) (k : Nat), (∀ j, j < C.length → ∀ y, nth C j = some y → s ≠ y) → idxF C s k = -1
  | [], _, _, _ => rfl
  | x :: C, s, k, hn => by
    have h0 : s ≠ x := hn 0 (by simp) x rfl
    unfold idxF
    rw [decide_eq_false h0]
    exact idxF_none C s (k + 1) fun j hj y hy => hn (j + 1) (by simpa using hj) y hy
theorem idxF_mem : ∀ (C : List Sg) (s : Sg) (k : Nat), decide (idxF C s k ≥ 0) = decide (s ∈ C)
  | [], _, _ => rfl
  | x :: C, s, k => by
    unfold idxF
    by_cases h : s = x
    · subst h
      have : (0 : Int) ≤ k := by omega
      simp [this]
    · rw [decide_eq_false h]
      show decide (idxF C s (k + 1) ≥ 0) = _
      rw [idxF_mem C s (k + 1)]
      simp [h]
/-- bytes of names -/
def okc (c : Int) : Bool := !(((decide (c < 97) || decide (c > 122)) && (decide (c < 48) || decide (c > 57))) && (c != 45))
def hd0 (l : List UInt8) : Int := (l.headD 0).toNat
def nameB (l : List UInt8) : Bool := (((((l.length : Int) == 0) || decide ((l.length : Int) > 20)) || decide (hd0 l < 97)) || decide (hd0 l > 122))
def nameF (l : List UInt8) : Bool := !nameB l && l.all fun c => okc c.toNat
theorem nameB_len {l : List UInt8} (h : nameB l = false) : l.length ≤ 20 := by
  unfold nameB at h
  simp at h
  omega
theorem nth_hd {l : List UInt8} (h : ((l.length : Int) == 0) = false) : nth l 0 = some (l.headD 0) := by
  cases l with
  | nil => simp at h
  | cons a l => rfl
theorem all_no {l : List UInt8} {i : Nat} {c : UInt8} (h : nth l i = some c) (hc : okc c.toNat = false) : (l.all fun c => okc c.toNat) = false := by
  rw [List.all_eq_false]
  refine ⟨c, nth_mem h, ?_⟩
  rw [hc]; simp
theorem all_yes {l : List UInt8} (h : ∀ j, j < l.length → ∀ c, nth l j = some c → okc c.toNat = true) : (l.all fun c => okc c.toNat) = true := by
  rw [List.all_eq_true]
  intro c hc
  obtain ⟨j, hj, e⟩ := List.getElem_of_mem hc
  refine h j hj c ?_
  rw [nth_eq, List.getElem?_eq_getElem hj, e]
noncomputable def c34 : Code := Tryz.f34.body.getD .skip
theorem spec34 (a : Option Addr) (n cap : Nat) (b : Bool) (hn : n ≤ 1000) : CC Tryz.prog KK 34 [aggL [.slice a n cap, .bool b]] S (fun v S' => Keep S S' ∧ v = .int .i64 (n + bif b then 1 else 0)) := by
  refine cc_enter (c := c34) (n := 12) Tryz.func34 rfl rfl rfl (by kernel_rfl) rfl rfl ?_
  have hl := Hold.start S
  refine xp_seq rfl ?_; refine xp_region rfl (by kernel_rfl) ?_; refine re_boxL hl rfl rfl rfl rfl rfl rfl ?_; intro B1 S1 hl; refine re_rd rfl rfl rfl rfl (rd_assign rfl rfl) ?_; refine re_end rfl ?_; iterate 2 refine xp_seq rfl ?_
  refine xp_region rfl (by kernel_rfl) ?_; refine re_rd rfl rfl rfl rfl (rd_fieldAddr rfl rfl (fieldAddr_at Tryz.underlying43 rfl (by kernel_rfl))) ?_; refine re_rd rfl rfl rfl rfl (rd_load rfl rfl (load1_of (by kernel_rfl) (hl.get 0 rfl) rfl)) ?_; refine re_end rfl ?_; refine xp_cond rfl rfl (fun h4 => ?_) (fun h4 => ?_)
  ·
    refine xp_seq rfl ?_; refine xp_region rfl (by kernel_rfl) ?_; refine re_rd rfl rfl rfl rfl (rd_fieldAddr rfl rfl (fieldAddr_at Tryz.underlying43 rfl (by kernel_rfl))) ?_; refine re_rd rfl rfl rfl rfl (rd_load rfl rfl (load1_of (by kernel_rfl) (hl.get 0 rfl) rfl)) ?_; refine re_rd rfl rfl rfl rfl (rd_len rfl rfl (len_slice Tryz.underlying25)) ?_; refine re_rd rfl rfl rfl rfl (rd_bin rfl rfl rfl rfl) ?_; refine re_rd rfl rfl rfl rfl (rd_assign rfl rfl) ?_; refine re_end rfl ?_; refine xp_ret rfl ?_
    refine thn_ret (done_ret (ress_tmp rfl rfl) ⟨hl.keep, congrArg (Value.int .i64) (by rw [h4]; exact IntWalk.i64_in _ (by omega))⟩)
  ·
    refine xp_skip rfl ?_; refine xp_seq rfl ?_; refine xp_region rfl (by kernel_rfl) ?_; refine re_rd rfl rfl rfl rfl (rd_fieldAddr rfl rfl (fieldAddr_at Tryz.underlying43 rfl (by kernel_rfl))) ?_; refine re_rd rfl rfl rfl rfl (rd_load rfl rfl (load1_of (by kernel_rfl) (hl.get 0 rfl) rfl)) ?_; refine re_rd rfl rfl rfl rfl (rd_len rfl rfl (len_slice Tryz.underlying25)) ?_; refine re_rd rfl rfl rfl rfl (rd_assign rfl rfl) ?_; refine re_end rfl ?_; refine xp_ret rfl ?_
    refine done_ret (ress_tmp rfl rfl) ⟨hl.keep, congrArg (Value.int .i64) (by rw [h4]; simp)⟩

noncomputable def c59 : Code := Tryz.f59.body.getD .skip
theorem spec59 (a : Option Addr) (cap : Nat) (C : List Sg) (s : Sg) (hn : C.length ≤ 1000) (hv : Signs S (.slice a C.length cap) C) : CC Tryz.prog KK 59 [.slice a C.length cap, s.v] S (fun v S' => Keep S S' ∧ v = .int .i64 (idxF C s 0)) := by
  refine cc_enter (c := c59) (n := 19) Tryz.func59 rfl rfl rfl (by kernel_rfl) rfl rfl ?_
  have hl := Hold.start S
  refine xp_seq rfl ?_; refine xp_region rfl (by kernel_rfl) ?_; refine re_boxL hl rfl rfl rfl rfl rfl rfl ?_; intro B3 S3 hl; refine re_rd rfl rfl rfl rfl (rd_assign rfl rfl) ?_; refine re_end rfl ?_; iterate 2 refine xp_seq rfl ?_
  refine xp_region rfl (by kernel_rfl) ?_; refine re_rd rfl rfl rfl rfl (rd_move rfl rfl) ?_; refine re_rd rfl rfl rfl rfl (rd_len rfl rfl (len_slice Tryz.underlying25)) ?_; refine re_rd rfl rfl rfl rfl (rd_move rfl rfl) ?_; refine re_end rfl ?_; refine xp_block rfl ?_
  -- LOOP
  refine xe_sub (L' := [(8, .int .i64 0), (7, .int .i64 C.length), (3, ptrTo B3 0), (0, .slice a C.length cap)]) ⟨rfl, rfl, rfl, rfl, trivial⟩ ?_
  refine xp_loop rfl (fun m L S' => ∃ i : Nat, i ≤ C.length ∧ m = C.length - i ∧ SubE [(8, .int .i64 (i : Int)), (7, .int .i64 C.length), (3, ptrTo B3 0), (0, .slice a C.length cap)] L ∧ (∀ j, j < i → ∀ y, nth C j = some y → s ≠ y) ∧ Hold S [S] S' [(B3, .cells s.cells 54 false true [])]) ?_ (m := C.length) ⟨0, by omega, rfl, ⟨rfl, rfl, rfl, rfl, trivial⟩, fun j hj => by omega, hl⟩
  clear hl; rintro m L S' ⟨i, hi, rfl, hs, hne, hl⟩; refine xe_sub hs ?_
  refine xp_seq rfl ?_; refine xp_region rfl (by kernel_rfl) ?_; refine re_rd rfl rfl rfl rfl (rd_bin rfl rfl rfl rfl) ?_; refine re_end rfl ?_; refine xp_seq rfl ?_; refine xp_cond rfl rfl (fun h9 => ?_) (fun h9 => ?_)
  ·
    have hlt : i < C.length := by simp at h9; omega
    obtain ⟨x, hx⟩ := nth_some hlt
    obtain ⟨b, o, cs, rfl, _, hrow, htk⟩ := hv.elem hx
    refine xp_skip rfl ?_; refine xp_seq rfl ?_; refine xp_block rfl ?_; refine xp_seq rfl ?_; refine xp_region rfl (by kernel_rfl) ?_; refine re_rd rfl rfl rfl rfl (rd_move rfl rfl) ?_; refine re_rd rfl rfl rfl rfl (rd_assign rfl rfl) ?_; refine re_end rfl ?_; refine xp_seq rfl ?_; refine xp_draw (idx := [0, 1, 2, 3, 4, 5]) rfl (by kernel_rfl) (by kernel_rfl) ?_; refine rp_lk rfl rfl rfl rfl rfl (rd_load rfl rfl (loadN_of (z := 17) (by kernel_rfl) (by kernel_rfl) (hl.get 0 rfl) rfl)) ?_; iterate 2 refine rp_rd rfl rfl rfl rfl rfl (rd_move rfl rfl) ?_
    refine rp_rd rfl rfl rfl rfl rfl (rd_indexAddr rfl rfl rfl (indexAddr_slice (z := 17) Tryz.underlying25 (by kernel_rfl) ⟨by omega, by omega⟩)) ?_; refine rp_lk rfl rfl rfl rfl rfl (rd_load rfl rfl (loadN_row (z := 17) (by kernel_rfl) (by kernel_rfl) (row_move (hl.since 0 rfl) hrow) htk)) ?_; refine rp_rd rfl rfl rfl rfl rfl (rd_bin rfl rfl rfl (eqSign' _ _ s x)) ?_; refine rp_end rfl ?_; refine xp_cond rfl rfl (fun h16 => ?_) (fun h16 => ?_)
    ·
      refine xp_seq rfl ?_; refine xp_region rfl (by kernel_rfl) ?_; refine re_rd rfl rfl rfl rfl (rd_move rfl rfl) ?_; refine re_rd rfl rfl rfl rfl (rd_assign rfl rfl) ?_; refine re_end rfl ?_; refine xp_ret rfl ?_
      refine blk_ret (thn_ret (round_ret (blk_ret (thn_ret (done_ret (ress_tmp rfl rfl) ⟨hl.keep, congrArg (Value.int .i64) (by obtain rfl : s = x := (by simpa using h16); rw [idxF_at C s i 0 hne hx]; simp)⟩)))))
    ·
      refine xp_skip rfl ?_; refine xp_region rfl (by kernel_rfl) ?_; refine re_rd rfl rfl rfl rfl (rd_bin rfl rfl rfl rfl) ?_; refine re_rd rfl rfl rfl rfl (rd_move rfl rfl) ?_; refine re_end rfl ?_
      refine ⟨C.length - (i + 1), by omega, i + 1, by omega, rfl, ⟨congrArg some (congrArg (Value.int .i64) (IntWalk.i64_in _ (by omega))), rfl, rfl, rfl, trivial⟩, fun j hj y hy => ?_, hl⟩
      rcases Nat.lt_succ_iff_lt_or_eq.1 hj with hj | rfl
      · exact hne j hj y hy
      · rw [hx] at hy; cases hy; simpa using h16
  ·
    refine xp_exit rfl ?_; refine xp_seq rfl ?_; refine xp_region rfl (by kernel_rfl) ?_; refine re_rd rfl rfl rfl rfl (rd_assign rfl rfl) ?_; refine re_end rfl ?_; refine xp_ret rfl ?_
    refine done_ret (ress_tmp rfl rfl) ⟨hl.keep, congrArg (Value.int .i64) (by rw [idxF_none C s 0 fun j hj y hy => hne j (by simp at h9; omega) y hy])⟩

noncomputable def c57 : Code := Tryz.f57.body.getD .skip
theorem spec57 (a : Option Addr) (cap : Nat) (C : List Sg) (s : Sg) (hn : C.length ≤ 1000) (hv : Signs S (.slice a C.length cap) C) : CC Tryz.prog KK 57 [.slice a C.length cap, s.v] S (fun v S' => Keep S S' ∧ v = .bool (decide (s ∈ C))) := by
  refine cc_enter (c := c57) (n := 9) Tryz.func57 rfl rfl rfl (by kernel_rfl) rfl rfl ?_
  have hl := Hold.start S
  refine xp_seq rfl ?_; refine xp_region rfl (by kernel_rfl) ?_; refine re_boxL hl rfl rfl rfl rfl rfl rfl ?_; intro B3 S3 hl; refine re_rd rfl rfl rfl rfl (rd_assign rfl rfl) ?_; refine re_end rfl ?_; refine xp_seq rfl ?_; refine xp_region rfl (by kernel_rfl) ?_; refine re_rd rfl rfl rfl rfl (rd_move rfl rfl) ?_; refine re_rd rfl rfl rfl rfl (rd_load rfl rfl (loadN_of (z := 17) (by kernel_rfl) (by kernel_rfl) (hl.get 0 rfl) rfl)) ?_
  refine re_callL hl rfl rfl rfl rfl rfl rfl rfl (spec59 a cap C s hn (hv.move (hl.since 0 rfl))) ?_; rintro v S1 hk1 rfl hl
  refine re_rd rfl rfl rfl rfl (rd_bin rfl rfl rfl rfl) ?_; refine re_rd rfl rfl rfl rfl (rd_assign rfl rfl) ?_; refine re_end rfl ?_; refine xp_ret rfl ?_
  refine done_ret (ress_tmp rfl rfl) ⟨hl.keep, congrArg Value.bool (idxF_mem C s 0)⟩

noncomputable def c28 : Code := Tryz.f28.body.getD .skip
theorem spec28 (a a2 : Option Addr) (cap cap2 : Nat) (C D : List Sg) (hn : C.length ≤ 1000) (hv : Signs S (.slice a C.length cap) C) (hv2 : Signs S (.slice a2 D.length cap2) D) : CC Tryz.prog KK 28 [.slice a C.length cap, .slice a2 D.length cap2] S (fun v S' => Keep S S' ∧ v = .bool (decide (C = D))) := by
  refine cc_enter (c := c28) (n := 26) Tryz.func28 rfl rfl rfl (by kernel_rfl) rfl rfl ?_
  have hl := Hold.start S
  refine xp_seq rfl ?_; refine xp_region rfl (by kernel_rfl) ?_; refine re_rd rfl rfl rfl rfl (rd_assign rfl rfl) ?_; refine re_end rfl ?_; iterate 2 refine xp_seq rfl ?_
  refine xp_region rfl (by kernel_rfl) ?_; refine re_rd rfl rfl rfl rfl (rd_move rfl rfl) ?_; refine re_rd rfl rfl rfl rfl (rd_len rfl rfl (len_slice Tryz.underlying25)) ?_; refine re_rd rfl rfl rfl rfl (rd_move rfl rfl) ?_; refine re_rd rfl rfl rfl rfl (rd_len rfl rfl (len_slice Tryz.underlying25)) ?_; refine re_rd rfl rfl rfl rfl (rd_bin rfl rfl rfl rfl) ?_; refine re_end rfl ?_; refine xp_cond rfl rfl (fun h10 => ?_) (fun h10 => ?_)
  ·
    refine xp_seq rfl ?_; refine xp_region rfl (by kernel_rfl) ?_; refine re_rd rfl rfl rfl rfl (rd_assign rfl rfl) ?_; refine re_end rfl ?_; refine xp_ret rfl ?_
    refine thn_ret (done_ret (ress_tmp rfl rfl) ⟨hl.keep, congrArg Value.bool (by symm; rw [decide_eq_false_iff_not]; rintro rfl; simp at h10)⟩)
  ·
    refine xp_skip rfl ?_; iterate 2 refine xp_seq rfl ?_
    refine xp_region rfl (by kernel_rfl) ?_; refine re_rd rfl rfl rfl rfl (rd_assign rfl rfl) ?_; refine re_end rfl ?_; refine xp_block rfl ?_
    -- LOOP
    refine xe_sub (L' := [(5, .int .i64 0), (1, .slice a2 D.length cap2), (0, .slice a C.length cap)]) ⟨rfl, rfl, rfl, trivial⟩ ?_
    have hlen : C.length = D.length := by simp at h10; omega
    refine xp_loop rfl (fun m L S' => ∃ i : Nat, i ≤ C.length ∧ m = C.length - i ∧ SubE [(5, .int .i64 (i : Int)), (1, .slice a2 D.length cap2), (0, .slice a C.length cap)] L ∧ (∀ j, j < i → nth C j = nth D j) ∧ Hold S [S] S' []) ?_ (m := C.length) ⟨0, by omega, rfl, ⟨rfl, rfl, rfl, trivial⟩, fun j hj => by omega, hl⟩
    clear hl; rintro m L S' ⟨i, hi, rfl, hs, hne, hl⟩; refine xe_sub hs ?_
    iterate 2 refine xp_seq rfl ?_
    refine xp_region rfl (by kernel_rfl) ?_; iterate 2 refine re_rd rfl rfl rfl rfl (rd_move rfl rfl) ?_
    refine re_rd rfl rfl rfl rfl (rd_len rfl rfl (len_slice Tryz.underlying25)) ?_; refine re_rd rfl rfl rfl rfl (rd_bin rfl rfl rfl rfl) ?_; refine re_end rfl ?_; refine xp_cond rfl rfl (fun h14 => ?_) (fun h14 => ?_)
    ·
      have hlt : i < C.length := by simp at h14; omega
      obtain ⟨x, hx⟩ := nth_some hlt
      obtain ⟨y, hy⟩ := nth_some (hlen ▸ hlt)
      obtain ⟨b, o, cs, rfl, _, hrow, htk⟩ := hv.elem hx
      obtain ⟨b2, o2, cs2, rfl, _, hrow2, htk2⟩ := hv2.elem hy
      refine xp_skip rfl ?_; refine xp_seq rfl ?_; refine xp_block rfl ?_; refine xp_seq rfl ?_; refine xp_draw (idx := [0, 1, 2, 3, 4, 5, 6, 7, 8]) rfl (by kernel_rfl) (by kernel_rfl) ?_; iterate 2 refine rp_rd rfl rfl rfl rfl rfl (rd_move rfl rfl) ?_
      refine rp_rd rfl rfl rfl rfl rfl (rd_indexAddr rfl rfl rfl (indexAddr_slice (z := 17) Tryz.underlying25 (by kernel_rfl) ⟨by omega, by omega⟩)) ?_; refine rp_lk rfl rfl rfl rfl rfl (rd_load rfl rfl (loadN_row (z := 17) (by kernel_rfl) (by kernel_rfl) (row_move (hl.since 0 rfl) hrow) htk)) ?_; iterate 2 refine rp_rd rfl rfl rfl rfl rfl (rd_move rfl rfl) ?_
      refine rp_rd rfl rfl rfl rfl rfl (rd_indexAddr rfl rfl rfl (indexAddr_slice (z := 17) Tryz.underlying25 (by kernel_rfl) ⟨by omega, by omega⟩)) ?_; refine rp_lk rfl rfl rfl rfl rfl (rd_load rfl rfl (loadN_row (z := 17) (by kernel_rfl) (by kernel_rfl) (row_move (hl.since 0 rfl) hrow2) htk2)) ?_; refine rp_rd rfl rfl rfl rfl rfl (rd_bin rfl rfl rfl (neSign _ _ x y)) ?_; refine rp_end rfl ?_; refine xp_cond rfl rfl (fun h25 => ?_) (fun h25 => ?_)
      ·
        refine xp_seq rfl ?_; refine xp_region rfl (by kernel_rfl) ?_; refine re_rd rfl rfl rfl rfl (rd_assign rfl rfl) ?_; refine re_end rfl ?_; refine xp_ret rfl ?_
        refine blk_ret (thn_ret (round_ret (blk_ret (thn_ret (done_ret (ress_tmp rfl rfl) ⟨hl.keep, congrArg Value.bool (by symm; rw [decide_eq_false_iff_not]; rintro rfl; rw [hx] at hy; cases hy; simp at h25)⟩)))))
      ·
        refine xp_skip rfl ?_; refine xp_region rfl (by kernel_rfl) ?_; refine re_rd rfl rfl rfl rfl (rd_move rfl rfl) ?_; refine re_rd rfl rfl rfl rfl (rd_bin rfl rfl rfl rfl) ?_; refine re_rd rfl rfl rfl rfl (rd_assign rfl rfl) ?_; refine re_end rfl ?_
        refine ⟨C.length - (i + 1), by omega, i + 1, by omega, rfl, ⟨congrArg some (congrArg (Value.int .i64) (IntWalk.i64_in _ (by omega))), rfl, rfl, trivial⟩, fun j hj => ?_, hl⟩
        rcases Nat.lt_succ_iff_lt_or_eq.1 hj with hj | rfl
        · exact hne j hj
        · rw [hx, hy]; exact congrArg some (by simpa using h25)
    ·
      refine xp_exit rfl ?_; refine xp_seq rfl ?_; refine xp_region rfl (by kernel_rfl) ?_; refine re_rd rfl rfl rfl rfl (rd_assign rfl rfl) ?_; refine re_end rfl ?_; refine xp_ret rfl ?_
      refine done_ret (ress_tmp rfl rfl) ⟨hl.keep, congrArg Value.bool (by symm; rw [decide_eq_true_iff]; exact nth_ext hlen fun j hj => hne j (by simp at h14; omega))⟩

noncomputable def c48 : Code := Tryz.f48.body.getD .skip
theorem spec48 (s : ByteArray) : CC Tryz.prog KK 48 [.string s] S (fun v S' => Keep S S' ∧ v = .bool (nameF s.data.toList)) := by
  refine cc_enter (c := c48) (n := 50) Tryz.func48 rfl rfl rfl (by kernel_rfl) rfl rfl ?_
  have hl := Hold.start S
  refine xp_seq rfl ?_; refine xp_region rfl (by kernel_rfl) ?_; refine re_rd rfl rfl rfl rfl (rd_assign rfl rfl) ?_; refine re_end rfl ?_; refine xp_seq rfl ?_; refine xp_seq rfl (xe_toL hl [(22, .bool (nameB s.data.toList)), (0, .string s)] ?_ ?_)
  ·
    refine xp_region rfl (by kernel_rfl) ?_; refine re_rd rfl rfl rfl rfl (rd_move rfl rfl) ?_; refine re_rd rfl rfl rfl rfl (rd_len rfl rfl (len_string Tryz.underlying9)) ?_; refine re_rd rfl rfl rfl rfl (rd_bin rfl rfl rfl rfl) ?_; refine re_rd rfl rfl rfl rfl (rd_move rfl rfl) ?_; refine re_bool (d := 8) rfl (fun h8 => ?_) (fun h8 => ?_)
    ·
      iterate 3 refine re_pass rfl rfl rfl rfl ?_
      refine re_rd rfl rfl rfl rfl (rd_pick_t rfl rfl rfl) ?_; refine re_rd rfl rfl rfl rfl (rd_move rfl rfl) ?_; iterate 3 refine re_pass rfl rfl rfl rfl ?_
      refine re_rd rfl rfl rfl rfl (rd_pick_t rfl rfl rfl) ?_; refine re_rd rfl rfl rfl rfl (rd_move rfl rfl) ?_; iterate 3 refine re_pass rfl rfl rfl rfl ?_
      refine re_rd rfl rfl rfl rfl (rd_pick_t rfl rfl rfl) ?_; refine re_end rfl ?_
      exact ⟨rfl, ⟨bl (by unfold nameB hd0; simp only [h8, BLs]), rfl, trivial⟩, hl⟩
    ·
      refine re_rd rfl rfl rfl rfl (rd_move rfl rfl) ?_; refine re_rd rfl rfl rfl rfl (rd_len rfl rfl (len_string Tryz.underlying9)) ?_; refine re_rd rfl rfl rfl rfl (rd_bin rfl rfl rfl rfl) ?_; refine re_rd rfl rfl rfl rfl (rd_pick_f rfl rfl rfl) ?_; refine re_rd rfl rfl rfl rfl (rd_move rfl rfl) ?_; refine re_bool (d := 13) rfl (fun h13 => ?_) (fun h13 => ?_)
      ·
        iterate 3 refine re_pass rfl rfl rfl rfl ?_
        refine re_rd rfl rfl rfl rfl (rd_pick_t rfl rfl rfl) ?_; refine re_rd rfl rfl rfl rfl (rd_move rfl rfl) ?_; iterate 3 refine re_pass rfl rfl rfl rfl ?_
        refine re_rd rfl rfl rfl rfl (rd_pick_t rfl rfl rfl) ?_; refine re_end rfl ?_
        exact ⟨rfl, ⟨bl (by unfold nameB hd0; simp only [h13, h8, BLs]), rfl, trivial⟩, hl⟩
      ·
        refine re_rd rfl rfl rfl rfl (rd_move rfl rfl) ?_; refine re_rd rfl rfl rfl rfl (rd_index rfl rfl rfl (index_string Tryz.underlying9 (Int.le_refl 0) (nth_hd h8))) ?_; refine re_rd rfl rfl rfl rfl (rd_bin rfl rfl rfl rfl) ?_; refine re_rd rfl rfl rfl rfl (rd_pick_f rfl rfl rfl) ?_; refine re_rd rfl rfl rfl rfl (rd_move rfl rfl) ?_; refine re_bool (d := 18) rfl (fun h18 => ?_) (fun h18 => ?_)
        ·
          iterate 3 refine re_pass rfl rfl rfl rfl ?_
          refine re_rd rfl rfl rfl rfl (rd_pick_t rfl rfl rfl) ?_; refine re_end rfl ?_
          exact ⟨rfl, ⟨bl (by unfold nameB hd0; simp only [h18, h13, h8, BLs]), rfl, trivial⟩, hl⟩
        ·
          refine re_rd rfl rfl rfl rfl (rd_move rfl rfl) ?_; refine re_rd rfl rfl rfl rfl (rd_index rfl rfl rfl (index_string Tryz.underlying9 (Int.le_refl 0) (nth_hd h8))) ?_; refine re_rd rfl rfl rfl rfl (rd_bin rfl rfl rfl rfl) ?_; refine re_rd rfl rfl rfl rfl (rd_pick_f rfl rfl rfl) ?_; refine re_end rfl ?_
          exact ⟨rfl, ⟨bl (by unfold nameB hd0; simp only [h18, h13, h8, BLs]), rfl, trivial⟩, hl⟩
  intro S1 hl
  refine xp_cond rfl rfl (fun h22 => ?_) (fun h22 => ?_)
  ·
    refine xp_seq rfl ?_; refine xp_region rfl (by kernel_rfl) ?_; refine re_rd rfl rfl rfl rfl (rd_assign rfl rfl) ?_; refine re_end rfl ?_; refine xp_ret rfl ?_
    refine thn_ret (done_ret (ress_tmp rfl rfl) ⟨hl.keep, congrArg Value.bool (by unfold nameF; rw [h22]; rfl)⟩)
  ·
    refine xp_skip rfl ?_; iterate 2 refine xp_seq rfl ?_
    refine xp_region rfl (by kernel_rfl) ?_; refine re_rd rfl rfl rfl rfl (rd_move rfl rfl) ?_; refine re_rd rfl rfl rfl rfl (rd_len rfl rfl (len_string Tryz.underlying9)) ?_; refine re_rd rfl rfl rfl rfl (rd_move rfl rfl) ?_; refine re_end rfl ?_; refine xp_block rfl ?_
    -- LOOP
    refine xe_sub (L' := [(25, .int .i64 0), (24, .int .i64 s.data.toList.length), (0, .string s)]) ⟨rfl, rfl, rfl, trivial⟩ ?_
    have hn : s.data.toList.length ≤ 20 := nameB_len h22
    refine xp_loop rfl (fun m L S' => ∃ i : Nat, i ≤ s.data.toList.length ∧ m = s.data.toList.length - i ∧ SubE [(25, .int .i64 (i : Int)), (24, .int .i64 s.data.toList.length), (0, .string s)] L ∧ (∀ j, j < i → ∀ c, nth s.data.toList j = some c → okc c.toNat = true) ∧ Hold S [S] S' []) ?_ (m := s.data.toList.length) ⟨0, by omega, rfl, ⟨rfl, rfl, rfl, trivial⟩, fun j hj => by omega, hl⟩
    clear hl; rintro m L S' ⟨i, hi, rfl, hs, hok, hl⟩; refine xe_sub hs ?_
    refine xp_seq rfl ?_; refine xp_region rfl (by kernel_rfl) ?_; refine re_rd rfl rfl rfl rfl (rd_bin rfl rfl rfl rfl) ?_; refine re_end rfl ?_; refine xp_seq rfl ?_; refine xp_cond rfl rfl (fun h26 => ?_) (fun h26 => ?_)
    ·
      have hlt : i < s.data.toList.length := by have := of_decide_eq_true h26; omega
      obtain ⟨c, hc⟩ := nth_some hlt
      refine xp_skip rfl ?_; refine xp_seq rfl ?_; refine xp_block rfl ?_; refine xp_seq rfl ?_; refine xp_region rfl (by kernel_rfl) ?_; refine re_rd rfl rfl rfl rfl (rd_move rfl rfl) ?_; refine re_rd rfl rfl rfl rfl (rd_assign rfl rfl) ?_; refine re_end rfl ?_; refine xp_seq rfl ?_; refine xp_region rfl (by kernel_rfl) ?_; iterate 2 refine re_rd rfl rfl rfl rfl (rd_move rfl rfl) ?_
      refine re_rd rfl rfl rfl rfl (rd_index rfl rfl rfl (index_string Tryz.underlying9 (by omega) (hc))) ?_; refine re_rd rfl rfl rfl rfl (rd_assign rfl rfl) ?_; refine re_end rfl ?_; refine xp_seq rfl (xe_toL hl [(48, .bool (!okc c.toNat)), (25, .int .i64 (i : Int)), (24, .int .i64 s.data.toList.length), (0, .string s)] ?_ ?_)
      ·
        refine xp_region rfl (by kernel_rfl) ?_; refine re_rd rfl rfl rfl rfl (rd_move rfl rfl) ?_; refine re_rd rfl rfl rfl rfl (rd_bin rfl rfl rfl rfl) ?_; refine re_rd rfl rfl rfl rfl (rd_move rfl rfl) ?_; refine re_bool (d := 33) rfl (fun h33 => ?_) (fun h33 => ?_)
        ·
          iterate 2 refine re_pass rfl rfl rfl rfl ?_
          refine re_rd rfl rfl rfl rfl (rd_pick_t rfl rfl rfl) ?_; iterate 2 refine re_rd rfl rfl rfl rfl (rd_move rfl rfl) ?_
          refine re_rd rfl rfl rfl rfl (rd_bin rfl rfl rfl rfl) ?_; refine re_rd rfl rfl rfl rfl (rd_move rfl rfl) ?_; refine re_bool (d := 40) rfl (fun h40 => ?_) (fun h40 => ?_)
          ·
            iterate 2 refine re_pass rfl rfl rfl rfl ?_
            iterate 2 refine re_rd rfl rfl rfl rfl (rd_pick_t rfl rfl rfl) ?_
            iterate 2 refine re_rd rfl rfl rfl rfl (rd_move rfl rfl) ?_
            refine re_rd rfl rfl rfl rfl (rd_bin rfl rfl rfl rfl) ?_; refine re_rd rfl rfl rfl rfl (rd_pick_t rfl rfl rfl) ?_; refine re_end rfl ?_
            exact ⟨rfl, ⟨bl (by unfold okc; simp only [h40, h33, BLs, Bool.not_not]), rfl, rfl, rfl, trivial⟩, hl⟩
          ·
            refine re_rd rfl rfl rfl rfl (rd_move rfl rfl) ?_; refine re_rd rfl rfl rfl rfl (rd_bin rfl rfl rfl rfl) ?_; refine re_rd rfl rfl rfl rfl (rd_pick_f rfl rfl rfl) ?_; refine re_rd rfl rfl rfl rfl (rd_pick_t rfl rfl rfl) ?_; refine re_rd rfl rfl rfl rfl (rd_move rfl rfl) ?_; refine re_bool (d := 45) rfl (fun h45 => ?_) (fun h45 => ?_)
            ·
              refine re_rd rfl rfl rfl rfl (rd_move rfl rfl) ?_; refine re_rd rfl rfl rfl rfl (rd_bin rfl rfl rfl rfl) ?_; refine re_rd rfl rfl rfl rfl (rd_pick_t rfl rfl rfl) ?_; refine re_end rfl ?_
              exact ⟨rfl, ⟨bl (by unfold okc; simp only [h45, h40, h33, BLs, Bool.not_not]), rfl, rfl, rfl, trivial⟩, hl⟩
            ·
              iterate 2 refine re_pass rfl rfl rfl rfl ?_
              refine re_rd rfl rfl rfl rfl (rd_pick_f rfl rfl rfl) ?_; refine re_end rfl ?_
              exact ⟨rfl, ⟨bl (by unfold okc; simp only [h45, h40, h33, BLs, Bool.not_not]), rfl, rfl, rfl, trivial⟩, hl⟩
        ·
          refine re_rd rfl rfl rfl rfl (rd_move rfl rfl) ?_; refine re_rd rfl rfl rfl rfl (rd_bin rfl rfl rfl rfl) ?_; refine re_rd rfl rfl rfl rfl (rd_pick_f rfl rfl rfl) ?_; refine re_rd rfl rfl rfl rfl (rd_move rfl rfl) ?_; refine re_bool (d := 37) rfl (fun h37 => ?_) (fun h37 => ?_)
          ·
            refine re_rd rfl rfl rfl rfl (rd_move rfl rfl) ?_; refine re_rd rfl rfl rfl rfl (rd_bin rfl rfl rfl rfl) ?_; refine re_rd rfl rfl rfl rfl (rd_move rfl rfl) ?_; refine re_bool (d := 40) rfl (fun h40 => ?_) (fun h40 => ?_)
            ·
              iterate 2 refine re_pass rfl rfl rfl rfl ?_
              iterate 2 refine re_rd rfl rfl rfl rfl (rd_pick_t rfl rfl rfl) ?_
              iterate 2 refine re_rd rfl rfl rfl rfl (rd_move rfl rfl) ?_
              refine re_rd rfl rfl rfl rfl (rd_bin rfl rfl rfl rfl) ?_; refine re_rd rfl rfl rfl rfl (rd_pick_t rfl rfl rfl) ?_; refine re_end rfl ?_
              exact ⟨rfl, ⟨bl (by unfold okc; simp only [h40, h37, h33, BLs, Bool.not_not]), rfl, rfl, rfl, trivial⟩, hl⟩
            ·
              refine re_rd rfl rfl rfl rfl (rd_move rfl rfl) ?_; refine re_rd rfl rfl rfl rfl (rd_bin rfl rfl rfl rfl) ?_; refine re_rd rfl rfl rfl rfl (rd_pick_f rfl rfl rfl) ?_; refine re_rd rfl rfl rfl rfl (rd_pick_t rfl rfl rfl) ?_; refine re_rd rfl rfl rfl rfl (rd_move rfl rfl) ?_; refine re_bool (d := 45) rfl (fun h45 => ?_) (fun h45 => ?_)
              ·
                refine re_rd rfl rfl rfl rfl (rd_move rfl rfl) ?_; refine re_rd rfl rfl rfl rfl (rd_bin rfl rfl rfl rfl) ?_; refine re_rd rfl rfl rfl rfl (rd_pick_t rfl rfl rfl) ?_; refine re_end rfl ?_
                exact ⟨rfl, ⟨bl (by unfold okc; simp only [h45, h40, h37, h33, BLs, Bool.not_not]), rfl, rfl, rfl, trivial⟩, hl⟩
              ·
                iterate 2 refine re_pass rfl rfl rfl rfl ?_
                refine re_rd rfl rfl rfl rfl (rd_pick_f rfl rfl rfl) ?_; refine re_end rfl ?_
                exact ⟨rfl, ⟨bl (by unfold okc; simp only [h45, h40, h37, h33, BLs, Bool.not_not]), rfl, rfl, rfl, trivial⟩, hl⟩
          ·
            iterate 6 refine re_pass rfl rfl rfl rfl ?_
            refine re_rd rfl rfl rfl rfl (rd_pick_f rfl rfl rfl) ?_; refine re_rd rfl rfl rfl rfl (rd_move rfl rfl) ?_; iterate 2 refine re_pass rfl rfl rfl rfl ?_
            refine re_rd rfl rfl rfl rfl (rd_pick_f rfl rfl rfl) ?_; refine re_end rfl ?_
            exact ⟨rfl, ⟨bl (by unfold okc; simp only [h37, h33, BLs, Bool.not_not]), rfl, rfl, rfl, trivial⟩, hl⟩
      intro S1 hl
      refine xp_cond rfl rfl (fun h48 => ?_) (fun h48 => ?_)
      ·
        refine xp_seq rfl ?_; refine xp_region rfl (by kernel_rfl) ?_; refine re_rd rfl rfl rfl rfl (rd_assign rfl rfl) ?_; refine re_end rfl ?_; refine xp_ret rfl ?_
        refine blk_ret (thn_ret (round_ret (blk_ret (thn_ret (done_ret (ress_tmp rfl rfl) ⟨hl.keep, congrArg Value.bool (by unfold nameF; rw [all_no hc (by simpa using h48), Bool.and_false])⟩)))))
      ·
        refine xp_skip rfl ?_; refine xp_region rfl (by kernel_rfl) ?_; refine re_rd rfl rfl rfl rfl (rd_bin rfl rfl rfl rfl) ?_; refine re_rd rfl rfl rfl rfl (rd_move rfl rfl) ?_; refine re_end rfl ?_
        refine ⟨s.data.toList.length - (i + 1), by omega, i + 1, by omega, rfl, ⟨congrArg some (congrArg (Value.int .i64) (IntWalk.i64_in _ (by omega))), rfl, rfl, trivial⟩, fun j hj y hy => ?_, hl⟩
        rcases Nat.lt_succ_iff_lt_or_eq.1 hj with hj | rfl
        · exact hok j hj y hy
        · rw [hc] at hy; cases hy; simpa using h48
    ·
      refine xp_exit rfl ?_; refine xp_seq rfl ?_; refine xp_region rfl (by kernel_rfl) ?_; refine re_rd rfl rfl rfl rfl (rd_assign rfl rfl) ?_; refine re_end rfl ?_; refine xp_ret rfl ?_
      refine done_ret (ress_tmp rfl rfl) ⟨hl.keep, congrArg Value.bool (by unfold nameF; rw [h22, all_yes fun j hj c hc => hok j (by have := of_decide_eq_false h26; omega) c hc]; rfl)⟩

end Go.Proofs.YtgnhcamhcnkbfaaGreatDoor
