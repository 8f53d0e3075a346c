/-
  source.Merge.
-/
import Derived.Test.YtgmmomlgklmedaaGreatDoorSm5
namespace Go.Proofs.YtgmmomlgklmedaaGreatDoor
open Go.Cm Go
set_option maxRecDepth 100000
variable {S : St}
def addS : List Sg → List Sg → List Sg
  | C, [] => C
  | C, t :: r => bif decide (t ∈ C) then addS C r else addS (C ++ [t]) r
def merge2 (x y : Spt) : Spt := ⟨addS x.signs y.signs, x.blank || y.blank⟩
def mergeG : List Spt → List Spt → List Spt → Option (List Spt)
  | out, x :: r, y :: s => bif decide (sizeF (merge2 x y) > 4) then none else mergeG (out ++ [merge2 x y]) r s
  | out, _, _ => some out
def difB (n1 n2 : List UInt8) (L1 L2 : List Spt) : Bool := !sameBytes n1 n2 || ((L1.length : Int) != (L2.length : Int))
def noName : ByteArray := ⟨#[]⟩
def mergeR (n1 n2 : ByteArray) (L1 L2 : List Spt) : Int × ByteArray × List Spt :=
  bif (checkF n1.data.toList L1).1 != 0 then ((checkF n1.data.toList L1).1, noName, []) else
  bif (checkF n2.data.toList L2).1 != 0 then ((checkF n2.data.toList L2).1, noName, []) else
  bif difB n1.data.toList n2.data.toList L1 L2 then (3, noName, []) else
  match mergeG [] L1 L2 with
  | none => (11, noName, [])
  | some out => (0, n1, out)
theorem mergeR_1 {n1 n2 : ByteArray} {L1 L2 : List Spt} (h : ((checkF n1.data.toList L1).1 != 0) = true) : mergeR n1 n2 L1 L2 = ((checkF n1.data.toList L1).1, noName, []) := by
  unfold mergeR; rw [h]; rfl
theorem mergeR_2 {n1 n2 : ByteArray} {L1 L2 : List Spt} (h : ((checkF n1.data.toList L1).1 != 0) = false) (h2 : ((checkF n2.data.toList L2).1 != 0) = true) : mergeR n1 n2 L1 L2 = ((checkF n2.data.toList L2).1, noName, []) := by
  unfold mergeR; rw [h, h2]; rfl
theorem mergeR_3 {n1 n2 : ByteArray} {L1 L2 : List Spt} (h : ((checkF n1.data.toList L1).1 != 0) = false) (h2 : ((checkF n2.data.toList L2).1 != 0) = false) (h3 : difB n1.data.toList n2.data.toList L1 L2 = true) : mergeR n1 n2 L1 L2 = (3, noName, []) := by
  unfold mergeR; rw [h, h2, h3]; rfl
theorem mergeR_4 {n1 n2 : ByteArray} {L1 L2 : List Spt} (h : ((checkF n1.data.toList L1).1 != 0) = false) (h2 : ((checkF n2.data.toList L2).1 != 0) = false) (h3 : difB n1.data.toList n2.data.toList L1 L2 = false) (h4 : mergeG [] L1 L2 = none) : mergeR n1 n2 L1 L2 = (11, noName, []) := by
  unfold mergeR; rw [h, h2, h3, h4]; rfl
theorem mergeR_5 {n1 n2 : ByteArray} {L1 L2 out : List Spt} (h : ((checkF n1.data.toList L1).1 != 0) = false) (h2 : ((checkF n2.data.toList L2).1 != 0) = false) (h3 : difB n1.data.toList n2.data.toList L1 L2 = false) (h4 : mergeG [] L1 L2 = some out) : mergeR n1 n2 L1 L2 = (0, n1, out) := by
  unfold mergeR; rw [h, h2, h3, h4]; rfl
theorem addS_old {C r : List Sg} {t : Sg} (h : decide (t ∈ C) = true) : addS C (t :: r) = addS C r := by rw [addS, h]; rfl
theorem addS_new {C r : List Sg} {t : Sg} (h : decide (t ∈ C) = false) : addS C (t :: r) = addS (C ++ [t]) r := by rw [addS, h]; rfl
theorem mergeG_no {out r s : List Spt} {x y : Spt} (h : decide (sizeF (merge2 x y) > 4) = true) : mergeG out (x :: r) (y :: s) = none := by rw [mergeG, h]; rfl
theorem mergeG_step {out r s : List Spt} {x y : Spt} (h : decide (sizeF (merge2 x y) > 4) = false) : mergeG out (x :: r) (y :: s) = mergeG (out ++ [merge2 x y]) r s := by rw [mergeG, h]; rfl
/-- a source -/
def SrcAt (S : St) (v : Value) (nm : ByteArray) (L : List Spt) : Prop := ∃ sv, v = aggL [.string nm, sv] ∧ Spots S sv L
theorem SrcAt.move {S S' : St} (h : RK S S') {v : Value} {nm : ByteArray} {L : List Spt} (hs : SrcAt S v nm L) : SrcAt S' v nm L := by
  obtain ⟨sv, h1, h2⟩ := hs
  exact ⟨sv, h1, h2.move h⟩
theorem src_none (S : St) : SrcAt S (aggL [.string noName, .slice none 0 0]) noName [] := ⟨_, rfl, [], rfl, .inl ⟨rfl, .inl rfl⟩, fun k x h => by cases k <;> cases h⟩
theorem mres {n1 n2 : ByteArray} {L1 L2 : List Spt} {S : St} {w : Value} {e : Int} {nm : ByteArray} {out : List Spt} (h : mergeR n1 n2 L1 L2 = (e, nm, out)) (hs : SrcAt S w nm out) :
    ∃ w', tupV [w, .int .i64 e] = tupV [w', .int .i64 (mergeR n1 n2 L1 L2).1] ∧ SrcAt S w' (mergeR n1 n2 L1 L2).2.1 (mergeR n1 n2 L1 L2).2.2 := by
  rw [h]; exact ⟨w, rfl, hs⟩
theorem Grow.is {S0 S : St} {g : Gr} (h : Grow S0 S g) : ∃ a, g.v = .slice a g.n g.n := by
  rcases h with ⟨h1, _, h3⟩ | ⟨b, kin, h1, _⟩
  · exact ⟨none, by rw [h1, h3]⟩
  · exact ⟨_, h1⟩
/-- the cells of a list of spots -/
def PtsAt (S : St) (D : List (List Value)) (out : List Spt) : Prop := D.length = out.length ∧ (∀ d, d ∈ D → d.length = 2) ∧ ∀ k x, nth out k = some x → ∃ c, nth D k = some c ∧ SpotC S x c
theorem PtsAt.move {S S' : St} (h : RK S S') {D : List (List Value)} {out : List Spt} (hp : PtsAt S D out) : PtsAt S' D out := ⟨hp.1, hp.2.1, fun k x hx => by
  obtain ⟨c, k1, k2⟩ := hp.2.2 k x hx
  exact ⟨c, k1, k2.move h⟩⟩
theorem nth_push {α : Type} : ∀ {l : List α} {k : Nat} {x y : α}, nth (l ++ [y]) k = some x → nth l k = some x ∨ (k = l.length ∧ x = y)
  | [], 0, x, y, h => .inr ⟨rfl, (Option.some.inj h).symm⟩
  | [], k + 1, x, y, h => by cases k <;> cases h
  | z :: l, 0, x, y, h => .inl h
  | z :: l, k + 1, x, y, h => by
    rcases nth_push (l := l) (k := k) h with h | ⟨h1, h2⟩
    · exact .inl h
    · exact .inr ⟨by simp [h1], h2⟩
theorem nth_left {α : Type} : ∀ {l r : List α} {k : Nat} {x : α}, nth l k = some x → nth (l ++ r) k = some x
  | _ :: _, _, 0, _, h => h
  | _ :: l, r, k + 1, x, h => nth_left (l := l) (r := r) (k := k) h
  | [], _, _, _, h => by cases h
theorem nth_last {α : Type} : ∀ {l : List α} {x : α}, nth (l ++ [x]) l.length = some x
  | [], _ => rfl
  | _ :: l, x => nth_last (l := l) (x := x)
theorem PtsAt.push {S : St} {D : List (List Value)} {out : List Spt} (hp : PtsAt S D out) {x : Spt} {c : List Value} (hc : SpotC S x c) : PtsAt S (D ++ [c]) (out ++ [x]) := by
  obtain ⟨h1, h2, h3⟩ := hp
  refine ⟨by simp [h1], fun d hd => ?_, fun k y hy => ?_⟩
  · rcases List.mem_append.1 hd with hd | hd
    · exact h2 d hd
    · rw [List.mem_singleton.1 hd]
      obtain ⟨sv, e, _⟩ := hc
      rw [e]; rfl
  · rcases nth_push hy with hy | ⟨e1, e2⟩
    · obtain ⟨c2, k1, k2⟩ := h3 k y hy
      exact ⟨c2, nth_left k1, k2⟩
    · subst e2
      exact ⟨c, by rw [e1, ← h1]; exact nth_last, hc⟩
theorem Grow.spots {S0 S : St} {v : Value} {D : List (List Value)} {out : List Spt} (h : Grow S0 S ⟨v, 34, 2, D.flatten, D.length⟩) (hp : PtsAt S D out) : Spots S v out :=
  ⟨D, hp.1, Grow.sliceAt (g := ⟨v, 34, 2, D.flatten, D.length⟩) h rfl rfl hp.2.1, hp.2.2⟩
theorem flat_push (C : List Sg) (t : Sg) : ((C ++ [t]).map Sg.cells).flatten = (C.map Sg.cells).flatten ++ t.cells := by simp
theorem HoldG.shrink {S0 S : St} {Ts Us : List St} {l l' : List (Nat × Blk)} {gs gs' : List Gr} (h : HoldG S0 Ts S l gs) (hl : l'.Sublist l) (hg : ∀ g, g ∈ gs' → g ∈ gs) (ht : ∀ T, T ∈ Us → T ∈ Ts) : HoldG S0 Us S l' gs' :=
  ⟨(h.sub hl).keep, (h.sub hl).nd, (h.sub hl).at_, fun T hT => h.rk T (ht T hT), fun g k => h.gr g (hg g k)⟩
theorem src_row {S : St} {b o n cap z : Nat} {e : TypeId} {c new : List Value} (h : RowAt S b e c) (hn : takeN (n * z) (dropN o c) = some new) : sourceCells S z n (.slice (some ⟨b, o, none⟩) n cap) = some new := by
  obtain ⟨_, own, kin, hg⟩ := h
  show readCells S b o (n * z) = _
  unfold readCells
  rw [hg]
  exact hn
theorem indexAddr_sl {t e : TypeId} {a : Option Addr} {b o len cap z : Nat} {k : IntKind} {i : Int} (ha : a = some ⟨b, o, none⟩) (hu : Tryz.prog.underlying t = some (.slice e)) (hz : szOf Tryz.prog e = some z) (hi : 0 ≤ i ∧ i < len) :
    indexAddrV Tryz.prog t (.slice a len cap) (.int k i) = some (ptrTo b (o + i.toNat * z)) := by
  subst ha
  exact indexAddr_slice hu hz hi
noncomputable def c7 : Code := Tryz.f7.body.getD .skip
theorem spec7 (n1 n2 : ByteArray) (a1 a2 : Option Addr) (cap1 cap2 : Nat) (L1 L2 : List Spt) (hn1 : L1.length ≤ 1000) (hn2 : L2.length ≤ 1000) (hs1 : ∀ x, x ∈ L1 → x.signs.length ≤ 400) (hs2 : ∀ x, x ∈ L2 → x.signs.length ≤ 400) (hF : Fresh S) (hG : Gl S) (hv1 : Spots S (.slice a1 L1.length cap1) L1) (hv2 : Spots S (.slice a2 L2.length cap2) L2) : CC Tryz.prog KK 7 [aggL [.string n1, .slice a1 L1.length cap1], aggL [.string n2, .slice a2 L2.length cap2]] S (fun v S' => Keep S S' ∧ (∃ w, v = tupV [w, .int .i64 (mergeR n1 n2 L1 L2).1] ∧ SrcAt S' w (mergeR n1 n2 L1 L2).2.1 (mergeR n1 n2 L1 L2).2.2)) := by
  refine cc_enter (c := c7) (n := 107) Tryz.func7 rfl rfl rfl (by kernel_rfl) rfl rfl ?_
  have hl := Hold.start S
  refine xp_seq rfl ?_
  refine xp_region rfl (by kernel_rfl) ?_
  refine re_boxL hl rfl rfl rfl rfl rfl rfl ?_; intro B2 S2 hl
  refine re_boxL hl rfl rfl rfl rfl rfl rfl ?_; intro B3 S3 hl
  refine re_allocL hl rfl rfl rfl rfl rfl (z := [.string noName, .slice none 0 0]) (by kernel_rfl) ?_; intro B4 S4 hl
  refine re_rd rfl rfl rfl rfl (rd_assign rfl rfl) ?_
  refine re_end rfl ?_
  refine xp_seq rfl ?_
  refine xp_seq rfl ?_
  refine xp_region rfl (by kernel_rfl) ?_
  refine re_rd rfl rfl rfl rfl (rd_load rfl rfl (loadN_of (z := 2) (by kernel_rfl) (by kernel_rfl) (hl.get 2 rfl) rfl)) ?_
  refine re_callL hl rfl rfl rfl rfl rfl rfl rfl (spec21 n1 a1 cap1 L1 hn1 (fun x hx => Nat.le_trans (hs1 x hx) (by omega)) (hG.keep hl.keep) (hv1.move (hl.since 0 rfl))) ?_; rintro v S1 hk1 rfl hl
  refine re_rd rfl rfl rfl rfl (rd_move rfl rfl) ?_
  refine re_rd rfl rfl rfl rfl (rd_extract rfl rfl rfl) ?_
  refine re_rd rfl rfl rfl rfl (rd_extract rfl rfl rfl) ?_
  refine re_rd rfl rfl rfl rfl (rd_assign rfl rfl) ?_
  refine re_rd rfl rfl rfl rfl (rd_assign rfl rfl) ?_
  refine re_end rfl ?_
  refine xp_seq rfl ?_
  refine xp_region rfl (by kernel_rfl) ?_
  refine re_rd rfl rfl rfl rfl (rd_move rfl rfl) ?_
  refine re_rd rfl rfl rfl rfl (rd_bin rfl rfl rfl rfl) ?_
  refine re_end rfl ?_
  refine xp_cond rfl rfl (fun h23 => ?_) (fun h23 => ?_)
  ·
    refine xp_seq rfl ?_
    refine xp_region rfl (by kernel_rfl) ?_
    refine re_rd rfl rfl rfl rfl (rd_build rfl rfl (v := aggL [.string noName, .slice none 0 0]) (by rfl)) ?_
    refine re_rd rfl rfl rfl rfl (rd_move rfl rfl) ?_
    refine re_storeL hl 0 rfl rfl rfl rfl rfl rfl rfl (by kernel_rfl) rfl ?_; intro S1 hl
    refine re_rd rfl rfl rfl rfl (rd_assign rfl rfl) ?_
    refine re_end rfl ?_
    refine xp_ret rfl ?_
    refine thn_ret (done_ret (ress_cell rfl (loadN_of (z := 2) (by kernel_rfl) (by kernel_rfl) (hl.get 0 rfl) rfl) (ress_tmp rfl rfl)) ⟨hl.keep, mres (mergeR_1 h23) (src_none _)⟩)
  ·
    refine xp_skip rfl ?_
    refine xp_seq rfl ?_
    refine xp_seq rfl ?_
    refine xp_region rfl (by kernel_rfl) ?_
    refine re_rd rfl rfl rfl rfl (rd_load rfl rfl (loadN_of (z := 2) (by kernel_rfl) (by kernel_rfl) (hl.get 1 rfl) rfl)) ?_
    refine re_callL hl rfl rfl rfl rfl rfl rfl rfl (spec21 n2 a2 cap2 L2 hn2 (fun x hx => Nat.le_trans (hs2 x hx) (by omega)) (hG.keep hl.keep) (hv2.move (hl.since 0 rfl))) ?_; rintro v S1 hk1 rfl hl
    refine re_rd rfl rfl rfl rfl (rd_move rfl rfl) ?_
    refine re_rd rfl rfl rfl rfl (rd_extract rfl rfl rfl) ?_
    refine re_rd rfl rfl rfl rfl (rd_extract rfl rfl rfl) ?_
    refine re_rd rfl rfl rfl rfl (rd_assign rfl rfl) ?_
    refine re_rd rfl rfl rfl rfl (rd_assign rfl rfl) ?_
    refine re_end rfl ?_
    refine xp_seq rfl ?_
    refine xp_region rfl (by kernel_rfl) ?_
    refine re_rd rfl rfl rfl rfl (rd_move rfl rfl) ?_
    refine re_rd rfl rfl rfl rfl (rd_bin rfl rfl rfl rfl) ?_
    refine re_end rfl ?_
    refine xp_cond rfl rfl (fun h32 => ?_) (fun h32 => ?_)
    ·
      refine xp_seq rfl ?_
      refine xp_region rfl (by kernel_rfl) ?_
      refine re_rd rfl rfl rfl rfl (rd_build rfl rfl (v := aggL [.string noName, .slice none 0 0]) (by rfl)) ?_
      refine re_rd rfl rfl rfl rfl (rd_move rfl rfl) ?_
      refine re_storeL hl 0 rfl rfl rfl rfl rfl rfl rfl (by kernel_rfl) rfl ?_; intro S1 hl
      refine re_rd rfl rfl rfl rfl (rd_assign rfl rfl) ?_
      refine re_end rfl ?_
      refine xp_ret rfl ?_
      refine thn_ret (done_ret (ress_cell rfl (loadN_of (z := 2) (by kernel_rfl) (by kernel_rfl) (hl.get 0 rfl) rfl) (ress_tmp rfl rfl)) ⟨hl.keep, mres (mergeR_2 h23 h32) (src_none _)⟩)
    ·
      refine xp_skip rfl ?_
      refine xp_seq rfl ?_
      refine xp_seq rfl (xe_toL hl [(48, .bool (difB n1.data.toList n2.data.toList L1 L2)), (4, ptrTo B4 0), (3, ptrTo B3 0), (2, ptrTo B2 0)] ?_ ?_)
      ·
        refine xp_region rfl (by kernel_rfl) ?_
        refine re_rd rfl rfl rfl rfl (rd_fieldAddr rfl rfl (fieldAddr_at Tryz.underlying24 rfl (by kernel_rfl))) ?_
        refine re_rd rfl rfl rfl rfl (rd_load rfl rfl (load1_of (by kernel_rfl) (hl.get 2 rfl) rfl)) ?_
        refine re_rd rfl rfl rfl rfl (rd_fieldAddr rfl rfl (fieldAddr_at Tryz.underlying24 rfl (by kernel_rfl))) ?_
        refine re_rd rfl rfl rfl rfl (rd_load rfl rfl (load1_of (by kernel_rfl) (hl.get 1 rfl) rfl)) ?_
        refine re_rd rfl rfl rfl rfl (rd_bin rfl rfl rfl rfl) ?_
        refine re_rd rfl rfl rfl rfl (rd_move rfl rfl) ?_
        refine re_bool (d := 40) rfl (fun h40 => ?_) (fun h40 => ?_)
        ·
          refine re_pass rfl rfl rfl rfl ?_
          refine re_pass rfl rfl rfl rfl ?_
          refine re_pass rfl rfl rfl rfl ?_
          refine re_pass rfl rfl rfl rfl ?_
          refine re_pass rfl rfl rfl rfl ?_
          refine re_pass rfl rfl rfl rfl ?_
          refine re_pass rfl rfl rfl rfl ?_
          refine re_rd rfl rfl rfl rfl (rd_pick_t rfl rfl rfl) ?_
          refine re_end rfl ?_
          exact ⟨rfl, ⟨bl (by unfold difB; simp only [h40, BLs]), rfl, rfl, rfl, trivial⟩, hl⟩
        ·
          refine re_rd rfl rfl rfl rfl (rd_fieldAddr rfl rfl (fieldAddr_at Tryz.underlying24 rfl (by kernel_rfl))) ?_
          refine re_rd rfl rfl rfl rfl (rd_load rfl rfl (load1_of (by kernel_rfl) (hl.get 2 rfl) rfl)) ?_
          refine re_rd rfl rfl rfl rfl (rd_len rfl rfl (len_slice Tryz.underlying22)) ?_
          refine re_rd rfl rfl rfl rfl (rd_fieldAddr rfl rfl (fieldAddr_at Tryz.underlying24 rfl (by kernel_rfl))) ?_
          refine re_rd rfl rfl rfl rfl (rd_load rfl rfl (load1_of (by kernel_rfl) (hl.get 1 rfl) rfl)) ?_
          refine re_rd rfl rfl rfl rfl (rd_len rfl rfl (len_slice Tryz.underlying22)) ?_
          refine re_rd rfl rfl rfl rfl (rd_bin rfl rfl rfl rfl) ?_
          refine re_rd rfl rfl rfl rfl (rd_pick_f rfl rfl rfl) ?_
          refine re_end rfl ?_
          exact ⟨rfl, ⟨bl (by unfold difB; simp only [h40, BLs]), rfl, rfl, rfl, trivial⟩, hl⟩
      intro S1 hl
      refine xp_cond rfl rfl (fun h48 => ?_) (fun h48 => ?_)
      ·
        refine xp_seq rfl ?_
        refine xp_region rfl (by kernel_rfl) ?_
        refine re_rd rfl rfl rfl rfl (rd_build rfl rfl (v := aggL [.string noName, .slice none 0 0]) (by rfl)) ?_
        refine re_storeL hl 0 rfl rfl rfl rfl rfl rfl rfl (by kernel_rfl) rfl ?_; intro S1 hl
        refine re_rd rfl rfl rfl rfl (rd_assign rfl rfl) ?_
        refine re_end rfl ?_
        refine xp_ret rfl ?_
        refine thn_ret (done_ret (ress_cell rfl (loadN_of (z := 2) (by kernel_rfl) (by kernel_rfl) (hl.get 0 rfl) rfl) (ress_tmp rfl rfl)) ⟨hl.keep, mres (mergeR_3 h23 h32 h48) (src_none _)⟩)
      ·
        refine xp_skip rfl ?_
        refine xp_seq rfl ?_
        refine xp_region rfl (by kernel_rfl) ?_
        refine re_rd rfl rfl rfl rfl (rd_fieldAddr rfl rfl (fieldAddr_at Tryz.underlying24 rfl (by kernel_rfl))) ?_
        refine re_rd rfl rfl rfl rfl (rd_load rfl rfl (load1_of (by kernel_rfl) (hl.get 2 rfl) rfl)) ?_
        refine re_rd rfl rfl rfl rfl (rd_build rfl rfl (v := aggL [.string n1, .slice none 0 0]) (by rfl)) ?_
        refine re_allocL hl rfl rfl rfl rfl rfl (z := [.string noName, .slice none 0 0]) (by kernel_rfl) ?_; intro B10 S10 hl
        refine re_storeL hl 0 rfl rfl rfl rfl rfl rfl rfl (by kernel_rfl) rfl ?_; intro S1 hl
        refine re_end rfl ?_
        refine xp_seq rfl ?_
        refine xp_seq rfl ?_
        refine xp_region rfl (by kernel_rfl) ?_
        refine re_rd rfl rfl rfl rfl (rd_fieldAddr rfl rfl (fieldAddr_at Tryz.underlying24 rfl (by kernel_rfl))) ?_
        refine re_rd rfl rfl rfl rfl (rd_load rfl rfl (load1_of (by kernel_rfl) (hl.get 3 rfl) rfl)) ?_
        refine re_rd rfl rfl rfl rfl (rd_len rfl rfl (len_slice Tryz.underlying22)) ?_
        refine re_rd rfl rfl rfl rfl (rd_move rfl rfl) ?_
        refine re_end rfl ?_
        refine xp_block rfl ?_
        -- LOOP
        have hlen : L1.length = L2.length := by
          unfold difB at h48; simp at h48; omega
        refine xe_sub (L' := [(56, .int .i64 0), (55, .int .i64 L1.length), (54, .slice a1 L1.length cap1), (10, ptrTo B10 0), (4, ptrTo B4 0), (3, ptrTo B3 0), (2, ptrTo B2 0)]) ⟨rfl, rfl, rfl, rfl, rfl, rfl, rfl, trivial⟩ ?_
        have hl := hl.addG (g := ⟨.slice none 0 0, 34, 2, [], 0⟩) (.inl ⟨rfl, rfl, rfl⟩)
        refine xp_loop rfl (fun m Le S' => ∃ (i : Nat) (D : List (List Value)) (out : List Spt) (av : Option Addr), i ≤ L1.length ∧ m = L1.length - i ∧ SubE [(56, .int .i64 (i : Int)), (55, .int .i64 L1.length), (54, .slice a1 L1.length cap1), (10, ptrTo B10 0), (4, ptrTo B4 0), (3, ptrTo B3 0), (2, ptrTo B2 0)] Le ∧ mergeG out (L1.drop i) (L2.drop i) = mergeG [] L1 L2 ∧ D.length = i ∧ PtsAt S' D out ∧ HoldG S [S] S' [(B10, .cells [.string n1, .slice av D.length D.length] 24 false true []), (B4, .cells [.string noName, .slice none 0 0] 24 false true []), (B3, .cells [.string n2, .slice a2 L2.length cap2] 24 false true []), (B2, .cells [.string n1, .slice a1 L1.length cap1] 24 false true [])] [⟨.slice av D.length D.length, 34, 2, D.flatten, D.length⟩]) ?_ (m := L1.length) ⟨0, [], [], none, by omega, rfl, ⟨rfl, rfl, rfl, rfl, rfl, rfl, rfl, trivial⟩, rfl, rfl, ⟨rfl, fun d hd => (List.not_mem_nil hd).elim, fun k x h => by cases k <;> cases h⟩, hl⟩
        clear hl; rintro m Le Sh ⟨i, D, out, av, hi, rfl, hsub, hpr, hDi, hpts, hl⟩; refine xe_sub hsub ?_
        have hl := hl.mark
        refine xp_seq rfl ?_
        refine xp_region rfl (by kernel_rfl) ?_
        refine re_rd rfl rfl rfl rfl (rd_bin rfl rfl rfl rfl) ?_
        refine re_end rfl ?_
        refine xp_seq rfl ?_
        refine xp_cond rfl rfl (fun h57 => ?_) (fun h57 => ?_)
        ·
          have hlt : i < L1.length := by have := of_decide_eq_true h57; omega
          obtain ⟨x, hx⟩ := nth_some hlt
          obtain ⟨y, hy⟩ := nth_some (hlen ▸ hlt)
          obtain ⟨bx, ox, csx, ax, capx, hax, hrowx, htkx, hsgx⟩ := hv1.elem hx
          obtain ⟨by_, oy, csy, ay, capy, hay, hrowy, htky, hsgy⟩ := hv2.elem hy
          have hxs : x.signs.length ≤ 400 := hs1 x (nth_mem hx)
          have hys : y.signs.length ≤ 400 := hs2 y (nth_mem hy)
          refine xp_skip rfl ?_
          refine xp_seq rfl ?_
          refine xp_block rfl ?_
          refine xp_seq rfl ?_
          refine xp_region rfl (by kernel_rfl) ?_
          refine re_rd rfl rfl rfl rfl (rd_move rfl rfl) ?_
          refine re_rd rfl rfl rfl rfl (rd_indexAddr rfl rfl rfl (indexAddr_sl (z := 2) hax Tryz.underlying22 (by kernel_rfl) ⟨by omega, by omega⟩)) ?_
          refine re_rd rfl rfl rfl rfl (rd_load rfl rfl (loadN_row (z := 2) (by kernel_rfl) (by kernel_rfl) (row_move (hl.since 1 rfl) hrowx) htkx)) ?_
          refine re_allocL hl rfl rfl rfl rfl rfl (z := [.slice none 0 0, .bool false]) (by kernel_rfl) ?_; intro B12 S12 hl
          refine re_rd rfl rfl rfl rfl (rd_assign rfl rfl) ?_
          refine re_storeL hl 0 rfl rfl rfl rfl rfl rfl rfl (by kernel_rfl) rfl ?_; intro S1 hl
          refine re_end rfl ?_
          refine xp_seq rfl ?_
          refine xp_region rfl (by kernel_rfl) ?_
          refine re_rd rfl rfl rfl rfl (rd_fieldAddr rfl rfl (fieldAddr_at Tryz.underlying24 rfl (by kernel_rfl))) ?_
          refine re_rd rfl rfl rfl rfl (rd_load rfl rfl (load1_of (by kernel_rfl) (hl.get 3 rfl) rfl)) ?_
          refine re_rd rfl rfl rfl rfl (rd_move rfl rfl) ?_
          refine re_rd rfl rfl rfl rfl (rd_indexAddr rfl rfl rfl (indexAddr_sl (z := 2) hay Tryz.underlying22 (by kernel_rfl) ⟨by omega, by omega⟩)) ?_
          refine re_rd rfl rfl rfl rfl (rd_load rfl rfl (loadN_row (z := 2) (by kernel_rfl) (by kernel_rfl) (row_move (hl.since 1 rfl) hrowy) htky)) ?_
          refine re_allocL hl rfl rfl rfl rfl rfl (z := [.slice none 0 0, .bool false]) (by kernel_rfl) ?_; intro B13 S13 hl
          refine re_storeL hl 0 rfl rfl rfl rfl rfl rfl rfl (by kernel_rfl) rfl ?_; intro S1 hl
          refine re_end rfl ?_
          refine xp_seq rfl (xe_cut (fun Le S' => ∃ (B14 : Nat) (az : Option Addr), SubE [(14, ptrTo B14 0), (13, ptrTo B13 0), (12, ptrTo B12 0), (56, .int .i64 (i : Int)), (55, .int .i64 L1.length), (54, .slice a1 L1.length cap1), (10, ptrTo B10 0), (4, ptrTo B4 0), (3, ptrTo B3 0), (2, ptrTo B2 0)] Le ∧ HoldG S [Sh, S] S' [(B14, .cells [.slice az x.signs.length x.signs.length, .bool (x.blank || y.blank)] 34 false true []), (B13, .cells [.slice ay y.signs.length capy, .bool y.blank] 34 false true []), (B12, .cells [.slice ax x.signs.length capx, .bool x.blank] 34 false true []), (B10, .cells [.string n1, .slice av D.length D.length] 24 false true []), (B4, .cells [.string noName, .slice none 0 0] 24 false true []), (B3, .cells [.string n2, .slice a2 L2.length cap2] 24 false true []), (B2, .cells [.string n1, .slice a1 L1.length cap1] 24 false true [])] [⟨.slice az x.signs.length x.signs.length, 50, 17, ((x.signs).map Sg.cells).flatten, x.signs.length⟩, ⟨.slice av D.length D.length, 34, 2, D.flatten, D.length⟩]) ?_ ?_)
          ·
            refine xp_draw (idx := [0, 1, 3, 4, 10, 2, 5, 6, 7, 8, 9, 11]) rfl (by kernel_rfl) (by kernel_rfl) ?_
            refine rp_rd rfl rfl rfl rfl rfl (rd_fieldAddr rfl rfl (fieldAddr_at Tryz.underlying34 rfl (by kernel_rfl))) ?_
            refine rp_lk rfl rfl rfl rfl rfl (rd_load rfl rfl (load1_of (by kernel_rfl) (hl.get 1 rfl) rfl)) ?_
            refine rp_rd rfl rfl rfl rfl rfl (rd_fieldAddr rfl rfl (fieldAddr_at Tryz.underlying34 rfl (by kernel_rfl))) ?_
            refine rp_lk rfl rfl rfl rfl rfl (rd_load rfl rfl (load1_of (by kernel_rfl) (hl.get 1 rfl) rfl)) ?_
            refine rp_allocL hF hl rfl rfl rfl rfl rfl (z := [.slice none 0 0, .bool false]) (by kernel_rfl) ?_; intro B14 S14 hl
            have hle := hl.keep.1
            refine rp_callL hl rfl rfl rfl rfl rfl rfl rfl (spec22 ax capx x.signs (by omega) (hsgx.move (hl.since 1 rfl))) ?_; rintro v S1 hk1 hgz hl; refine ⟨⟨stays_new rfl (hl.get 0 rfl) (sameL_atoms _ _ (by decide) (atoms_cons (atom_slice _ _ _) (atoms_cons (atom_bool _) atoms_nil))), stays_load rfl rfl (load1_of (by kernel_rfl) (hl.get 2 rfl) rfl) (same_atom (atom_bool _)) rfl, stays_no (by kernel_rfl), trivial⟩, ?_⟩
            obtain ⟨az, rfl⟩ : ∃ az, v = .slice az x.signs.length x.signs.length := Grow.is hgz
            have hl := hl.addG (Grow.base hgz hle)
            refine rp_rd rfl rfl rfl rfl rfl (rd_move rfl rfl) ?_
            refine rp_bool (d := 71) rfl (fun h71 => ?_) (fun h71 => ?_)
            ·
              refine rp_pass rfl rfl rfl rfl ?_
              refine rp_pass rfl rfl rfl rfl ?_
              refine rp_rd rfl rfl rfl rfl rfl (rd_pick_t rfl rfl rfl) ?_
              refine rp_rd rfl rfl rfl rfl rfl (rd_build rfl rfl (v := aggL [.slice az x.signs.length x.signs.length, .bool true]) (by rfl)) ?_
              refine rp_storeL hl 0 rfl rfl rfl rfl rfl rfl rfl (by kernel_rfl) rfl ?_; intro S1 hl; refine ⟨stays_all (by kernel_rfl), ?_⟩
              refine rp_end rfl ⟨rfl, B14, az, ⟨rfl, rfl, rfl, rfl, rfl, rfl, rfl, rfl, rfl, rfl, trivial⟩, ?_⟩
              rw [show (x.blank || y.blank) = true by rw [h71]; rfl]
              exact hl
            ·
              refine rp_rd rfl rfl rfl rfl rfl (rd_fieldAddr rfl rfl (fieldAddr_at Tryz.underlying34 rfl (by kernel_rfl))) ?_
              refine rp_lk rfl rfl rfl rfl rfl (rd_load rfl rfl (load1_of (by kernel_rfl) (hl.get 1 rfl) rfl)) ?_
              refine rp_rd rfl rfl rfl rfl rfl (rd_pick_f rfl rfl rfl) ?_
              refine rp_rd rfl rfl rfl rfl rfl (rd_build rfl rfl (v := aggL [.slice az x.signs.length x.signs.length, .bool y.blank]) (by rfl)) ?_
              refine rp_storeL hl 0 rfl rfl rfl rfl rfl rfl rfl (by kernel_rfl) rfl ?_; intro S1 hl; refine ⟨stays_all (by kernel_rfl), ?_⟩
              refine rp_end rfl ⟨rfl, B14, az, ⟨rfl, rfl, rfl, rfl, rfl, rfl, rfl, rfl, rfl, rfl, trivial⟩, ?_⟩
              rw [show (x.blank || y.blank) = y.blank by rw [h71]; rfl]
              exact hl
          clear hl; rintro Le2 S1 ⟨B14, az0, hsub14, hl⟩; refine xe_sub hsub14 ?_
          refine xp_seq rfl ?_
          refine xp_seq rfl ?_
          refine xp_region rfl (by kernel_rfl) ?_
          refine re_rd rfl rfl rfl rfl (rd_fieldAddr rfl rfl (fieldAddr_at Tryz.underlying34 rfl (by kernel_rfl))) ?_
          refine re_rd rfl rfl rfl rfl (rd_load rfl rfl (load1_of (by kernel_rfl) (hl.get 1 rfl) rfl)) ?_
          refine re_rd rfl rfl rfl rfl (rd_len rfl rfl (len_slice Tryz.underlying32)) ?_
          refine re_rd rfl rfl rfl rfl (rd_move rfl rfl) ?_
          refine re_end rfl ?_
          refine xp_block rfl ?_
          -- LOOP
          refine xe_sub (L' := [(79, .int .i64 0), (78, .int .i64 y.signs.length), (77, .slice ay y.signs.length capy), (14, ptrTo B14 0), (13, ptrTo B13 0), (12, ptrTo B12 0), (56, .int .i64 (i : Int)), (55, .int .i64 L1.length), (54, .slice a1 L1.length cap1), (10, ptrTo B10 0), (4, ptrTo B4 0), (3, ptrTo B3 0), (2, ptrTo B2 0)]) ⟨rfl, rfl, rfl, rfl, rfl, rfl, rfl, rfl, rfl, rfl, rfl, rfl, rfl, trivial⟩ ?_
          refine xp_loop rfl (fun m Le S' => ∃ (k : Nat) (C : List Sg) (az : Option Addr), k ≤ y.signs.length ∧ m = y.signs.length - k ∧ SubE [(79, .int .i64 (k : Int)), (78, .int .i64 y.signs.length), (77, .slice ay y.signs.length capy), (14, ptrTo B14 0), (13, ptrTo B13 0), (12, ptrTo B12 0), (56, .int .i64 (i : Int)), (55, .int .i64 L1.length), (54, .slice a1 L1.length cap1), (10, ptrTo B10 0), (4, ptrTo B4 0), (3, ptrTo B3 0), (2, ptrTo B2 0)] Le ∧ addS C (y.signs.drop k) = addS x.signs y.signs ∧ C.length ≤ x.signs.length + k ∧ HoldG S [Sh, S] S' [(B14, .cells [.slice az C.length C.length, .bool (x.blank || y.blank)] 34 false true []), (B13, .cells [.slice ay y.signs.length capy, .bool y.blank] 34 false true []), (B12, .cells [.slice ax x.signs.length capx, .bool x.blank] 34 false true []), (B10, .cells [.string n1, .slice av D.length D.length] 24 false true []), (B4, .cells [.string noName, .slice none 0 0] 24 false true []), (B3, .cells [.string n2, .slice a2 L2.length cap2] 24 false true []), (B2, .cells [.string n1, .slice a1 L1.length cap1] 24 false true [])] [⟨.slice az C.length C.length, 50, 17, ((C).map Sg.cells).flatten, C.length⟩, ⟨.slice av D.length D.length, 34, 2, D.flatten, D.length⟩]) ?_ (m := y.signs.length) ⟨0, x.signs, az0, by omega, rfl, ⟨rfl, rfl, rfl, rfl, rfl, rfl, rfl, rfl, rfl, rfl, rfl, rfl, rfl, trivial⟩, rfl, by omega, hl⟩
          clear hl; rintro m Le S' ⟨k, C, az, hk, rfl, hsub2, hin, hCl, hl⟩; refine xe_sub hsub2 ?_
          refine xp_seq rfl ?_
          refine xp_region rfl (by kernel_rfl) ?_
          refine re_rd rfl rfl rfl rfl (rd_bin rfl rfl rfl rfl) ?_
          refine re_end rfl ?_
          refine xp_seq rfl ?_
          refine xp_cond rfl rfl (fun h80 => ?_) (fun h80 => ?_)
          ·
            have hlt2 : k < y.signs.length := by have := of_decide_eq_true h80; omega
            obtain ⟨s, hs⟩ := nth_some hlt2
            obtain ⟨b4, o4, cs4, ha4, _, hrow4, htk4⟩ := hsgy.elem hs
            refine xp_skip rfl ?_
            refine xp_seq rfl ?_
            refine xp_block rfl ?_
            refine xp_seq rfl ?_
            refine xp_region rfl (by kernel_rfl) ?_
            refine re_rd rfl rfl rfl rfl (rd_indexAddr rfl rfl rfl (indexAddr_sl (z := 17) ha4 Tryz.underlying32 (by kernel_rfl) ⟨by omega, by omega⟩)) ?_
            refine re_rd rfl rfl rfl rfl (rd_load rfl rfl (loadN_row (z := 17) (by kernel_rfl) (by kernel_rfl) (row_move (hl.since 1 rfl) hrow4) htk4)) ?_
            refine re_allocL hl rfl rfl rfl rfl rfl (z := [.int .i64 0, .int .i64 0, .int .i64 0, .int .i64 0, .bool false, .int .i64 0, .bool false, .bool false, .int .i64 0, .int .i64 0, .int .i64 0, .int .i64 0, .bool false, .int .i64 0, .int .i64 0, .int .i64 0, .int .i64 0]) (by kernel_rfl) ?_; intro B16 S16 hl
            refine re_storeL hl 0 rfl rfl rfl rfl rfl rfl rfl (by kernel_rfl) rfl ?_; intro S1 hl
            refine re_end rfl ?_
            refine xp_seq rfl ?_
            refine xp_region rfl (by kernel_rfl) ?_
            refine re_rd rfl rfl rfl rfl (rd_fieldAddr rfl rfl (fieldAddr_at Tryz.underlying34 rfl (by kernel_rfl))) ?_
            refine re_rd rfl rfl rfl rfl (rd_load rfl rfl (load1_of (by kernel_rfl) (hl.get 1 rfl) rfl)) ?_
            refine re_rd rfl rfl rfl rfl (rd_load rfl rfl (loadN_of (z := 17) (by kernel_rfl) (by kernel_rfl) (hl.get 0 rfl) rfl)) ?_
            refine re_callL hl rfl rfl rfl rfl rfl rfl rfl (spec23 az C.length C s (by omega) (GrowS.signs (hl.gr _ (List.mem_cons_self ..)))) ?_; rintro v S1 hk1 rfl hl
            refine re_rd rfl rfl rfl rfl (rd_un rfl rfl rfl) ?_
            refine re_end rfl ?_
            refine xp_cond rfl rfl (fun h87 => ?_) (fun h87 => ?_)
            ·
              refine xp_region rfl (by kernel_rfl) ?_
              refine re_rd rfl rfl rfl rfl (rd_fieldAddr rfl rfl (fieldAddr_at Tryz.underlying34 rfl (by kernel_rfl))) ?_
              refine re_rd rfl rfl rfl rfl (rd_load rfl rfl (load1_of (by kernel_rfl) (hl.get 1 rfl) rfl)) ?_
              refine re_rd rfl rfl rfl rfl (rd_load rfl rfl (loadN_of (z := 17) (by kernel_rfl) (by kernel_rfl) (hl.get 0 rfl) rfl)) ?_
              refine re_buildSliceR hl rfl rfl rfl rfl rfl Tryz.underlying32 rfl (c := s.cells) (by kernel_rfl) ?_; intro B91 S1 hr91 hl
              refine re_appendG hl 0 rfl rfl (by simp) rfl rfl rfl rfl rfl rfl rfl Tryz.underlying32 Tryz.underlying32 rfl rfl (by kernel_rfl) (src_row (new := s.cells) hr91 rfl) rfl rfl (by kernel_rfl) (by show C.length + 1 ≤ maxNeed; unfold maxNeed; omega) ?_; intro v92 S1 hl
              obtain ⟨az2, rfl⟩ : ∃ az2, v92 = .slice az2 (C.length + 1) (C.length + 1) := Grow.is (hl.gr _ (List.mem_cons_self ..))
              refine re_rd rfl rfl rfl rfl (rd_fieldAddr rfl rfl (fieldAddr_at Tryz.underlying34 rfl (by kernel_rfl))) ?_
              refine re_storeL hl 1 rfl rfl rfl rfl rfl rfl rfl (by kernel_rfl) rfl ?_; intro S1 hl
              refine re_end rfl ?_
              refine xp_region rfl (by kernel_rfl) ?_
              refine re_rd rfl rfl rfl rfl (rd_bin rfl rfl rfl rfl) ?_
              refine re_rd rfl rfl rfl rfl (rd_move rfl rfl) ?_
              refine re_end rfl ?_
              refine ⟨y.signs.length - (k + 1), by omega, k + 1, C ++ [s], az2, by omega, rfl, ⟨congrArg some (congrArg (Value.int .i64) (IntWalk.i64_in _ (by omega))), rfl, rfl, rfl, rfl, rfl, rfl, rfl, rfl, rfl, rfl, rfl, rfl, trivial⟩, ?_, by simp; omega, ?_⟩
              · rw [← addS_new (by simpa using h87), ← drop_nth' hs]; exact hin
              · rw [flat_push, List.length_append]; exact hl.tail
            ·
              refine xp_skip rfl ?_
              refine xp_region rfl (by kernel_rfl) ?_
              refine re_rd rfl rfl rfl rfl (rd_bin rfl rfl rfl rfl) ?_
              refine re_rd rfl rfl rfl rfl (rd_move rfl rfl) ?_
              refine re_end rfl ?_
              refine ⟨y.signs.length - (k + 1), by omega, k + 1, C, az, by omega, rfl, ⟨congrArg some (congrArg (Value.int .i64) (IntWalk.i64_in _ (by omega))), rfl, rfl, rfl, rfl, rfl, rfl, rfl, rfl, rfl, rfl, rfl, rfl, trivial⟩, ?_, by omega, ?_⟩
              · rw [← addS_old (by simpa using h87), ← drop_nth' hs]; exact hin
              · exact hl.tail
          ·
            refine xp_exit rfl ?_
            refine xp_seq rfl ?_
            refine xp_seq rfl ?_
            refine xp_region rfl (by kernel_rfl) ?_
            refine re_rd rfl rfl rfl rfl (rd_load rfl rfl (loadN_of (z := 2) (by kernel_rfl) (by kernel_rfl) (hl.get 0 rfl) rfl)) ?_
            have hC : C = addS x.signs y.signs := by
              rw [← hin, List.drop_eq_nil_of_le (by have := of_decide_eq_false h80; omega)]; rfl
            refine re_callL hl rfl rfl rfl rfl rfl rfl rfl (spec24 az C.length C.length (x.blank || y.blank) (by omega)) ?_; rintro v S1 hk1 rfl hl
            refine re_rd rfl rfl rfl rfl (rd_bin rfl rfl rfl rfl) ?_
            refine re_end rfl ?_
            refine xp_cond rfl rfl (fun h97 => ?_) (fun h97 => ?_)
            ·
              refine xp_seq rfl ?_
              refine xp_region rfl (by kernel_rfl) ?_
              refine re_rd rfl rfl rfl rfl (rd_build rfl rfl (v := aggL [.string noName, .slice none 0 0]) (by rfl)) ?_
              refine re_storeL hl 4 rfl rfl rfl rfl rfl rfl rfl (by kernel_rfl) rfl ?_; intro S1 hl
              refine re_rd rfl rfl rfl rfl (rd_assign rfl rfl) ?_
              refine re_end rfl ?_
              refine xp_ret rfl ?_
              refine thn_ret (blk_ret (thn_ret (round_ret (blk_ret (thn_ret (done_ret (ress_cell rfl (loadN_of (z := 2) (by kernel_rfl) (by kernel_rfl) (hl.get 4 rfl) rfl) (ress_tmp rfl rfl)) ⟨hl.keep, mres (mergeR_4 h23 h32 h48 (by rw [← hpr, drop_nth' hx, drop_nth' hy]; exact mergeG_no (by unfold sizeF merge2; rw [← hC]; exact h97))) (src_none _)⟩))))))
            ·
              refine xp_skip rfl ?_
              refine xp_region rfl (by kernel_rfl) ?_
              refine re_rd rfl rfl rfl rfl (rd_fieldAddr rfl rfl (fieldAddr_at Tryz.underlying24 rfl (by kernel_rfl))) ?_
              refine re_rd rfl rfl rfl rfl (rd_load rfl rfl (load1_of (by kernel_rfl) (hl.get 3 rfl) rfl)) ?_
              refine re_rd rfl rfl rfl rfl (rd_load rfl rfl (loadN_of (z := 2) (by kernel_rfl) (by kernel_rfl) (hl.get 0 rfl) rfl)) ?_
              refine re_buildSliceR hl rfl rfl rfl rfl rfl Tryz.underlying22 rfl (c := [.slice az C.length C.length, .bool (x.blank || y.blank)]) (by kernel_rfl) ?_; intro B102 S1 hr102 hl
              refine re_appendG hl 1 rfl rfl (by simp) rfl rfl rfl rfl rfl rfl rfl Tryz.underlying22 Tryz.underlying22 rfl rfl (by kernel_rfl) (src_row (new := [.slice az C.length C.length, .bool (x.blank || y.blank)]) hr102 rfl) rfl rfl (by kernel_rfl) (by show D.length + 1 ≤ maxNeed; unfold maxNeed; omega) ?_; intro v103 S1 hl
              obtain ⟨av2, rfl⟩ : ∃ av2, v103 = .slice av2 (D.length + 1) (D.length + 1) := Grow.is (hl.gr _ (List.mem_cons_of_mem _ (List.mem_cons_self ..)))
              refine re_rd rfl rfl rfl rfl (rd_fieldAddr rfl rfl (fieldAddr_at Tryz.underlying24 rfl (by kernel_rfl))) ?_
              refine re_storeL hl 3 rfl rfl rfl rfl rfl rfl rfl (by kernel_rfl) rfl ?_; intro S1 hl
              refine re_end rfl ?_
              refine xp_region rfl (by kernel_rfl) ?_
              refine re_rd rfl rfl rfl rfl (rd_bin rfl rfl rfl rfl) ?_
              refine re_rd rfl rfl rfl rfl (rd_move rfl rfl) ?_
              refine re_end rfl ?_
              have h97' : decide (sizeF (merge2 x y) > 4) = false := by unfold sizeF merge2; rw [← hC]; exact h97
              have hsc : SpotC _ (merge2 x y) [.slice az C.length C.length, .bool (x.blank || y.blank)] := ⟨.slice az C.length C.length, rfl, by unfold merge2; rw [← hC]; exact GrowS.signs (hl.gr _ (List.mem_cons_self ..))⟩
              refine ⟨L1.length - (i + 1), by omega, i + 1, D ++ [[.slice az C.length C.length, .bool (x.blank || y.blank)]], out ++ [merge2 x y], av2, by omega, rfl, ⟨congrArg some (congrArg (Value.int .i64) (IntWalk.i64_in _ (by omega))), rfl, rfl, rfl, rfl, rfl, rfl, trivial⟩, ?_, by rw [List.length_append, hDi]; rfl, (hpts.move (hl.since 0 rfl)).push hsc, ?_⟩
              · rw [← mergeG_step h97', ← drop_nth' hx, ← drop_nth' hy]; exact hpr
              · have hl2 := HoldG.shrink hl (l' := _) (Us := [S]) (gs' := _) (List.sublist_append_right [_, _, _] _) (fun g hg => List.mem_cons_of_mem _ hg) (fun T hT => List.mem_cons_of_mem _ hT)
                rw [List.flatten_append, List.length_append]
                exact hl2
        ·
          refine xp_exit rfl ?_
          refine xp_seq rfl ?_
          refine xp_region rfl (by kernel_rfl) ?_
          refine re_rd rfl rfl rfl rfl (rd_load rfl rfl (loadN_of (z := 2) (by kernel_rfl) (by kernel_rfl) (hl.get 0 rfl) rfl)) ?_
          refine re_storeL hl 1 rfl rfl rfl rfl rfl rfl rfl (by kernel_rfl) rfl ?_; intro S1 hl
          refine re_rd rfl rfl rfl rfl (rd_assign rfl rfl) ?_
          refine re_end rfl ?_
          refine xp_ret rfl ?_
          refine done_ret (ress_cell rfl (loadN_of (z := 2) (by kernel_rfl) (by kernel_rfl) (hl.get 1 rfl) rfl) (ress_tmp rfl rfl)) ⟨hl.keep, mres (mergeR_5 (out := out) h23 h32 h48 (by rw [← hpr, List.drop_eq_nil_of_le (by have := of_decide_eq_false h57; omega)]; rfl)) ⟨_, rfl, Grow.spots (hl.gr _ (List.mem_cons_self ..)) (hpts.move (hl.since 0 rfl))⟩⟩

end Go.Proofs.YtgmmomlgklmedaaGreatDoor
