/-
  Spots; slices.Clone.
-/
import Derived.Test.YtgmmomlgklmedaaGreatDoorSm3
import Derived.Test.YtgmmomlgklmedaaGreatDoorSy1
namespace Go.Proofs.YtgmmomlgklmedaaGreatDoor
open Go.Cm Go
set_option maxRecDepth 100000
variable {S : St}
structure Spt where
  signs : List Sg
  blank : Bool
instance : DecidableEq Spt := fun a b => decidable_of_iff ((a.signs, a.blank) = (b.signs, b.blank)) ⟨fun h => by cases a; cases b; simpa using h, fun h => by rw [h]⟩
/-- the cells of a spot -/
def SpotC (S : St) (x : Spt) (c : List Value) : Prop := ∃ sv, c = [sv, .bool x.blank] ∧ Signs S sv x.signs
/-- the spots of a slice -/
def Spots (S : St) (v : Value) (L : List Spt) : Prop := ∃ C, C.length = L.length ∧ SliceAt S 34 2 v C ∧ ∀ k x, nth L k = some x → ∃ c, nth C k = some c ∧ SpotC S x c
theorem SpotC.move {S S' : St} (h : RK S S') {x : Spt} {c : List Value} (hs : SpotC S x c) : SpotC S' x c := by
  obtain ⟨sv, h1, h2⟩ := hs
  exact ⟨sv, h1, h2.move h⟩
theorem Spots.move {S S' : St} (h : RK S S') {v : Value} {L : List Spt} (hs : Spots S v L) : Spots S' v L := by
  obtain ⟨C, h1, h2, h3⟩ := hs
  exact ⟨C, h1, h2.move h, fun k x hx => by
    obtain ⟨c, k1, k2⟩ := h3 k x hx
    exact ⟨c, k1, k2.move h⟩⟩
theorem Spots.is {S : St} {v : Value} {L : List Spt} (h : Spots S v L) : ∃ a cap, v = .slice a L.length cap := by
  obtain ⟨C, h1, h2, _⟩ := h
  obtain ⟨a, cap, e⟩ := h2.is
  exact ⟨a, cap, h1 ▸ e⟩
theorem Spots.elem {S : St} {a : Option Addr} {len cap : Nat} {L : List Spt} (h : Spots S (.slice a len cap) L) {k : Nat} {x : Spt} (hk : nth L k = some x) :
    ∃ b o cs a2 cap2, a = some ⟨b, o, none⟩ ∧ RowAt S b 34 cs ∧ takeN 2 (dropN (o + k * 2) cs) = some [.slice a2 x.signs.length cap2, .bool x.blank] ∧ Signs S (.slice a2 x.signs.length cap2) x.signs := by
  obtain ⟨C, h1, h2, h3⟩ := h
  obtain ⟨c, k1, sv, rfl, k3⟩ := h3 k x hk
  obtain ⟨b, o, cs, e1, _, e3, e4⟩ := h2.elem k1
  obtain ⟨a2, cap2, rfl⟩ := k3.is
  exact ⟨b, o, cs, a2, cap2, e1, e3, e4, k3⟩
theorem Signs.front {S : St} {a : Option Addr} {len cap : Nat} {C : List Sg} (h : Signs S (.slice a len cap) C) {k : Nat} (hk : k < C.length) :
    ∃ a2 cap', sliceV Tryz.prog 32 (.slice a len cap) none (some (.int .i64 (k : Int))) none S = some (.slice a2 (C.take k).length cap') ∧ Signs S (.slice a2 (C.take k).length cap') (C.take k) := by
  obtain ⟨v, h1, ⟨cap', h2⟩, h3⟩ := SliceAt.front (P := Tryz.prog) (kk := .i64) h Tryz.underlying32 (by kernel_rfl) (by simpa using hk)
  subst h2
  have e : (C.take k).length = k := by rw [List.length_take, Nat.min_eq_left (by omega)]
  rw [e]
  exact ⟨_, _, h1, by unfold Signs; rw [List.map_take]; exact h3⟩
/-- a list of signs: what is wrong with it -/
def signsE : List Sg → List Sg → Int
  | _, [] => 0
  | pre, y :: r => bif one y != 0 then one y else bif decide (y ∈ pre) then 10 else signsE (pre ++ [y]) r
def sizeF (x : Spt) : Int := x.signs.length + bif x.blank then 1 else 0
def szB (x : Spt) : Bool := decide (sizeF x < 1) || decide (sizeF x > 4)
def spotsE : List Spt → Nat → Int × Int
  | [], _ => (0, 0)
  | x :: L, i => bif szB x then (3, i) else bif signsE [] x.signs != 0 then (signsE [] x.signs, i) else spotsE L (i + 1)
def checkF (nm : List UInt8) (L : List Spt) : Int × Int := bif !nameF nm then (7, 0) else bif decide ((L.length : Int) > 400) then (11, 0) else spotsE L 0
theorem drop_nth' {α : Type} : ∀ {l : List α} {i : Nat} {x : α}, nth l i = some x → l.drop i = x :: l.drop (i + 1)
  | [], _, _, h => by cases h
  | y :: l, 0, x, h => by cases h; rfl
  | y :: l, i + 1, x, h => by simpa using drop_nth' (l := l) (i := i) h
theorem take_nth' {α : Type} : ∀ {l : List α} {i : Nat} {x : α}, nth l i = some x → l.take (i + 1) = l.take i ++ [x]
  | [], _, _, h => by cases h
  | y :: l, 0, x, h => by cases h; rfl
  | y :: l, i + 1, x, h => by simpa using take_nth' (l := l) (i := i) h
/-- a slice of signs that has grown -/
def GrowS (S0 S : St) (v : Value) (C : List Sg) : Prop := Grow S0 S ⟨v, 50, 17, (C.map Sg.cells).flatten, C.length⟩
theorem cells17 (s : Sg) : s.cells.length = 17 := rfl
theorem flat17 : ∀ C : List Sg, ((C.map Sg.cells).flatten).length = C.length * 17
  | [] => rfl
  | x :: C => by simp only [List.map_cons, List.flatten_cons, List.length_append, flat17 C, cells17, List.length_cons, Nat.add_mul]; omega
theorem cellV_sign (s : Sg) : s.cells.all cellV = true := rfl
theorem flatCell : ∀ C : List Sg, ((C.map Sg.cells).flatten).all cellV = true
  | [] => rfl
  | x :: C => by simp only [List.map_cons, List.flatten_cons, List.all_append, flatCell C, cellV_sign, Bool.and_self]
theorem GrowS.signs {S0 S : St} {v : Value} {C : List Sg} (h : GrowS S0 S v C) : Signs S v C :=
  Grow.sliceAt (g := ⟨v, 50, 17, (C.map Sg.cells).flatten, C.length⟩) h (by simp) rfl (fun x hx => by
    obtain ⟨s, _, rfl⟩ := List.mem_map.1 hx
    rfl)
theorem clone_nil {S T : St} {a : Option Addr} {cap : Nat} {C : List Sg} (h : Signs S (.slice a C.length cap) C) (ha : a.isNone = true) : GrowS S T (tupV [.slice none 0 0]) C := by
  cases a with
  | some x => cases ha
  | none =>
    rcases h with ⟨h1, _⟩ | ⟨_, _, _, _, h1, _⟩
    · obtain rfl : C = [] := List.map_eq_nil_iff.1 h1
      exact .inl ⟨rfl, rfl, rfl⟩
    · cases h1
theorem clone_grow {S0 S : St} {v : Value} {C : List Sg} (h : Grow S0 S ⟨v, 50, 17, [] ++ (C.map Sg.cells).flatten, 0 + C.length⟩) : GrowS S0 S v C := by
  rw [List.nil_append, Nat.zero_add] at h
  exact h
noncomputable def c22 : Code := Tryz.f22.body.getD .skip
theorem spec22 (a : Option Addr) (cap : Nat) (C : List Sg) (hn : C.length ≤ 1000) (hv : Signs S (.slice a C.length cap) C) : CC Tryz.prog KK 22 [.slice a C.length cap] S (fun v S' => Keep S S' ∧ GrowS S S' v C) := by
  refine cc_enter (c := c22) (n := 8) Tryz.func22 rfl rfl rfl (by kernel_rfl) rfl rfl ?_
  have hl := Hold.start S
  refine xp_seq rfl ?_
  refine xp_region rfl (by kernel_rfl) ?_
  refine re_rd rfl rfl rfl rfl (rd_assign rfl rfl) ?_
  refine re_end rfl ?_
  refine xp_seq rfl ?_
  refine xp_seq rfl ?_
  refine xp_region rfl (by kernel_rfl) ?_
  refine re_rd rfl rfl rfl rfl (rd_move rfl rfl) ?_
  refine re_rd rfl rfl rfl rfl (rd_bin rfl rfl rfl (eq_nil Tryz.underlying32)) ?_
  refine re_end rfl ?_
  refine xp_cond rfl rfl (fun h4 => ?_) (fun h4 => ?_)
  ·
    refine xp_seq rfl ?_
    refine xp_region rfl (by kernel_rfl) ?_
    refine re_rd rfl rfl rfl rfl (rd_assign rfl rfl) ?_
    refine re_end rfl ?_
    refine xp_ret rfl ?_
    refine thn_ret (done_ret (ress_tmp rfl rfl) ⟨hl.keep, clone_nil hv h4⟩)
  ·
    refine xp_skip rfl ?_
    refine xp_seq rfl ?_
    refine xp_region rfl (by kernel_rfl) ?_
    refine re_buildSliceG hl (c := []) 17 rfl rfl rfl rfl rfl Tryz.underlying32 rfl (by kernel_rfl) rfl ?_; intro v5 S1 hl
    refine re_rd rfl rfl rfl rfl (rd_move rfl rfl) ?_
    have hv' := hv.move (hl.since 0 rfl)
    refine re_appendG hl 0 rfl rfl (by simp) rfl rfl rfl rfl rfl rfl rfl Tryz.underlying32 Tryz.underlying32 rfl rfl (by kernel_rfl) hv'.cells (flat17 C) (flatCell C) (by kernel_rfl) (by show 0 + C.length ≤ maxNeed; unfold maxNeed; omega) ?_; intro v7 S1 hl
    refine re_rd rfl rfl rfl rfl (rd_assign rfl rfl) ?_
    refine re_end rfl ?_
    refine xp_ret rfl ?_
    refine done_ret (ress_tmp rfl rfl) ⟨hl.keep, clone_grow (hl.gr _ (List.mem_cons_self ..))⟩

end Go.Proofs.YtgmmomlgklmedaaGreatDoor
