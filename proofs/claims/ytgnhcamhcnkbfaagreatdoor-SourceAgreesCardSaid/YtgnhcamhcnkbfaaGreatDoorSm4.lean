/-
  Spots; slices.Clone.
-/
import Derived.Test.YtgnhcamhcnkbfaaGreatDoorSm3
import Derived.Test.YtgnhcamhcnkbfaaGreatDoorSy1
namespace Go.Proofs.YtgnhcamhcnkbfaaGreatDoor
open Go.Cm Go
set_option maxRecDepth 100000
variable {S : St}
structure Spt where
  signs : List Sg
  blank : Bool
instance : DecidableEq Spt := fun a b => decidable_of_iff ((a.signs, a.blank) = (b.signs, b.blank)) ⟨fun h => by cases a; cases b; simpa using h, fun h => by rw [h]⟩
/-- the cells of a spot -/
def SpotC (S : St) (x : Spt) (c : List Value) : Prop := ∃ sv, c = [sv, .bool x.blank] ∧ Signs S sv x.signs
/-- the spots of a slice -/
def Spots (S : St) (v : Value) (L : List Spt) : Prop := ∃ C, C.length = L.length ∧ SliceAt S 43 2 v C ∧ ∀ k x, nth L k = some x → ∃ c, nth C k = some c ∧ SpotC S x c
theorem SpotC.move {S S' : St} (h : RK S S') {x : Spt} {c : List Value} (hs : SpotC S x c) : SpotC S' x c := by
  obtain ⟨sv, h1, h2⟩ := hs
  exact ⟨sv, h1, h2.move h⟩
theorem Spots.move {S S' : St} (h : RK S S') {v : Value} {L : List Spt} (hs : Spots S v L) : Spots S' v L := by
  obtain ⟨C, h1, h2, h3⟩ := hs
  exact ⟨C, h1, h2.move h, fun k x hx => by
    obtain ⟨c, k1, k2⟩ := h3 k x hx
    exact ⟨c, k1, k2.move h⟩⟩
theorem Spots.is {S : St} {v : Value} {L : List Spt} (h : Spots S v L) : ∃ a cap, v = .slice a L.length cap := by
  obtain ⟨C, h1, h2, _⟩ := h
  obtain ⟨a, cap, e⟩ := h2.is
  exact ⟨a, cap, h1 ▸ e⟩
theorem Spots.elem {S : St} {a : Option Addr} {len cap : Nat} {L : List Spt} (h : Spots S (.slice a len cap) L) {k : Nat} {x : Spt} (hk : nth L k = some x) :
    ∃ b o cs a2 cap2, a = some ⟨b, o, none⟩ ∧ RowAt S b 43 cs ∧ takeN 2 (dropN (o + k * 2) cs) = some [.slice a2 x.signs.length cap2, .bool x.blank] ∧ Signs S (.slice a2 x.signs.length cap2) x.signs := by
  obtain ⟨C, h1, h2, h3⟩ := h
  obtain ⟨c, k1, sv, rfl, k3⟩ := h3 k x hk
  obtain ⟨b, o, cs, e1, _, e3, e4⟩ := h2.elem k1
  obtain ⟨a2, cap2, rfl⟩ := k3.is
  exact ⟨b, o, cs, a2, cap2, e1, e3, e4, k3⟩
theorem Signs.front {S : St} {a : Option Addr} {len cap : Nat} {C : List Sg} (h : Signs S (.slice a len cap) C) {k : Nat} (hk : k < C.length) :
    ∃ a2 cap', sliceV Tryz.prog 25 (.slice a len cap) none (some (.int .i64 (k : Int))) none S = some (.slice a2 (C.take k).length cap') ∧ Signs S (.slice a2 (C.take k).length cap') (C.take k) := by
  obtain ⟨v, h1, ⟨cap', h2⟩, h3⟩ := SliceAt.front (P := Tryz.prog) (kk := .i64) h Tryz.underlying25 (by kernel_rfl) (by simpa using hk)
  subst h2
  have e : (C.take k).length = k := by rw [List.length_take, Nat.min_eq_left (by omega)]
  rw [e]
  exact ⟨_, _, h1, by unfold Signs; rw [List.map_take]; exact h3⟩
/-- a list of signs: what is wrong with it -/
def signsE : List Sg → List Sg → Int
  | _, [] => 0
  | pre, y :: r => bif one y != 0 then one y else bif decide (y ∈ pre) then 10 else signsE (pre ++ [y]) r
def sizeF (x : Spt) : Int := x.signs.length + bif x.blank then 1 else 0
def szB (x : Spt) : Bool := decide (sizeF x < 1) || decide (sizeF x > 4)
def spotsE : List Spt → Nat → Int × Int
  | [], _ => (0, 0)
  | x :: L, i => bif szB x then (3, i) else bif signsE [] x.signs != 0 then (signsE [] x.signs, i) else spotsE L (i + 1)
def checkF (nm : List UInt8) (L : List Spt) : Int × Int := bif !nameF nm then (7, 0) else bif decide ((L.length : Int) > 400) then (11, 0) else spotsE L 0
theorem drop_nth' {α : Type} : ∀ {l : List α} {i : Nat} {x : α}, nth l i = some x → l.drop i = x :: l.drop (i + 1)
  | [], _, _, h => by cases h
  | y :: l, 0, x, h => by cases h; rfl
  | y :: l, i + 1, x, h => by simpa using drop_nth' (l := l) (i := i) h
theorem take_nth' {α : Type} : ∀ {l : List α} {i : Nat} {x : α}, nth l i = some x → l.take (i + 1) = l.take i ++ [x]
  | [], _, _, h => by cases h
  | y :: l, 0, x, h => by cases h; rfl
  | y :: l, i + 1, x, h => by simpa using take_nth' (l := l) (i := i) h
/-- a slice of signs that has grown -/
def GrowS (S0 S : St) (v : Value) (C : List Sg) : Prop := Grow S0 S ⟨v, 54, 17, (C.map Sg.cells).flatten, C.length⟩
theorem GrowS.signs {S0 S : St} {v : Value} {C : List Sg} (h : GrowS S0 S v C) : Signs S v C :=
  Grow.sliceAt (g := ⟨v, 54, 17, (C.map Sg.cells).flatten, C.length⟩) h (by simp) rfl (fun x hx => by
    obtain ⟨s, _, rfl⟩ := List.mem_map.1 hx
    rfl)
end Go.Proofs.YtgnhcamhcnkbfaaGreatDoor
