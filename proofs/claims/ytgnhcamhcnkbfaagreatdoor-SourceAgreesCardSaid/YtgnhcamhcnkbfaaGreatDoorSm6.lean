/-
  source.Merge.
-/
import Derived.Test.YtgnhcamhcnkbfaaGreatDoorSm5
namespace Go.Proofs.YtgnhcamhcnkbfaaGreatDoor
open Go.Cm Go
set_option maxRecDepth 100000
variable {S : St}
def difB (n1 n2 : List UInt8) (L1 L2 : List Spt) : Bool := !sameBytes n1 n2 || ((L1.length : Int) != (L2.length : Int))
def noName : ByteArray := ⟨#[]⟩
/-- a source -/
def SrcAt (S : St) (v : Value) (nm : ByteArray) (L : List Spt) : Prop := ∃ sv, v = aggL [.string nm, sv] ∧ Spots S sv L
theorem SrcAt.move {S S' : St} (h : RK S S') {v : Value} {nm : ByteArray} {L : List Spt} (hs : SrcAt S v nm L) : SrcAt S' v nm L := by
  obtain ⟨sv, h1, h2⟩ := hs
  exact ⟨sv, h1, h2.move h⟩
theorem src_none (S : St) : SrcAt S (aggL [.string noName, .slice none 0 0]) noName [] := ⟨_, rfl, [], rfl, .inl ⟨rfl, .inl rfl⟩, fun k x h => by cases k <;> cases h⟩
theorem Grow.is {S0 S : St} {g : Gr} (h : Grow S0 S g) : ∃ a, g.v = .slice a g.n g.n := by
  rcases h with ⟨h1, _, h3⟩ | ⟨b, kin, h1, _⟩
  · exact ⟨none, by rw [h1, h3]⟩
  · exact ⟨_, h1⟩
/-- the cells of a list of spots -/
def PtsAt (S : St) (D : List (List Value)) (out : List Spt) : Prop := D.length = out.length ∧ (∀ d, d ∈ D → d.length = 2) ∧ ∀ k x, nth out k = some x → ∃ c, nth D k = some c ∧ SpotC S x c
theorem PtsAt.move {S S' : St} (h : RK S S') {D : List (List Value)} {out : List Spt} (hp : PtsAt S D out) : PtsAt S' D out := ⟨hp.1, hp.2.1, fun k x hx => by
  obtain ⟨c, k1, k2⟩ := hp.2.2 k x hx
  exact ⟨c, k1, k2.move h⟩⟩
theorem nth_push {α : Type} : ∀ {l : List α} {k : Nat} {x y : α}, nth (l ++ [y]) k = some x → nth l k = some x ∨ (k = l.length ∧ x = y)
  | [], 0, x, y, h => .inr ⟨rfl, (Option.some.inj h).symm⟩
  | [], k + 1, x, y, h => by cases k <;> cases h
  | z :: l, 0, x, y, h => .inl h
  | z :: l, k + 1, x, y, h => by
    rcases nth_push (l := l) (k := k) h with h | ⟨h1, h2⟩
    · exact .inl h
    · exact .inr ⟨by simp [h1], h2⟩
theorem nth_left {α : Type} : ∀ {l r : List α} {k : Nat} {x : α}, nth l k = some x → nth (l ++ r) k = some x
  | _ :: _, _, 0, _, h => h
  | _ :: l, r, k + 1, x, h => nth_left (l := l) (r := r) (k := k) h
  | [], _, _, _, h => by cases h
theorem nth_last {α : Type} : ∀ {l : List α} {x : α}, nth (l ++ [x]) l.length = some x
  | [], _ => rfl
  | _ :: l, x => nth_last (l := l) (x := x)
theorem PtsAt.push {S : St} {D : List (List Value)} {out : List Spt} (hp : PtsAt S D out) {x : Spt} {c : List Value} (hc : SpotC S x c) : PtsAt S (D ++ [c]) (out ++ [x]) := by
  obtain ⟨h1, h2, h3⟩ := hp
  refine ⟨by simp [h1], fun d hd => ?_, fun k y hy => ?_⟩
  · rcases List.mem_append.1 hd with hd | hd
    · exact h2 d hd
    · rw [List.mem_singleton.1 hd]
      obtain ⟨sv, e, _⟩ := hc
      rw [e]; rfl
  · rcases nth_push hy with hy | ⟨e1, e2⟩
    · obtain ⟨c2, k1, k2⟩ := h3 k y hy
      exact ⟨c2, nth_left k1, k2⟩
    · subst e2
      exact ⟨c, by rw [e1, ← h1]; exact nth_last, hc⟩
theorem Grow.spots {S0 S : St} {v : Value} {D : List (List Value)} {out : List Spt} (h : Grow S0 S ⟨v, 43, 2, D.flatten, D.length⟩) (hp : PtsAt S D out) : Spots S v out :=
  ⟨D, hp.1, Grow.sliceAt (g := ⟨v, 43, 2, D.flatten, D.length⟩) h rfl rfl hp.2.1, hp.2.2⟩
theorem HoldG.shrink {S0 S : St} {Ts Us : List St} {l l' : List (Nat × Blk)} {gs gs' : List Gr} (h : HoldG S0 Ts S l gs) (hl : l'.Sublist l) (hg : ∀ g, g ∈ gs' → g ∈ gs) (ht : ∀ T, T ∈ Us → T ∈ Ts) : HoldG S0 Us S l' gs' :=
  ⟨(h.sub hl).keep, (h.sub hl).nd, (h.sub hl).at_, fun T hT => h.rk T (ht T hT), fun g k => h.gr g (hg g k)⟩
theorem src_row {S : St} {b o n cap z : Nat} {e : TypeId} {c new : List Value} (h : RowAt S b e c) (hn : takeN (n * z) (dropN o c) = some new) : sourceCells S z n (.slice (some ⟨b, o, none⟩) n cap) = some new := by
  obtain ⟨_, own, kin, hg⟩ := h
  show readCells S b o (n * z) = _
  unfold readCells
  rw [hg]
  exact hn
theorem indexAddr_sl {t e : TypeId} {a : Option Addr} {b o len cap z : Nat} {k : IntKind} {i : Int} (ha : a = some ⟨b, o, none⟩) (hu : Tryz.prog.underlying t = some (.slice e)) (hz : szOf Tryz.prog e = some z) (hi : 0 ≤ i ∧ i < len) :
    indexAddrV Tryz.prog t (.slice a len cap) (.int k i) = some (ptrTo b (o + i.toNat * z)) := by
  subst ha
  exact indexAddr_slice hu hz hi
end Go.Proofs.YtgnhcamhcnkbfaaGreatDoor
