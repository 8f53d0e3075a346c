/-
  Lists, the automatic steps, calls with closed arguments. tactuskit: Mod, At; slices that grow and are written. tactuskit: Run. tactuskit: Line. sign.Check, Clone. Classes. section.Expand. Sections. The frame of find.
-/
import Derived.Test.YtblhfojaiipboaaGreatDoorSmA
import Derived.Test.YtblhfojaiipboaaGreatDoorSy1

import Derived.Test.YtblhfojaiipboaaGreatDoorSy2







import Derived.IntWalk

namespace Go.Proofs.YtblhfojaiipboaaGreatDoor
open Go.Cm Go
set_option maxRecDepth 100000
variable {S : St}
theorem sN {P : Program} {n : Nat} {e : CkE} {S' : St} {b : Nat} {cs : List Value} {t : TypeId} {r : Bool} (hf : e.fr = some (b, cs, t, r)) (hg : S'.get b = some (.cells cs t r true [])) (hl : cs.length < 100000 := by simp) (ha : ∀ v, v ∈ cs → Atom v := by repeat (first | exact atoms_nil | refine atoms_cons (atom_int _ _) ?_ | refine atoms_cons (atom_bool _) ?_ | refine atoms_cons (atom_slice _ _ _) ?_ | refine atoms_cons (atom_string _) ?_)) {X : Prop} : X → StayOne P n S' e := stays_new hf hg (sameL_atoms _ _ hl ha)
theorem sG {l : List Value} (ha : ∀ v, v ∈ l → Atom v := by repeat (first | exact atoms_nil | refine atoms_cons (atom_int _ _) ?_ | refine atoms_cons (atom_bool _) ?_ | refine atoms_cons (atom_slice _ _ _) ?_ | refine atoms_cons (atom_string _) ?_)) (hn : Nat.blt l.length 90000 = true := by rfl) : sameV 100000 (aggL l) (aggL l) = true := same_agg hn ha
theorem sQ {v : Value} (h : Atom v := by first | exact atom_int _ _ | exact atom_bool _ | exact atom_slice _ _ _ | exact atom_string _) : sameV 100000 v v = true := same_atom h
theorem sZ {e : CkE} {m : Nat} (h : m.testBit e.j = true := by dsimp only; decide +kernel) {X : Prop} : m.testBit e.j = false → X := stays_no h
section
variable {P : Program} {S : St}
theorem l1 {t : TypeId} {b o : Nat} {c : List Value} {e : TypeId} {row own : Bool} {kin : List Nat} {v : Value} (hb : S.get b = some (.cells c e row own kin)) (hv : nth c o = some v) (ha : aggOf P t = some false := by kernel_rfl) : loadV P t (.pointer (some ⟨b, o, none⟩)) S = some v := load1_of ha hb hv
theorem lN {t : TypeId} {b o z : Nat} {c l : List Value} {e : TypeId} {row own : Bool} {kin : List Nat} (hb : S.get b = some (.cells c e row own kin)) (hv : takeN z (dropN o c) = some l) (ha : aggOf P t = some true := by kernel_rfl) (hz : szOf P t = some z := by kernel_rfl) : loadV P t (.pointer (some ⟨b, o, none⟩)) S = some (aggL l) := loadN_of ha hz hb hv
theorem l2 {t : TypeId} {b o : Nat} {e : TypeId} {c : List Value} {v : Value} (hb : RowAt S b e c) (hv : nth c o = some v) (ha : aggOf P t = some false := by kernel_rfl) : loadV P t (ptrTo b o) S = some v := load1_row ha hb hv
end
theorem sB {L L' : Env} (h : SubL L L' := by repeat (first | exact subL_refl _ | refine subL_skip  rfl ?_)) : SubL L L' := h
theorem nth_some {α : Type} : ∀ {l : List α} {i : Nat}, i < l.length → ∃ x, nth l i = some x
 | x :: _, 0, _ => ⟨x, rfl⟩
 | _ :: l, i + 1, h => nth_some (l := l) (i := i) (by simpa using h)
theorem nth_lt {α : Type} : ∀ {l : List α} {i : Nat} {x : α}, nth l i = some x → i < l.length
 | _ :: _, 0, _, _ => by simp
 | _ :: l, i + 1, x, h => by have := nth_lt (l := l) (i := i) (x := x) h; simp only [List.length_cons]; omega
theorem nth_map {α β : Type} (f : α → β) : ∀ {l : List α} {i : Nat} {x : α}, nth l i = some x → nth (l.map f) i = some (f x)
 | _ :: _, 0, _, h => by cases h; rfl
 | _ :: l, i + 1, x, h => nth_map f (l := l) (i := i) (x := x) h
theorem nth_none {α : Type} : ∀ {l : List α} {i : Nat}, l.length ≤ i → nth l i = none
 | [], _, _ => rfl
 | _ :: l, 0, h => by simp at h
 | _ :: l, i + 1, h => nth_none (l := l) (i := i) (by simpa using h)
theorem drop_nth' {α : Type} : ∀ {l : List α} {i : Nat} {x : α}, nth l i = some x → l.drop i = x :: l.drop (i + 1)
 | [], _, _, h => by cases h
 | y :: l, 0, x, h => by cases h; rfl
 | y :: l, i + 1, x, h => by simpa using drop_nth' (l := l) (i := i) h
theorem take_nth' {α : Type} : ∀ {l : List α} {i : Nat} {x : α}, nth l i = some x → l.take (i + 1) = l.take i ++ [x]
 | [], _, _, h => by cases h
 | y :: l, 0, x, h => by cases h; rfl
 | y :: l, i + 1, x, h => by simpa using take_nth' (l := l) (i := i) h
theorem tk_nth {z o j : Nat} {c l : List Value} {v : Value} (h : takeN z (dropN o c) = some l) (hj : nth l j = some v) : nth c (o + j) = some v := by
 obtain ⟨_, _, e⟩ := takeN_spec _ _ _ h
 subst e
 have := nth_take hj
 rw [dropN_eq] at this
 rw [nth_eq] at this ⊢
 rw [List.getElem?_drop] at this
 exact this
section
variable {α : Type} {e : TypeId} {z : Nat} {f : α → List Value} {S S' : St} {v : Value} {C : List α} {a : Option Addr} {n cap : Nat}
def LsOf (e : TypeId) (z : Nat) (f : α → List Value) (S : St) (v : Value) (C : List α) : Prop := SliceAt S e z v (C.map f)
theorem LsOf.move (h : RK S S') (hs : LsOf e z f S v C) : LsOf e z f S' v C := SliceAt.move h hs
theorem LsOf.is (h : LsOf e z f S v C) : ∃ a cap, v = .slice a C.length cap := by
 obtain ⟨a, cap, e⟩ := SliceAt.is h
 exact ⟨a, cap, by simpa using e⟩
theorem LsOf.len (h : LsOf e z f S (.slice a n cap) C) : n = C.length := by
 obtain ⟨a, cap, e⟩ := LsOf.is h
 injection e
theorem LsOf.elem (h : LsOf e z f S (.slice a n cap) C) {k : Nat} {x : α} (hk : nth C k = some x) :
  ∃ b o cs, a = some ⟨b, o, none⟩ ∧ n = C.length ∧ RowAt S b e cs ∧ takeN z (dropN (o + k * z) cs) = some (f x) := by
 obtain ⟨b, o, cs, h1, h2, h3, h4⟩ := SliceAt.elem h (nth_map f hk)
 exact ⟨b, o, cs, h1, by simpa using h2, h3, h4⟩
theorem LsOf.nil : LsOf e z f S (.slice none 0 0) [] := .inl ⟨rfl, .inl rfl⟩
theorem nth_unmap {f : α → List Value} : ∀ {C : List α} {k : Nat} {y : List Value}, nth (C.map f) k = some y → ∃ x, nth C k = some x ∧ y = f x
 | [], _, _, h => by cases h
 | x :: _, 0, y, h => by cases h; exact ⟨x, rfl, rfl⟩
 | _ :: C, k + 1, y, h => nth_unmap (C := C) (k := k) h
theorem dropN_add {β : Type} : ∀ (n m : Nat) (l : List β), dropN (n + m) l = dropN m (dropN n l) := fun n m l => by
 rw [dropN_eq, dropN_eq, dropN_eq, List.drop_drop]
theorem flat_take (hz : ∀ x, (f x).length = z) : ∀ {C : List α} {k : Nat} {x : α}, nth C k = some x → takeN z (dropN (0 + k * z) ((C.map f).flatten)) = some (f x)
 | [], _, _, h => by cases h
 | y :: C, 0, x, h => by
  cases h
  rw [show 0 + 0 * z = 0 by omega]
  show takeN z (f y ++ _) = _
  rw [← hz y, takeN_some _ _ (by simp), List.take_left]
 | y :: C, k + 1, x, h => by
  rw [show 0 + (k + 1) * z = z + (0 + k * z) by rw [Nat.add_mul]; omega, dropN_add]
  rw [show dropN z ((List.map f (y :: C)).flatten) = (C.map f).flatten by
   rw [dropN_eq]
   show (f y ++ _).drop z = _
   rw [← hz y, List.drop_left]]
  exact flat_take hz (C := C) (k := k) h
theorem flat_len (hz : ∀ x, (f x).length = z) : ∀ C : List α, ((C.map f).flatten).length = C.length * z
 | [] => by simp
 | x :: C => by
  show (f x ++ _).length = _
  rw [List.length_append, hz x, flat_len hz C, List.length_cons, Nat.add_mul]
  omega
theorem LsOf.row {B : Nat} (hz : ∀ x, (f x).length = z) (h : RowAt S B e ((C.map f).flatten)) (hn : n = C.length) : LsOf e z f S (.slice (some ⟨B, 0, none⟩) n n) C := by
 subst hn
 refine .inr ⟨B, 0, C.length, _, by simp, by simp, h, fun k y hk => ?_⟩
 obtain ⟨x, hx, rfl⟩ := nth_unmap hk
 exact flat_take hz hx
def gOf (e : TypeId) (z : Nat) (f : α → List Value) (v : Value) (C : List α) : Gr := ⟨v, e, z, (C.map f).flatten, C.length⟩
theorem Grow.ls {S0 : St} (hz : ∀ x, (f x).length = z) (h : Grow S0 S (gOf e z f v C)) : LsOf e z f S v C := by
 rcases Grow.row h with ⟨h1, h2, h3⟩ | ⟨b, h1, h2⟩
 ·have h3 : C.length = 0 := h3
  have h1 : v = .slice none 0 0 := h1
  have : C = [] := List.length_eq_zero_iff.1 h3
  subst this; subst h1
  exact LsOf.nil
 ·have h1 : v = .slice (some ⟨b, 0, none⟩) C.length C.length := h1
  subst h1
  exact LsOf.row hz h2 rfl
theorem flat_push (x : α) : ((C ++ [x]).map f).flatten = (C.map f).flatten ++ f x := by simp
end
theorem indexAddr_sl {P : Program} {t e : TypeId} {a : Option Addr} {b o len cap z : Nat} {k : IntKind} {i : Int} (ha : a = some ⟨b, o, none⟩) (hu : P.underlying t = some (.slice e)) (hz : szOf P e = some z) (hi : 0 ≤ i ∧ i < len) :
  indexAddrV P t (.slice a len cap) (.int k i) = some (ptrTo b (o + i.toNat * z)) := by
 subst ha
 exact indexAddr_slice hu hz hi
theorem src_row {S : St} {b o n cap z : Nat} {e : TypeId} {c new : List Value} (h : RowAt S b e c) (hn : takeN (n * z) (dropN o c) = some new) : sourceCells S z n (.slice (some ⟨b, o, none⟩) n cap) = some new := by
 obtain ⟨_, own, kin, hg⟩ := h
 show readCells S b o (n * z) = _
 unfold readCells
 rw [hg]
 exact hn
theorem Grow.is {S0 S : St} {g : Gr} (h : Grow S0 S g) : ∃ a, g.v = .slice a g.n g.n := by
 rcases Grow.row h with ⟨h1, _, h3⟩ | ⟨b, h1, _⟩
 ·exact ⟨none, by rw [h1, h3]⟩
 ·exact ⟨_, h1⟩
theorem stays_left {P : Program} {n : Nat} {S' : St} {m m2 : Nat} : ∀ {E : List CkE}, Stays P n S' m E → Stays P n S' m (left m2 E)
 | [], _ => trivial
 | e :: r, h => by
  unfold left
  cases m2.testBit e.j with
  | true => exact stays_left h.2
  | false => exact ⟨h.1, stays_left h.2⟩
theorem gOf_push {α : Type} {e : TypeId} {z : Nat} {f : α → List Value} {a : Option Addr} {C : List α} {x : α} : gOf e z f (.slice a (C ++ [x]).length (C ++ [x]).length) (C ++ [x]) = ⟨.slice a (C.length + 1) (C.length + 1), e, z, (C.map f).flatten ++ f x, C.length + 1⟩ := by
 unfold gOf
 rw [flat_push, List.length_append]
 rfl
theorem tk_part {z w o j : Nat} {c l l2 : List Value} (h : takeN z (dropN o c) = some l) (hj : takeN w (dropN j l) = some l2) : takeN w (dropN (o + j) c) = some l2 := by
 obtain ⟨_, h1, e⟩ := takeN_spec _ _ _ h
 obtain ⟨_, h2, e2⟩ := takeN_spec _ _ _ hj
 subst e
 rw [dropN_add]
 generalize dropN o c = X at *
 rw [dropN_eq] at h2 e2 ⊢
 rw [List.drop_take] at e2 h2
 have h3 : w ≤ z - j := by rw [List.length_take] at h2; omega
 rw [List.take_take, Nat.min_eq_left h3] at e2
 rw [takeN_some _ _ (by rw [List.length_take] at h2; omega), e2]
section
variable {P : Program} {e t : TypeId} {z : Nat} {S S1 : St} {a : Option Addr} {n cap p q : Nat} {lo hi : Option Value}
theorem SliceAt.part {C : List (List Value)} (h : SliceAt S e z (.slice a n cap) C) (hk : RK S S1) (hu : P.underlying t = some (.slice e)) (hz : szOf P e = some z) (hpq : p ≤ q) (hq : q ≤ C.length) (hb : C.length ≤ cap → n = C.length → bounds3 n cap lo hi none = some (p, q, cap)) :
  ∃ a2 c2, sliceV P t (.slice a n cap) lo hi none S1 = some (.slice a2 (q - p) c2) ∧ SliceAt S e z (.slice a2 (q - p) c2) ((C.take q).drop p) := by
 rcases h with ⟨h1, h2⟩ | ⟨b, o, cap0, cs, e1, hcap, hr, h3⟩
 ·subst h1
  have hq0 : q = 0 := by simpa using hq
  have hp0 : p = 0 := by omega
  subst hq0; subst hp0
  rcases h2 with h2 | ⟨b, o, k, h2⟩
  ·cases h2
   refine ⟨none, 0, ?_, .inl ⟨rfl, .inl rfl⟩⟩
   unfold sliceV
   simp only [hu, hz, hb (Nat.zero_le _) rfl]
  ·cases h2
   refine ⟨some ⟨b, o, some k⟩, 0, ?_, .inl ⟨rfl, .inr ⟨b, o, k, rfl⟩⟩⟩
   unfold sliceV
   simp only [hu, hz, hb (Nat.zero_le _) rfl]
   rfl
 ·cases e1
  obtain ⟨_, own, kin, hg⟩ := hk.2 _ _ _ hr
  have hl : ((C.take q).drop p).length = q - p := by rw [List.length_drop, List.length_take]; omega
  refine ⟨some ⟨b, o + p * z, none⟩, cap - p, ?_, .inr ⟨b, o + p * z, cap - p, cs, by rw [hl], by omega, hr, fun j y hy => ?_⟩⟩
  ·unfold sliceV
   have hrs : rowSize P S1 b z = true := by
    unfold rowSize
    rw [hg]
    simp only [hz]
    exact nbeq_tt _
   simp only [hu, hz, hb hcap rfl, hrs, cond_true, Option.isSome_none, Bool.false_and, cond_false]
  ·have hj : j < q - p := by have := nth_lt hy; omega
   have : nth C (p + j) = some y := by
    rw [nth_eq] at hy ⊢
    rw [List.getElem?_drop, List.getElem?_take] at hy
    rw [if_pos (by omega)] at hy
    exact hy
   have h4 := h3 (p + j) y this
   rw [show o + p * z + j * z = o + (p + j) * z by rw [Nat.add_mul]; omega]
   exact h4
theorem bnd_lo {k : Nat} (h1 : k ≤ n) (h2 : n ≤ cap) : bounds3 n cap (some (.int .i64 (k : Int))) none none = some (k, n, cap) := by
 unfold bounds3 sliceBnd
 simp only
 rw [if_pos ⟨by omega, by omega⟩]
 rfl
variable {α : Type} {f : α → List Value} {C : List α} {k : Nat}
theorem LsOf.rest (h : LsOf e z f S (.slice a n cap) C) (hk : RK S S1) (hu : P.underlying t = some (.slice e)) (hz : szOf P e = some z) (hkl : k ≤ C.length) :
  ∃ a2 c2, sliceV P t (.slice a n cap) (some (.int .i64 (k : Int))) none none S1 = some (.slice a2 (C.drop k).length c2) ∧ LsOf e z f S (.slice a2 (C.drop k).length c2) (C.drop k) := by
 obtain ⟨a2, c2, h1, h2⟩ := SliceAt.part (lo := some (.int .i64 (k : Int))) (hi := none) (p := k) (q := C.length) h hk hu hz hkl (by rw [List.length_map]; exact Nat.le_refl _) (fun hc hn => by rw [List.length_map] at hc hn; rw [bnd_lo (by omega) (by omega), hn])
 rw [List.take_of_length_le (by rw [List.length_map]; exact Nat.le_refl _), ← List.map_drop] at h2
 have hl : (C.drop k).length = C.length - k := List.length_drop
 rw [hl]
 exact ⟨a2, c2, h1, h2⟩
theorem LsOf.cells (h : LsOf e z f S (.slice a C.length cap) C) : sourceCells S z C.length (.slice a C.length cap) = some ((C.map f).flatten) := by
 have h2 := SliceAt.cells h
 rw [← h2]
theorem flatCells {f : α → List Value} (h : ∀ x, (f x).all cellV = true) : ∀ C : List α, ((C.map f).flatten).all cellV = true
 | [] => rfl
 | x :: C => by simp only [List.map_cons, List.flatten_cons, List.all_append, h x, flatCells h C, Bool.and_self]
end
def Left (S S' : St) (v : Value) : Prop := ∀ b blk, b < S.size → gb v ≠ some b → S.get b = some blk → S'.get b = some blk
theorem appendZ_none {P : Program} {S : St} {sT xT : TypeId} {xd : TypeDesc} {s x : Value} (hux : P.underlying xT = some xd) (hi : isIntT xd = false) : appendZV P [sT, xT] s x S = none := by
 unfold appendZV
 split
 ·rename_i h1
  cases h1
  rw [hux]
  split
  ·rename_i hxd
   cases hxd
   cases hi
  ·rfl
 ·rfl
theorem append_other {P : Program} {S S' : St} {ts : Array TypeId} {sT xT e : TypeId} {xd : TypeDesc} {base : Option Addr} {len m z : Nat} {x v : Value} {new : List Value}
  (h : builtinV P .append ts.toList [.slice base len len, x] S = some (v, S')) (hts : ts.toList = [sT, xT]) (hu : P.underlying sT = some (.slice e)) (hux : P.underlying xT = some xd) (hi : isIntT xd = false) (hlen : lenOfV x = some m) (hz : szOf P e = some z)
  (hs : sourceCells S z m x = some new) (hnl : new.length = m * z) : Left S S' (.slice base len len) := by
 intro b blk hb hne hg
 have h2 : append2 P e base len len m z new S = some (v, S') := by
  unfold builtinV at h
  simp only at h
  unfold appendV at h
  rw [hts] at h
  simp only [hu, hux, hlen, hi, hz, hs, cond_false] at h
  split at h
  ·rename_i q hq
   rw [hq, h]
  ·exfalso
   rw [appendZ_none hux hi] at h
   cases h
 rcases Nat.eq_zero_or_pos m with h0 | h0
 ·subst h0
  have hnew : new = [] := List.length_eq_zero_iff.1 (by rw [hnl, Nat.zero_mul])
  subst hnew
  unfold append2 at h2
  have hb : Nat.ble (len + 0) len = true := Nat.ble_eq_true_of_le (Nat.le_refl _)
  rw [hb] at h2
  simp only [cond_true] at h2
  unfold appendIn at h2
  split at h2
  ·cases h2; exact hg
  ·cases h2; exact hg
  ·revert h2
   cases (Nat.beq ([] : List Value).length 0 && (Nat.beq (len + 0) 0 && Nat.beq len 0)) with
   | true => intro h2; cases h2; exact hg
   | false => nofun
 ·have hle : Nat.ble (len + m) len = false := by
   cases hb : Nat.ble (len + m) len with
   | false => rfl
   | true => have := Nat.le_of_ble_eq_true hb; omega
  rcases (append2_base hle h2).2 b hb with h3 | h3
  ·rw [h3]; exact hg
  ·exact absurd h3 hne
theorem gb_ne {S0 S : St} {g : Gr} {B : Nat} {c : List Value} {e : TypeId} {r o : Bool} {k : List Nat} (hg : Grow S0 S g) (h : S.get B = some (.cells c e r o k)) (hne : g.c ≠ c) : gb g.v ≠ some B := by
 rcases hg with ⟨h1, _⟩ | ⟨b, kin, h1, _, _, h4, _⟩
 ·rw [h1]; exact nofun
 ·rw [h1]
  intro hb
  have : b = B := Option.some.inj hb
  subst this
  rw [h4] at h
  cases h
  exact hne rfl
section
variable {P : Program} {K : Known} {n : Nat} {ro : Option Nat} {L : Env} {S S0 : St} {Q : Post} {ops : List Oper} {d : Nat} {o : Oper} {Ts : List St} {l : List (Nat × Blk)} {gs : List Gr} {bef : List Nat} {pl : List (Oper × Nat)} {q j : Nat} {E : List CkE}
theorem rp_appendX (hl : HoldG S0 Ts S l gs) (k : Nat) {g : Gr} (hk : nth gs k = some g) (hr : (l.all fun p => !isRow p.2) = true) (hd : (gs.map (·.e)).Nodup) {us : Array Operand} {ts : Array TypeId} {sT xT : TypeId} {xd : TypeDesc} {x : Value} {m : Nat} {new : List Value}
  (ho : nth pl q = some (o, j)) (hop : o.op = .call ⟨.builtin .append, us, ts⟩) (hw : wantE ops L o = some true) (hdst : o.dst = some d) (hlt : Nat.blt d n = true) (hx : Cm.evs L us.toList = some [g.v, x]) (hts : ts.toList = [sT, xT])
  (hu : P.underlying sT = some (.slice g.e)) (hux : P.underlying xT = some xd) (hi : isIntT xd = false) (hlen : lenOfV x = some m) (hz : szOf P g.e = some g.z) (hs : sourceCells S g.z m x = some new)
  (hnl : new.length = m * g.z) (hc : new.all cellV = true) (hgb : growB P g.e g.z = true) (hneed : g.n + m ≤ maxNeed)
  (h : ∀ v S', HoldG S0 Ts S' l (setG k ⟨v, g.e, g.z, g.c ++ new, g.n + m⟩ gs) → Left S S' g.v → Stays P n S' ((nth bef j).getD 0) E ∧ RP P K n ops bef pl (q + 1) (left ((nth bef j).getD 0) E) ((d, v) :: L) S' Q) : RP P K n ops bef pl q E L S Q := by
 obtain ⟨v, S', h1, h2⟩ := append_step hl hk hr hd hts hu hux hi hlen hz hs hnl hc hgb hneed
 have h3 : Left S S' g.v := by
  obtain ⟨base, hv⟩ := Grow.is (hl.gr g (nth_mem hk))
  rw [hv] at h1 ⊢
  exact append_other h1 hts hu hux hi hlen hz hs hnl
 exact rp_heavyD ho (by rw [hop]; rfl) hw hdst hlt (fun a ha => ⟨0, by rw [hop]; unfold stepOp; simp only [kindOf, Cm.evs_eq ha hx, h1]⟩) (h v S' h2 h3).1 (h v S' h2 h3).2
end
structure Ti where
 n : Int
 d : Int
instance : DecidableEq Ti := fun a b => decidable_of_iff (a.n = b.n ∧ a.d = b.d) ⟨fun h => by cases a; cases b; rw [Ti.mk.injEq]; exact h, fun h => by subst h; simp⟩
def Ti.cells (t : Ti) : List Value := [.int .i64 t.n, .int .i64 t.d]
def Ti.v (t : Ti) : Value := aggL t.cells
theorem eqTime (s r : Ti) : eqV Tryz.prog eqDepth 65 s.v r.v = some (decide (s = r)) := by
 have h : eqV Tryz.prog 40 65 (aggL s.cells) (aggL r.cells) = _ := eq_struct Tryz.underlying65 (by kernel_rfl) (eqFields_cons (by kernel_rfl) (part1 (by kernel_rfl) rfl) (part1 (by kernel_rfl) rfl) (eq_int Tryz.underlying3) (eqFields_cons (by kernel_rfl) (part1 (by kernel_rfl) rfl) (part1 (by kernel_rfl) rfl) (eq_int Tryz.underlying3) rfl))
 refine h.trans (congrArg some ?_)
 cases s; cases r
 simp only [Ti.mk.injEq]
 rw [Bool.eq_iff_iff]
 simp
theorem isTime (xo yo : Operand) (s r : Ti) : binV Tryz.prog .eql 65 xo yo s.v r.v = some (.bool (decide (s = r))) := bin_eq (by kernel_rfl) (eqTime s r)
abbrev Tis := LsOf 65 2 Ti.cells
abbrev Sgs := LsOf 32 17 Sg.cells
def ic (k : Int) : List Value := [.int .i64 k]
abbrev Ints := LsOf 3 1 ic
theorem i6 {x : Int} (h : -9223372036854775808 ≤ x ∧ x ≤ 9223372036854775807) : some (Value.int .i64 (IntKind.i64.wrap x)) = some (.int .i64 x) := congrArg some (congrArg (Value.int .i64) (IntWalk.i64_in x h))
theorem az7 : allSz Tryz.prog 7 = true := by kernel_rfl
theorem az8 : allSz Tryz.prog 8 = true := by kernel_rfl
theorem az13 : allSz Tryz.prog 13 = true := by kernel_rfl
theorem az14 : allSz Tryz.prog 14 = true := by kernel_rfl
theorem az18 : allSz Tryz.prog 18 = true := by kernel_rfl
theorem az19 : allSz Tryz.prog 19 = true := by kernel_rfl
theorem az24 : allSz Tryz.prog 24 = true := by kernel_rfl
theorem az25 : allSz Tryz.prog 25 = true := by kernel_rfl
theorem az27 : allSz Tryz.prog 27 = true := by kernel_rfl
theorem az28 : allSz Tryz.prog 28 = true := by kernel_rfl
theorem az29 : allSz Tryz.prog 29 = true := by kernel_rfl
theorem az30 : allSz Tryz.prog 30 = true := by kernel_rfl
theorem az31 : allSz Tryz.prog 31 = true := by kernel_rfl
theorem az32 : allSz Tryz.prog 32 = true := by kernel_rfl
theorem az51 : allSz Tryz.prog 51 = true := by kernel_rfl
theorem az52 : allSz Tryz.prog 52 = true := by kernel_rfl
theorem az64 : allSz Tryz.prog 64 = true := by kernel_rfl
theorem az65 : allSz Tryz.prog 65 = true := by kernel_rfl
theorem az66 : allSz Tryz.prog 66 = true := by kernel_rfl
theorem az67 : allSz Tryz.prog 67 = true := by kernel_rfl
theorem az86 : allSz Tryz.prog 86 = true := by kernel_rfl
theorem az87 : allSz Tryz.prog 87 = true := by kernel_rfl
theorem az92 : allSz Tryz.prog 92 = true := by kernel_rfl
theorem az93 : allSz Tryz.prog 93 = true := by kernel_rfl
theorem az94 : allSz Tryz.prog 94 = true := by kernel_rfl
theorem az95 : allSz Tryz.prog 95 = true := by kernel_rfl
theorem az116 : allSz Tryz.prog 116 = true := by kernel_rfl
theorem az117 : allSz Tryz.prog 117 = true := by kernel_rfl
theorem az137 : allSz Tryz.prog 137 = true := by kernel_rfl
theorem az138 : allSz Tryz.prog 138 = true := by kernel_rfl
theorem az152 : allSz Tryz.prog 152 = true := by kernel_rfl
theorem az153 : allSz Tryz.prog 153 = true := by kernel_rfl
theorem az194 : allSz Tryz.prog 194 = true := by kernel_rfl
theorem az195 : allSz Tryz.prog 195 = true := by kernel_rfl
theorem az197 : allSz Tryz.prog 197 = true := by kernel_rfl
theorem az198 : allSz Tryz.prog 198 = true := by kernel_rfl
theorem az213 : allSz Tryz.prog 213 = true := by kernel_rfl
theorem az214 : allSz Tryz.prog 214 = true := by kernel_rfl
theorem az222 : allSz Tryz.prog 222 = true := by kernel_rfl
theorem az223 : allSz Tryz.prog 223 = true := by kernel_rfl
theorem az266 : allSz Tryz.prog 266 = true := by kernel_rfl
theorem az267 : allSz Tryz.prog 267 = true := by kernel_rfl
theorem az278 : allSz Tryz.prog 278 = true := by kernel_rfl
theorem az279 : allSz Tryz.prog 279 = true := by kernel_rfl
def lkn {α : Type} : List (Nat × α) → Nat → Option α
 | [], _ => none
 | (k, a) :: r, t => bif Nat.beq k t then some a else lkn r t
theorem lkn_mem {α : Type} : ∀ {l : List (Nat × α)} {t : Nat} {a : α}, lkn l t = some a → (t, a) ∈ l
 | (k, b) :: r, t, a, h => by
  rw [lkn] at h
  cases hb : Nat.beq k t with
  | true => rw [hb] at h; cases h; rw [of_nbeq hb]; exact List.mem_cons_self ..
  | false => rw [hb] at h; exact List.mem_cons_of_mem _ (lkn_mem h)
theorem ks {α : Type} {x : Option α} {a : α} (_ : x.isSome = true) (h : x = some a) : x = some a := h
def tN : List (Nat × Nat) := [(7, 4), (8, 4), (13, 2), (14, 2), (18, 1), (19, 1), (24, 2), (25, 2), (27, 4), (28, 4), (29, 2), (30, 2), (31, 17), (32, 17), (51, 3), (52, 3), (64, 2), (65, 2), (66, 8), (67, 8), (86, 4), (87, 4), (92, 2), (93, 2), (94, 2), (95, 2), (109, 13), (116, 3), (117, 3), (137, 12), (138, 12), (152, 12), (153, 12), (154, 156), (178, 4), (194, 1), (195, 1), (197, 5), (198, 5), (213, 7), (214, 7), (221, 6), (222, 3), (223, 3), (230, 3), (232, 15), (266, 4), (267, 4), (268, 0), (269, 0), (270, 0), (278, 11), (279, 11)]
def t1 : List (Nat × Unit) := [(2, ()), (3, ()), (4, ()), (5, ()), (6, ()), (9, ()), (10, ()), (11, ()), (12, ()), (21, ()), (22, ()), (23, ()), (33, ()), (34, ()), (42, ()), (43, ()), (49, ()), (61, ()), (81, ()), (84, ()), (85, ()), (112, ()), (118, ()), (159, ()), (167, ()), (172, ()), (183, ()), (196, ()), (244, ()), (252, ()), (254, ()), (256, ()), (272, ()), (273, ()), (276, ()), (277, ())]
def tS : List (Nat × Nat × Nat) := [(22, 3, 1), (23, 32, 17), (33, 52, 3), (42, 49, 1), (43, 22, 1), (49, 4, 1), (61, 67, 8), (81, 87, 4), (84, 85, 1), (85, 65, 2), (112, 138, 12), (118, 117, 3), (159, 161, 1), (183, 214, 7)]
theorem tN_ok : tN.all (fun p => (Tryz.prog.info? p.1 |>.map (·.size)) == some p.2 && aggOf Tryz.prog p.1 == some true) = true := by kernel_rfl
theorem t1_ok : t1.all (fun p => aggOf Tryz.prog p.1 == some false) = true := by kernel_rfl
theorem tS_ok : ∀ p, p ∈ tS → Tryz.prog.underlying p.1 = some (.slice p.2.1) ∧ szOf Tryz.prog p.2.1 = some p.2.2 := by
 intro p hp
 simp only [tS, List.mem_cons, List.not_mem_nil, or_false] at hp
 rcases hp with rfl | rfl | rfl | rfl | rfl | rfl | rfl | rfl | rfl | rfl | rfl | rfl | rfl | rfl
 ·exact ⟨Tryz.underlying22, by kernel_rfl⟩
 ·exact ⟨Tryz.underlying23, by kernel_rfl⟩
 ·exact ⟨Tryz.underlying33, by kernel_rfl⟩
 ·exact ⟨Tryz.underlying42, by kernel_rfl⟩
 ·exact ⟨Tryz.underlying43, by kernel_rfl⟩
 ·exact ⟨Tryz.underlying49, by kernel_rfl⟩
 ·exact ⟨Tryz.underlying61, by kernel_rfl⟩
 ·exact ⟨Tryz.underlying81, by kernel_rfl⟩
 ·exact ⟨Tryz.underlying84, by kernel_rfl⟩
 ·exact ⟨Tryz.underlying85, by kernel_rfl⟩
 ·exact ⟨Tryz.underlying112, by kernel_rfl⟩
 ·exact ⟨Tryz.underlying118, by kernel_rfl⟩
 ·exact ⟨Tryz.underlying159, by kernel_rfl⟩
 ·exact ⟨Tryz.underlying183, by kernel_rfl⟩
theorem uN {t z : Nat} (h : lkn tN t = some z) : aggOf Tryz.prog t = some true ∧ szOf Tryz.prog t = some z := by
 have := List.all_eq_true.1 tN_ok _ (lkn_mem h)
 simp only [Bool.and_eq_true, beq_iff_eq, Option.map_eq_some_iff] at this
 obtain ⟨⟨i, hi, rfl⟩, h2⟩ := this
 exact ⟨h2, by unfold szOf; rw [hi]⟩
theorem u1 {t : Nat} (h : lkn t1 t = some ()) : aggOf Tryz.prog t = some false := by
 have := List.all_eq_true.1 t1_ok _ (lkn_mem h)
 simpa using this
section
variable {S : St} {t b o : Nat} {c l : List Value} {e : TypeId} {row own : Bool} {kin : List Nat} {v : Value} {z : Nat}
theorem q1 (h : lkn t1 t = some ()) (hb : S.get b = some (.cells c e row own kin)) (hv : nth c o = some v) : loadV Tryz.prog t (ptrTo b o) S = some v := load1_of (u1 h) hb hv
theorem q2 (h : lkn t1 t = some ()) (hb : RowAt S b e c) (hv : nth c o = some v) : loadV Tryz.prog t (ptrTo b o) S = some v := load1_row (u1 h) hb hv
theorem q3 (h : lkn tN t = some z) (hb : S.get b = some (.cells c e row own kin)) (hv : takeN z (dropN o c) = some l) : loadV Tryz.prog t (ptrTo b o) S = some (aggL l) := loadN_of (uN h).1 (uN h).2 hb hv
theorem q4 (h : lkn tN t = some z) (hb : RowAt S b e c) (hv : takeN z (dropN o c) = some l) : loadV Tryz.prog t (ptrTo b o) S = some (aggL l) := loadN_row (uN h).1 (uN h).2 hb hv
theorem q5 {a : Option Addr} {n cap : Nat} (h : lkn tS t = some (e, z)) : lenV Tryz.prog t (.slice a n cap) S = some (.int .i64 n) := len_slice (tS_ok _ (lkn_mem h)).1
theorem q6 {a : Option Addr} {n cap : Nat} {k : IntKind} {i : Int} (h : lkn tS t = some (e, z)) (ha : a = some ⟨b, o, none⟩) (hi : 0 ≤ i ∧ i < n) : indexAddrV Tryz.prog t (.slice a n cap) (.int k i) = some (ptrTo b (o + i.toNat * z)) := indexAddr_sl ha (tS_ok _ (lkn_mem h)).1 (tS_ok _ (lkn_mem h)).2 hi
theorem q9 {a : Option Addr} {n cap : Nat} {k : IntKind} {i : Int} (h : lkn tS t = some (e, z)) (_ : takeN z (dropN (o + i.toNat * z) c) = some l) (ha : a = some ⟨b, o, none⟩) (hi : 0 ≤ i ∧ i < n) : indexAddrV Tryz.prog t (.slice a n cap) (.int k i) = some (ptrTo b (o + i.toNat * z)) := q6 h ha hi
variable {P : Program} {K : Known} {n : Nat} {ro : Option Nat} {L : Env} {Q : Post}
theorem qg {c : Code} (h : Nat.beq (pK c) 1 = true) (hc : constsOk P (pO c) = true) (k : RE P K n (pO c) 0 L S Q) : XE P K n ro c L S Q := xp_region (of_nbeq h) hc k
theorem qs {c : Code} (h : (Nat.beq (pK c) 3 && Nat.beq (pK (pA c)) 1) = true) (hc : constsOk P (pO (pA c)) = true) (k : RE P K n (pO (pA c)) 0 L S (Thn P K n ro (Go.Cm.pB c) Q)) : XE P K n ro c L S Q := by
 rw [Bool.and_eq_true] at h
 exact xp_seq (of_nbeq h.1) (qg h.2 hc k)
end
def kd : Op → Nat
 | .load .. => 1
 | .fieldAddr .. => 2
 | .binOp .. => 3
 | .indexAddr .. => 4
 | .call _ => 5
 | .nilCheck .. => 6
 | .move .. => 7
 | .assign .. => 7
 | .extract .. => 7
 | .pick .. => 7
 | _ => 0
def ki (ops : List Oper) (i : Nat) : Nat := match nth ops i with
 | some o => kd o.op
 | none => 9
def kp (pl : List (Oper × Nat)) (i : Nat) : Nat := match nth pl i with
 | some o => kd o.1.op
 | none => 9
theorem tt : true = true := rfl
theorem rb {n : Nat} {P : Program} {L : Env} {S : St} {o : Oper} {op : BinOp} {t t' : TypeId} {x y : Operand} {u w : Value} {b : Bool} (hop : o.op = .binOp op t x y t') (hx : Go.Cm.evE L x = some u) (hy : Go.Cm.evE L y = some w) (hv : binV P op t x y u w = some (.bool b)) : Rd P n L S o (.bool b) := rd_bin hop hx hy hv
section
variable {P : Program} {S : St} {t j b o : Nat} {u w v : Value}
theorem qF (h : fieldAddrV P t u j = some v := by first| exact fa Tryz.underlying7 az7 rfl| exact fa Tryz.underlying8 az8 rfl| exact fa Tryz.underlying13 az13 rfl| exact fa Tryz.underlying14 az14 rfl| exact fa Tryz.underlying18 az18 rfl| exact fa Tryz.underlying19 az19 rfl| exact fa Tryz.underlying24 az24 rfl| exact fa Tryz.underlying25 az25 rfl| exact fa Tryz.underlying27 az27 rfl| exact fa Tryz.underlying28 az28 rfl| exact fa Tryz.underlying29 az29 rfl| exact fa Tryz.underlying30 az30 rfl| exact fa Tryz.underlying31 az31 rfl| exact fa Tryz.underlying32 az32 rfl| exact fa Tryz.underlying51 az51 rfl| exact fa Tryz.underlying52 az52 rfl| exact fa Tryz.underlying64 az64 rfl| exact fa Tryz.underlying65 az65 rfl| exact fa Tryz.underlying66 az66 rfl| exact fa Tryz.underlying67 az67 rfl| exact fa Tryz.underlying86 az86 rfl| exact fa Tryz.underlying87 az87 rfl| exact fa Tryz.underlying92 az92 rfl| exact fa Tryz.underlying93 az93 rfl| exact fa Tryz.underlying94 az94 rfl| exact fa Tryz.underlying95 az95 rfl| exact fa Tryz.underlying116 az116 rfl| exact fa Tryz.underlying117 az117 rfl| exact fa Tryz.underlying137 az137 rfl| exact fa Tryz.underlying138 az138 rfl| exact fa Tryz.underlying152 az152 rfl| exact fa Tryz.underlying153 az153 rfl| exact fa Tryz.underlying194 az194 rfl| exact fa Tryz.underlying195 az195 rfl| exact fa Tryz.underlying197 az197 rfl| exact fa Tryz.underlying198 az198 rfl| exact fa Tryz.underlying213 az213 rfl| exact fa Tryz.underlying214 az214 rfl| exact fa Tryz.underlying222 az222 rfl| exact fa Tryz.underlying223 az223 rfl| exact fa Tryz.underlying266 az266 rfl| exact fa Tryz.underlying267 az267 rfl| exact fa Tryz.underlying278 az278 rfl| exact fa Tryz.underlying279 az279 rfl) : fieldAddrV P t u j = some v := h
theorem qG {x : Blk} (h : S.get b = some x := by first| exact hl.get 0 rfl| exact hl.get 1 rfl| exact hl.get 2 rfl| exact hl.get 3 rfl| exact hl.get 4 rfl| exact hl.get 5 rfl| exact hl.get 6 rfl| exact hl.get 7 rfl| exact hl.get 8 rfl| exact hd.at_ hl.keep| exact hd.d.at_ hl.keep) : S.get b = some x := h
theorem qR {e : TypeId} {c : List Value} (h : RowAt S b e c := by first| assumption| exact row_move (hl.since 0 rfl) (by assumption)| exact row_move (hl.since 1 rfl) (by assumption)| exact row_move (hl.since 2 rfl) (by assumption)) : RowAt S b e c := h
theorem qT {c : List Value} (h : nth c o = some v := by first| assumption| exact tk_nth (j := 0) (by assumption) rfl| exact tk_nth (j := 1) (by assumption) rfl| exact tk_nth (j := 2) (by assumption) rfl| exact tk_nth (j := 3) (by assumption) rfl| exact tk_nth (j := 4) (by assumption) rfl| exact tk_nth (j := 5) (by assumption) rfl| exact tk_nth (j := 6) (by assumption) rfl| exact tk_nth (j := 7) (by assumption) rfl| exact tk_nth (j := 8) (by assumption) rfl| exact tk_nth (j := 9) (by assumption) rfl) : nth c o = some v := h
theorem qW {z : Nat} {c l : List Value} (h : takeN z (dropN o c) = some l := by first| assumption| exact tk_part (j := 0) (by assumption) rfl| exact tk_part (j := 2) (by assumption) rfl| exact tk_part (j := 4) (by assumption) rfl) : takeN z (dropN o c) = some l := h
theorem qL (h : loadV P t u S = some v := by first| exact q1 (ks tt rfl) qG (by rfl)| exact q3 (ks tt rfl) qG (by rfl)| exact q4 (ks tt rfl) qR qW| exact q2 (ks tt rfl) qR qT) : loadV P t u S = some v := h
variable {n d i : Nat} {ro : Option Nat} {K : Known} {L : Env} {ops : List Oper} {o : Oper} {Q : Post} {bef : List Nat} {pl : List (Oper × Nat)} {E : List CkE}
theorem kq {m : Nat} (_ : Nat.beq (kd o.op) m = true) (x : Rd P n L S o v) : Rd P n L S o v := x
theorem rn (_ : Nat.beq (ki ops i) 7 = true) (h : stV ops i L n = some (d, v)) (k : RE P K n ops (i + 1) ((d, v) :: L) S Q) : RE P K n ops i L S Q := rm h k
theorem pn (_ : Nat.beq (kp pl i) 7 = true) (h : psV pl ops i L n = some (d, v)) (k : RP P K n ops bef pl (i + 1) E ((d, v) :: L) S Q) : RP P K n ops bef pl i E L S Q := pm h k
theorem qq (h : Rd P n L S o v := by first| exact kq (m := 1) tt (rd_load rfl rfl qL)| exact kq (m := 2) tt (rd_fieldAddr rfl rfl qF)| exact kq (m := 3) tt (rd_bin rfl rfl rfl (isPitch _ _ _ _))| exact kq (m := 3) tt (rd_bin rfl rfl rfl (isTime _ _ _ _))| exact kq (m := 3) tt (rd_bin rfl rfl rfl (neTime _ _ _ _))| exact kq (m := 3) tt (rb rfl rfl rfl rfl)| exact kq (m := 3) tt (rd_bin rfl rfl rfl (i6 (by omega)))| exact kq (m := 3) tt (rd_bin rfl rfl rfl (remV (by omega)))| exact kq (m := 3) tt (rd_bin rfl rfl rfl (quoV (by omega) (by omega) (by omega)))| exact kq (m := 5) tt (rd_len rfl rfl (q5 rfl))| exact kq (m := 4) tt (rd_indexAddr rfl rfl rfl (q9 rfl (by assumption) (by assumption) ⟨by omega, by omega⟩))| exact kq (m := 4) tt (rd_indexAddr rfl rfl rfl (q6 rfl (by first| assumption| exact rfl) ⟨by omega, by omega⟩))| exact kq (m := 6) tt (rd_nilCheck rfl rfl rfl)) : Rd P n L S o v := h
theorem rj (h : RE P K n ops i L S Q) : RE P K n ops i L S Q := h
theorem pj (h : RP P K n ops bef pl i E L S Q) : RP P K n ops bef pl i E L S Q := h
theorem x3 {c : Code} (h : Nat.beq (pK c) 3 = true) (k : XE P K n ro (pA c) L S (Thn P K n ro (Go.Cm.pB c) Q)) : XE P K n ro c L S Q := xp_seq (of_nbeq h) k
theorem x9 {c : Code} (h : Nat.beq (pK c) 9 = true) (k : Q .ret L S) : XE P K n ro c L S Q := xp_ret (of_nbeq h) k
theorem x0 {c : Code} (h : Nat.beq (pK c) 0 = true) (k : Q .normal L S) : XE P K n ro c L S Q := xp_skip (of_nbeq h) k
theorem x7 {c : Code} (h : Nat.beq (pK c) 7 = true) (k : Q (.exit (pI c)) L S) : XE P K n ro c L S Q := xp_exit (of_nbeq h) k
theorem x5 {c : Code} (h : Nat.beq (pK c) 5 = true) (k : XE P K n ro (pA c) L S (Blk' (pI c) Q)) : XE P K n ro c L S Q := xp_block (of_nbeq h) k
theorem ci {c : Code} (hk : Nat.beq (pK c) 4 = true) (hc : Go.Cm.evE L (pC c) = some (.bool true)) (k : XE P K n ro (pA c) L S Q) : XE P K n ro c L S Q := xp_cond_t (of_nbeq hk) hc k
theorem cj {c : Code} (hk : Nat.beq (pK c) 4 = true) (hc : Go.Cm.evE L (pC c) = some (.bool false)) (k : XE P K n ro (Go.Cm.pB c) L S Q) : XE P K n ro c L S Q := xp_cond_f (of_nbeq hk) hc k
theorem zi {c : Code} {b : Bool} (hk : Nat.beq (pK c) 4 = true) (hc : Go.Cm.evE L (pC c) = some (.bool b)) (k : (b = true → XE P K n ro (pA c) L S Q) ∧ (b = false → XE P K n ro (Go.Cm.pB c) L S Q)) : XE P K n ro c L S Q := xp_cond (of_nbeq hk) hc k.1 k.2
theorem xj {c : Code} (h : XE P K n ro c L S Q) : XE P K n ro c L S Q := h
end
section
variable {P : Program} {K : Known} {n : Nat} {L : Env} {S S' S0 : St} {ops : List Oper} {i d : Nat} {Q : Post} {bef : List Nat} {pl : List (Oper × Nat)} {E : List CkE} {Ts : List St} {l : List (Nat × Blk)} {gs : List Gr} {f : FuncId} {vs : List Value}
def caO (o : Oper) (L : Env) : Option (FuncId × List Value) := match o.op with
 | .call ⟨.value x, ys, _⟩ => match Go.Cm.evE L x with
  | some (.func (.func f) fi ca) => match evs L ys.toList with
   | some vs => some (f, (fi.toList ++ vs) ++ ca.toList)
   | none => none
  | _ => none
 | _ => none
def caF (ops : List Oper) (i : Nat) (L : Env) (n : Nat) : Option (Nat × FuncId × List Value) := match st1 ops i L n with
 | some (o, d) => match caO o L with
  | some x => some (d, x)
  | none => none
 | none => none
def caP (pl : List (Oper × Nat)) (ops : List Oper) (q : Nat) (L : Env) (n : Nat) : Option (Nat × Nat × FuncId × List Value) := match nth pl q with
 | some (o, j) => match wantE ops L o with
  | some true => match o.dst with
   | some d => bif Nat.blt d n then match caO o L with
    | some x => some (j, d, x)
    | none => none
    else none
   | none => none
  | _ => none
 | none => none
theorem caO_is {o : Oper} (h : caO o L = some (f, vs)) : ∃ x ys ts fi ca ws, o.op = .call ⟨.value x, ys, ts⟩ ∧ Go.Cm.evE L x = some (.func (.func f) fi ca) ∧ evs L ys.toList = some ws ∧ vs = (fi.toList ++ ws) ++ ca.toList := by
 unfold caO at h
 split at h
 ·rename_i x ys ts h1
  split at h
  ·rename_i f' fi ca h2
   split at h
   ·rename_i ws h3
    cases h
    exact ⟨_, _, _, _, _, _, h1, h2, h3, rfl⟩
   ·cases h
  ·cases h
 ·cases h
theorem zc (hl : HoldG S0 Ts S l gs) {R : Value → St → Prop} (h : caF ops i L n = some (d, f, vs)) (hc : CC P K f vs S fun v S' => Keep S S' ∧ R v S') (k : ∀ v S', Keep S S' → R v S' → HoldG S0 Ts S' l gs → RE P K n ops (i + 1) ((d, v) :: L) S' Q) : RE P K n ops i L S Q := by
 unfold caF at h
 split at h
 ·rename_i o d' h1
  split at h
  ·rename_i x h2
   cases h
   obtain ⟨a1, a2, a3, a4⟩ := st1_some h1
   obtain ⟨x, ys, ts, fi, ca, ws, b1, b2, b3, rfl⟩ := caO_is h2
   exact re_callL hl a1 b1 a2 a3 a4 b2 b3 hc k
  ·cases h
 ·cases h
theorem zp {j : Nat} (hl : HoldG S0 Ts S l gs) {R : Value → St → Prop} (h : caP pl ops i L n = some (j, d, f, vs)) (hc : CC P K f vs S fun v S' => Keep S S' ∧ R v S') (k : ∀ v S', Keep S S' → R v S' → HoldG S0 Ts S' l gs → Stays P n S' ((nth bef j).getD 0) E ∧ RP P K n ops bef pl (i + 1) (left ((nth bef j).getD 0) E) ((d, v) :: L) S' Q) : RP P K n ops bef pl i E L S Q := by
 unfold caP at h
 split at h
 ·rename_i o j' h1
  split at h
  ·rename_i h2
   split at h
   ·rename_i d' h3
    cases hb : Nat.blt d' n with
    | true =>
     rw [hb] at h
     simp only [cond_true] at h
     split at h
     ·rename_i x h4
      cases h
      obtain ⟨x, ys, ts, fi, ca, ws, b1, b2, b3, rfl⟩ := caO_is h4
      exact rp_callL hl h1 b1 h2 h3 hb b2 b3 hc k
     ·cases h
    | false => rw [hb] at h; cases h
   ·cases h
  ·cases h
 ·cases h
theorem kf {e : CkE} {X : Prop} (_ : e.fr.isSome = true) (y : X → StayOne P n S' e) : X → StayOne P n S' e := y
theorem kl {e : CkE} {X : Prop} (_ : Nat.beq (kd e.op) 1 = true) (y : X → StayOne P n S' e) : X → StayOne P n S' e := y
theorem zt {m : Nat} (h : Stays P n S' m E := by repeat (first| exact trivial| refine stays_left ?_| (refine ⟨by first| exact sZ| exact kf tt (sN rfl qG)| exact kl tt (stays_load rfl rfl qL sG rfl)| exact kl tt (stays_load rfl rfl qL sQ rfl), ?_⟩))) : Stays P n S' m E := h
variable {R : Value → St → Prop} {x y : Tmp} {u v : Value} {ro : Option Nat} {c : Code}
theorem y1 (h : Go.Cm.look L x = some v) (q : R v S) : Done P [.tmp x] R .ret L S := done_ret (ress_tmp h rfl) q
theorem y2 (h : Go.Cm.look L x = some v) (k : Go.Cm.look L y = some u) (q : R (tupV [v, u]) S) : Done P [.tmp x, .tmp y] R .ret L S := done_ret (ress_tmp h (ress_tmp k rfl)) q
theorem z1 (h : Go.Cm.look L x = some v) (q : R v S) : Thn P K n ro c (Done P [.tmp x] R) .ret L S := y1 h q
theorem z2 (h : Go.Cm.look L x = some v) (k : Go.Cm.look L y = some u) (q : R (tupV [v, u]) S) : Thn P K n ro c (Done P [.tmp x, .tmp y] R) .ret L S := y2 h k q
end
structure Wr (H : Prop) : Prop where
 out : H
theorem zg {G H : Prop} (k : H) (h : Wr H → G := by intro k; (repeat (first| (refine rj ?_; first| refine rn tt rfl ?_| refine re_end tt ?_| refine rr rfl qq ?_| refine rz rfl ?_)| (refine pj ?_; first| refine pn tt rfl ?_| refine pk rfl qq ?_| refine pr rfl qq ?_| refine rp_end tt ?_| refine pz rfl ?_)| (refine xj ?_; first| refine qs tt (by kernel_rfl) ?_| refine qg tt (by kernel_rfl) ?_| refine x3 tt ?_| refine x9 tt ?_| refine x0 tt ?_| refine x7 tt ?_| refine x5 tt ?_| refine ci tt rfl ?_| refine cj tt rfl ?_| refine zi tt rfl ?_))); exact k.1) : G := h ⟨k⟩
theorem zA {G H : Prop} (k : H) (h : Wr H → G := by intro k; (repeat (first| (refine rj ?_; first| refine rn tt rfl ?_| refine re_end tt ?_| refine rr rfl qq ?_| refine rz rfl ?_)| (refine pj ?_; first| refine pn tt rfl ?_| refine pk rfl qq ?_| refine pr rfl qq ?_| refine rp_end tt ?_| refine pz rfl ?_))); exact k.1) : G := h ⟨k⟩
theorem zS {G H : Prop} (k : H) (h : Wr H → G := by intro k; (first| refine qs tt (by kernel_rfl) ?_| refine qg tt (by kernel_rfl) ?_); (repeat (first| (refine rj ?_; first| refine rn tt rfl ?_| refine re_end tt ?_| refine rr rfl qq ?_| refine rz rfl ?_)| (refine pj ?_; first| refine pn tt rfl ?_| refine pk rfl qq ?_| refine pr rfl qq ?_| refine rp_end tt ?_| refine pz rfl ?_))); exact k.1) : G := h ⟨k⟩
theorem cc_known {P : Program} {K : Known} {f : FuncId} {args : List Value} {S : St} {v : Value} (h : K.call f args S = some v) : CC P K f args S fun w S' => Keep S S' ∧ w = v := ⟨0, v, S, by unfold enterF; rw [h], Keep.refl S, rfl⟩
theorem val8 {v : Int} (h : 1 ≤ v ∧ v ≤ 8) : v = 1 ∨ v = 2 ∨ v = 3 ∨ v = 4 ∨ v = 5 ∨ v = 6 ∨ v = 7 ∨ v = 8 := by omega
def fullT (v : Int) : Ti := match v with
 | 1 => ⟨16, 1⟩
 | 2 => ⟨8, 1⟩
 | 3 => ⟨4, 1⟩
 | 4 => ⟨2, 1⟩
 | 5 => ⟨1, 1⟩
 | 6 => ⟨1, 2⟩
 | 7 => ⟨1, 4⟩
 | _ => ⟨1, 8⟩
def colT (v : Int) : Ti := match v with
 | 1 => ⟨32, 3⟩
 | 2 => ⟨16, 3⟩
 | 3 => ⟨8, 3⟩
 | 4 => ⟨4, 3⟩
 | 5 => ⟨2, 3⟩
 | 6 => ⟨1, 3⟩
 | 7 => ⟨1, 6⟩
 | _ => ⟨1, 12⟩
def halfT (v : Int) : Ti := match v with
 | 1 => ⟨24, 1⟩
 | 2 => ⟨12, 1⟩
 | 3 => ⟨6, 1⟩
 | 4 => ⟨3, 1⟩
 | 5 => ⟨3, 2⟩
 | 6 => ⟨3, 4⟩
 | 7 => ⟨3, 8⟩
 | _ => ⟨3, 16⟩
theorem kAbove {v : Int} (h : 1 ≤ v ∧ v ≤ 8) : CC Tryz.prog KK 111 [m2, .int .i64 v] S fun w S' => Keep S S' ∧ w = tupV [.int .i64 0, .int .i64 0] := by
 rcases val8 h with rfl | rfl | rfl | rfl | rfl | rfl | rfl | rfl <;> exact cc_known rfl
theorem kParts {v : Int} (h : 1 ≤ v ∧ v ≤ 8) : CC Tryz.prog KK 112 [m2, .int .i64 v] S fun w S' => Keep S S' ∧ w = tupV [.int .i64 2, .int .i64 0] := by
 rcases val8 h with rfl | rfl | rfl | rfl | rfl | rfl | rfl | rfl <;> exact cc_known rfl
theorem kFull {v : Int} (h : 1 ≤ v ∧ v ≤ 8) : CC Tryz.prog KK 88 [m2, .int .i64 v] S fun w S' => Keep S S' ∧ w = tupV [(fullT v).v, .int .i64 0] := by
 rcases val8 h with rfl | rfl | rfl | rfl | rfl | rfl | rfl | rfl <;> exact cc_known rfl
theorem kDur {v : Int} (h : 1 ≤ v ∧ v ≤ 8) : CC Tryz.prog KK 87 [m2, .int .i64 v] S fun w S' => Keep S S' ∧ w = (colT v).v := by
 rcases val8 h with rfl | rfl | rfl | rfl | rfl | rfl | rfl | rfl <;> exact cc_known rfl
theorem kHalf {v : Int} (h : 1 ≤ v ∧ v ≤ 8) : CC Tryz.prog KK 65 [(fullT v).v, aggL [.int .i64 3, .int .i64 2]] S fun w S' => Keep S S' ∧ w = tupV [(halfT v).v, .int .i64 0] := by
 rcases val8 h with rfl | rfl | rfl | rfl | rfl | rfl | rfl | rfl <;> exact cc_known rfl
theorem kHalfC {v : Int} (h : 1 ≤ v ∧ v ≤ 8) : CC Tryz.prog KK 65 [(colT v).v, aggL [.int .i64 3, .int .i64 2]] S fun w S' => Keep S S' ∧ w = tupV [(fullT v).v, .int .i64 0] := by
 rcases val8 h with rfl | rfl | rfl | rfl | rfl | rfl | rfl | rfl <;> exact cc_known rfl
theorem kabove {v : Int} (h : 1 ≤ v ∧ v ≤ 8) : CC Tryz.prog KK 20 [m2, .int .i64 v] S fun w S' => Keep S S' ∧ w = .bool false := by
 rcases val8 h with rfl | rfl | rfl | rfl | rfl | rfl | rfl | rfl <;> exact cc_known rfl
theorem kLevels : CC Tryz.prog KK 50 [m2] S fun w S' => Keep S S' ∧ w = tupV [.slice none 0 0, .int .i64 0] := cc_known rfl
theorem kLen : CC Tryz.prog KK 155 [.int .u64 0] S fun w S' => Keep S S' ∧ w = .int .i64 0 := cc_known rfl
theorem kName : CC Tryz.prog KK 54 [.string partS] S fun w S' => Keep S S' ∧ w = .bool true := cc_known rfl
end Go.Proofs.YtblhfojaiipboaaGreatDoor
namespace Go.Proofs.YtblhfojaiipboaaGreatDoor
open Go.Cm Go
set_option maxRecDepth 100000
variable {S : St}
section
variable {P : Program} {t : TypeId} {xo yo : Operand} {a b : Int}
theorem quo_bd (hb : 0 < b) (h0 : 0 ≤ a) : 0 ≤ a.tdiv b ∧ a.tdiv b ≤ a :=
 ⟨Int.tdiv_nonneg h0 (by omega), Int.tdiv_le_self b h0⟩
theorem rem_bd (hb : 0 < b) (h0 : 0 ≤ a) : 0 ≤ a.tmod b ∧ a.tmod b < b :=
 ⟨Int.tmod_nonneg b h0, Int.tmod_lt_of_pos a hb⟩
theorem quoV (hb : 0 < b) (h0 : 0 ≤ a) (h1 : a ≤ 9223372036854775807) : binV P .quo t xo yo (.int .i64 a) (.int .i64 b) = some (.int .i64 (a.tdiv b)) := by
 have h := quo_bd hb h0
 show (if b = 0 then none else some (Value.int .i64 (IntKind.i64.wrap (a.tdiv b)))) = _
 rw [if_neg (by omega), IntWalk.i64_in _ (by omega)]
theorem remV (hb : 0 < b) : binV P .rem t xo yo (.int .i64 a) (.int .i64 b) = some (.int .i64 (a.tmod b)) := by
 show (if b = 0 then none else some (Value.int .i64 (a.tmod b))) = _
 rw [if_neg (by omega)]
end
def modE (a n : Int) : Int := bif decide (a.tmod n < 0) then a.tmod n + n else a.tmod n
theorem tmod_bd (a : Int) {n : Int} (hn : 0 < n) : -n < a.tmod n ∧ a.tmod n < n :=
 ⟨Int.lt_tmod_of_pos a hn, Int.tmod_lt_of_pos a hn⟩
theorem modE_bd (a : Int) {n : Int} (hn : 0 < n) : 0 ≤ modE a n ∧ modE a n < n := by
 have h := tmod_bd a hn
 unfold modE
 cases hd : decide (a.tmod n < 0) with
 | true => have := of_decide_eq_true hd; show 0 ≤ a.tmod n + n ∧ a.tmod n + n < n; omega
 | false => have := of_decide_eq_false hd; show 0 ≤ a.tmod n ∧ a.tmod n < n; omega
theorem md_1 {a n : Int} (h : decide (a.tmod n < 0) = true) : a.tmod n + n = modE a n := by unfold modE; rw [h]; rfl
theorem md_2 {a n : Int} (h : decide (a.tmod n < 0) = false) : a.tmod n = modE a n := by unfold modE; rw [h]; rfl
noncomputable def cd8 : Code := Tryz.f8.body.getD .skip
theorem spec8 (a n : Int) (hn : 0 < n) (hn2 : n ≤ 1000000) : CC Tryz.prog KK 8 [.int .i64 a, .int .i64 n] S (fun v S' => Keep S S' ∧ v = .int .i64 (modE a n)) := by
 refine cc_enter (c := cd8) (n := 16) Tryz.func8 rfl rfl rfl (by kernel_rfl) rfl rfl ?_
 have hl := Hold.start S
 have hb := tmod_bd a hn
 refine zg ?_
 constructor <;> intro h6
 ·
  refine zg ?_
  exact (z1 rfl ⟨hl.keep, by have := of_decide_eq_true h6; omega⟩)
 ·
  refine xp_skip rfl ?_; refine zS ?_; refine xp_seq rfl (xe_cut (fun Le S' => SubE [(0, .int .i64 (modE a n))] Le ∧ HoldG S [S] S' [] []) ?_ ?_)
  ·
   refine zg ?_
   constructor <;> intro h11
   ·
    refine zg ?_
    exact ⟨rfl, ⟨congrArg some (congrArg (Value.int .i64) (md_1 h11)), trivial⟩, hl⟩
   ·
    refine zg ?_
    exact ⟨rfl, ⟨congrArg some (congrArg (Value.int .i64) (md_2 h11)), trivial⟩, hl⟩
  clear hl; rintro Le3 S1 ⟨hsub3, hl⟩; refine xe_sub hsub3 ?_
  refine zg ?_
  refine y1 rfl ⟨hl.keep, rfl⟩
def atI (L : List Int) (i : Nat) : Int := (nth L i).getD 0
theorem at_0 {L : List Int} {i : Nat} (h : (decide ((i : Int) < 0) || decide ((i : Int) ≥ L.length)) = true) : (0 : Int) = atI L i := by
 have : L.length ≤ i := by simp at h; omega
 unfold atI; rw [nth_none this]; rfl
theorem at_1 {L : List Int} {i : Nat} {x : Int} (h : nth L i = some x) : x = atI L i := by unfold atI; rw [h]; rfl
noncomputable def cd9 : Code := Tryz.f9.body.getD .skip
theorem spec9 (a : Option Addr) (cap : Nat) (L : List Int) (i : Nat) (hv : Ints S (.slice a L.length cap) L) : CC Tryz.prog KK 9 [.slice a L.length cap, .int .i64 i] S (fun v S' => Keep S S' ∧ v = .int .i64 (atI L i)) := by
 refine cc_enter (c := cd9) (n := 17) Tryz.func9 rfl rfl rfl (by kernel_rfl) rfl rfl ?_
 have hl := Hold.start S
 refine zS ?_; refine xp_seq rfl ?_; refine xp_seq rfl (xe_toE hl 12 (.bool (decide ((i : Int) < 0) || decide ((i : Int) ≥ L.length))) ?_ rfl ?_)
 ·
  refine zg ?_
  exact ⟨rfl, bl (by simp; omega), sB, hl⟩
 intro S1 hl
 refine zg ?_
 constructor <;> intro h12
 ·
  refine zg ?_
  exact (z1 rfl ⟨hl.keep, congrArg (Value.int .i64) (at_0 h12)⟩)
 ·
  have hlt : i < L.length := by have := h12; simp at this; omega
  obtain ⟨x, hx⟩ := nth_some hlt
  obtain ⟨b1, o1, cs1, ha, _, hrow, htk⟩ := hv.elem hx
  refine zg ?_
  refine y1 rfl ⟨hl.keep, congrArg (Value.int .i64) (at_1 hx)⟩
section
variable {P : Program} {K : Known} {n : Nat} {L : Env} {S S0 : St} {Q : Post} {ops : List Oper} {i d : Nat} {o : Oper} {Ts : List St} {q l : List (Nat × Blk)} {bef : List Nat} {pl : List (Oper × Nat)} {j : Nat} {E : List CkE}
def OW (v : Value) (e : TypeId) (z : Nat) (c : List Value) (m : Nat) (fr : List (Nat × Blk)) : Prop :=
 (v = .slice none 0 0 ∧ c = [] ∧ m = 0 ∧ fr = []) ∨ ∃ b dd, v = .slice (some ⟨b, 0, none⟩) m m ∧ c.length = m * z ∧ fr = (b, .cells c e true true (dd.map (·.1))) :: dd
theorem OW.is {v : Value} {e : TypeId} {z m : Nat} {c : List Value} {fr : List (Nat × Blk)} (h : OW v e z c m fr) : ∃ a, v = .slice a m m := by
 rcases h with ⟨rfl, _, rfl, _⟩ | ⟨b, dd, rfl, _, _⟩
 ·exact ⟨none, rfl⟩
 ·exact ⟨_, rfl⟩
theorem OW.ls {α : Type} {f : α → List Value} {C : List α} {v : Value} {e : TypeId} {z : Nat} {fr : List (Nat × Blk)} (hz : ∀ x, (f x).length = z) (h : OW v e z ((C.map f).flatten) C.length fr) (hl : HoldG S0 Ts S (q ++ (fr ++ l)) []) : LsOf e z f S v C := by
 rcases h with ⟨rfl, _, h3, _⟩ | ⟨b, dd, rfl, _, rfl⟩
 ·have : C = [] := List.length_eq_zero_iff.1 h3
  subst this
  exact LsOf.nil
 ·obtain ⟨h1, _, h2⟩ := hl.at_ b _ (List.mem_append.2 (.inr (List.mem_append.2 (.inl (List.mem_cons_self ..)))))
  exact LsOf.row hz ⟨h2, _, _, h1⟩ rfl
theorem append_stepW {v : Value} {e : TypeId} {z len : Nat} {c : List Value} {fr : List (Nat × Blk)} (hl : HoldG S0 Ts S (q ++ (fr ++ l)) []) (hg : OW v e z c len fr) {ts : Array TypeId} {sT xT : TypeId} {xd : TypeDesc} {x : Value} {m : Nat} {new : List Value}
  (hts : ts.toList = [sT, xT]) (hu : P.underlying sT = some (.slice e)) (hux : P.underlying xT = some xd) (hi : isIntT xd = false) (hlen : lenOfV x = some m) (hm : 0 < m) (hz : szOf P e = some z) (hs : sourceCells S z m x = some new)
  (hnl : new.length = m * z) (hc : new.all cellV = true) (hgb : growB P e z = true) (hneed : len + m ≤ maxNeed) :
  ∃ v' fr' S', builtinV P .append ts.toList [v, x] S = some (v', S') ∧ OW v' e z (c ++ new) (len + m) fr' ∧ HoldG S0 Ts S' (q ++ (fr' ++ l)) [] := by
 have hl := hl.perm (List.perm_append_comm_assoc q fr l)
 suffices h : ∃ v' fr' S', builtinV P .append ts.toList [v, x] S = some (v', S') ∧ OW v' e z (c ++ new) (len + m) fr' ∧ HoldG S0 Ts S' (fr' ++ (q ++ l)) [] by
  obtain ⟨v', fr', S', h1, h2, h3⟩ := h
  exact ⟨v', fr', S', h1, h2, h3.perm (List.perm_append_comm_assoc fr' q l)⟩
 rcases hg with ⟨rfl, rfl, rfl, rfl⟩ | ⟨b, dd, rfl, hcl, rfl⟩
 ·refine ⟨.slice (some ⟨S.size, 0, none⟩) m m, [(S.size, .cells new e true true [])], (S.new (.cells new e true true [])).2, ?_, .inr ⟨S.size, [], by rw [Nat.zero_add], by rw [Nat.zero_add]; exact hnl, rfl⟩, hl.new _⟩
  unfold builtinV
  simp only
  have hb : Nat.ble (0 + m) 0 = false := by
   cases hb : Nat.ble (0 + m) 0 with
   | false => rfl
   | true => have := Nat.le_of_ble_eq_true hb; omega
  have : appendV P ts.toList (.slice none 0 0) x S = some (.slice (some ⟨S.size, 0, none⟩) m m, (S.new (.cells new e true true [])).2) := by
   unfold appendV
   rw [hts]
   simp only [hu, hux, hlen, hi, hz, hs, cond_false]
   unfold append2 append2.cellsAll
   rw [hb, growOk_of hgb hneed, hc]
   simp only [cond_false, Bool.and_self, cond_true]
   unfold appendOut
   simp only [nbeq_tt, cond_true, List.nil_append]
   rfl
  rw [this]
 ·have h0 : S.get b = some (.cells c e true true (dd.map (·.1))) := hl.get 0 rfl
  have hm0 := hl.at_ b _ (List.mem_cons_self ..)
  have hl1 : HoldG S0 Ts (S.set b (.cells c e true false (dd.map (·.1)))) ((b, .cells c e true false (dd.map (·.1))) :: (dd ++ (q ++ l))) [] := by
   refine ⟨hl.keep.set hm0.2.1 hm0.2.2 _, hl.nd, fun k y hk => ?_, fun T ht => (hl.rk T ht).trans (rk_flag h0), fun g hg => (List.not_mem_nil hg).elim⟩
   rcases List.mem_cons.1 hk with e1 | hk2
   ·cases e1
    exact ⟨by rw [get_set', if_pos rfl], hm0.2.1, hm0.2.2⟩
   ·obtain ⟨k1, k2, k3⟩ := hl.at_ k y (List.mem_cons_of_mem _ hk2)
    refine ⟨?_, k2, k3⟩
    rw [get_set', if_neg]
    ·exact k1
    ·rintro rfl
     have := hl.nd
     exact (List.nodup_cons.1 this).1 (List.mem_map.2 ⟨_, hk2, rfl⟩)
  have hl2 := hl1.new (.cells (c ++ new) e true true (b :: dd.map (·.1)))
  refine ⟨_, (_, .cells (c ++ new) e true true (b :: dd.map (·.1))) :: (b, .cells c e true false (dd.map (·.1))) :: dd, _, ?_, .inr ⟨_, (b, .cells c e true false (dd.map (·.1))) :: dd, rfl, by rw [List.length_append, hcl, hnl, Nat.add_mul], rfl⟩, hl2⟩
  unfold builtinV
  simp only
  have hb : Nat.ble (len + m) len = false := by
   cases hb : Nat.ble (len + m) len with
   | false => rfl
   | true => have := Nat.le_of_ble_eq_true hb; omega
  have : appendV P ts.toList (.slice (some ⟨b, 0, none⟩) len len) x S = some (.slice (some ⟨(S.set b (.cells c e true false (dd.map (·.1)))).size, 0, none⟩) (len + m) (len + m), ((S.set b (.cells c e true false (dd.map (·.1)))).new (.cells (c ++ new) e true true (b :: dd.map (·.1)))).2) := by
   unfold appendV
   rw [hts]
   simp only [hu, hux, hlen, hi, hz, hs, cond_false]
   unfold append2 append2.cellsAll
   rw [hb, growOk_of hgb hneed, hc]
   simp only [cond_false, Bool.and_self, cond_true]
   unfold appendOut
   have ht : takeN (len * z) (dropN 0 c) = some c := by
    show takeN (len * z) c = _
    rw [← hcl]; exact takeN_all _
   simp only [h0, ht, Nat.zero_add, hcl, nbeq_tt, Bool.and_self, cond_true]
   rfl
  rw [this]
theorem rp_appendW {v : Value} {e : TypeId} {z len : Nat} {c : List Value} {fr : List (Nat × Blk)} {k : Nat} (hl : HoldG S0 Ts S (q ++ (fr ++ l)) []) (hg : OW v e z c len fr) {ar : Array Operand} {ts : Array TypeId} {sT xT : TypeId} {xd : TypeDesc} {x : Value} {m : Nat} {new : List Value}
  (ho : nth pl k = some (o, j)) (hop : o.op = .call ⟨.builtin .append, ar, ts⟩) (hw : wantE ops L o = some true) (hdst : o.dst = some d) (hlt : Nat.blt d n = true) (hx : Cm.evs L ar.toList = some [v, x]) (hts : ts.toList = [sT, xT])
  (hu : P.underlying sT = some (.slice e)) (hux : P.underlying xT = some xd) (hi : isIntT xd = false) (hlen : lenOfV x = some m) (hm : 0 < m) (hz : szOf P e = some z) (hs : sourceCells S z m x = some new)
  (hnl : new.length = m * z) (hc : new.all cellV = true) (hgb : growB P e z = true) (hneed : len + m ≤ maxNeed)
  (h : ∀ v' fr' S', OW v' e z (c ++ new) (len + m) fr' → HoldG S0 Ts S' (q ++ (fr' ++ l)) [] → Stays P n S' ((nth bef j).getD 0) E ∧ RP P K n ops bef pl (k + 1) (left ((nth bef j).getD 0) E) ((d, v') :: L) S' Q) : RP P K n ops bef pl k E L S Q := by
 obtain ⟨v', fr', S', h1, h2, h3⟩ := append_stepW hl hg hts hu hux hi hlen hm hz hs hnl hc hgb hneed
 exact rp_heavyD ho (by rw [hop]; rfl) hw hdst hlt (fun a ha => ⟨0, by rw [hop]; unfold stepOp; simp only [kindOf, evs_eq ha hx, h1]⟩) (h v' fr' S' h2 h3).1 (h v' fr' S' h2 h3).2
theorem re_appendW {v : Value} {e : TypeId} {z len : Nat} {c : List Value} {fr : List (Nat × Blk)} (hl : HoldG S0 Ts S (q ++ (fr ++ l)) []) (hg : OW v e z c len fr) {ar : Array Operand} {ts : Array TypeId} {sT xT : TypeId} {xd : TypeDesc} {x : Value} {m : Nat} {new : List Value}
  (ho : nth ops i = some o) (hop : o.op = .call ⟨.builtin .append, ar, ts⟩) (hw : wantE ops L o = some true) (hdst : o.dst = some d) (hlt : Nat.blt d n = true) (hx : Cm.evs L ar.toList = some [v, x]) (hts : ts.toList = [sT, xT])
  (hu : P.underlying sT = some (.slice e)) (hux : P.underlying xT = some xd) (hi : isIntT xd = false) (hlen : lenOfV x = some m) (hm : 0 < m) (hz : szOf P e = some z) (hs : sourceCells S z m x = some new)
  (hnl : new.length = m * z) (hc : new.all cellV = true) (hgb : growB P e z = true) (hneed : len + m ≤ maxNeed)
  (h : ∀ v' fr' S', OW v' e z (c ++ new) (len + m) fr' → HoldG S0 Ts S' (q ++ (fr' ++ l)) [] → RE P K n ops (i + 1) ((d, v') :: L) S' Q) : RE P K n ops i L S Q := by
 obtain ⟨v', fr', S', h1, h2, h3⟩ := append_stepW hl hg hts hu hux hi hlen hm hz hs hnl hc hgb hneed
 exact re_builtin ho hop hw hdst hlt rfl hx h1 (h v' fr' S' h2 h3)
theorem OW.push {α : Type} {f : α → List Value} {C : List α} {s : α} {a : Option Addr} {e : TypeId} {z : Nat} {fr : List (Nat × Blk)} (h : OW (.slice a (C.length + 1) (C.length + 1)) e z ((C.map f).flatten ++ f s) (C.length + 1) fr) : OW (.slice a (C ++ [s]).length (C ++ [s]).length) e z (((C ++ [s]).map f).flatten) (C ++ [s]).length fr := by
 rw [flat_push, List.length_append]
 exact h
theorem _root_.Go.Cm.HoldG.putW {r dd : List (Nat × Blk)} {b : Nat} {c : List Value} {e : TypeId} (h : HoldG S0 [S0] S (r ++ (b, .cells c e true true (dd.map (·.1))) :: dd) []) (y : Blk) :
  HoldG S0 [S0] ((S.kill (dd.map (·.1))).set b y) (r ++ [(b, y)]) [] := by
 generalize hks : dd.map (·.1) = ks at *
 have hnd := h.nd
 rw [List.map_append, List.map_cons, hks] at hnd
 have hb := h.at_ b _ (List.mem_append.2 (.inr (List.mem_cons_self ..)))
 have hks : ∀ k, k ∈ ks → S0.size ≤ k := fun k hk => by
  rw [← hks] at hk
  obtain ⟨⟨k', x⟩, hx, rfl⟩ := List.mem_map.1 hk
  exact (h.at_ k' x (List.mem_append.2 (.inr (List.mem_cons_of_mem _ hx)))).2.1
 have hget : ∀ j, j ≠ b → j ∉ ks → ((S.kill ks).set b y).get j = S.get j := fun j h1 h2 => by
  rw [get_set', if_neg h1, kill_get, if_neg h2]
 have hsz : ((S.kill ks).set b y).size = S.size := kill_size ks S
 have hold : ∀ j, j < S0.size → ((S.kill ks).set b y).get j = S.get j := fun j hj => hget j (by have := hb.2.1; omega) (fun hm => by have := hks j hm; omega)
 have hdis := (List.nodup_append.1 hnd)
 refine ⟨⟨by rw [hsz]; exact h.keep.1, fun j hj => (hold j hj).trans (h.keep.2 j hj), fun f => ?_⟩, ?_, fun j x hx => ?_, fun T ht => ?_, fun g hg => (List.not_mem_nil hg).elim⟩
 ·intro j hj
  rw [hsz] at hj
  rw [get_set', if_neg (by have := hb.2.2; omega), kill_get]
  split
  ·rfl
  ·exact h.keep.3 f j hj
 ·rw [List.map_append, List.map_cons, List.map_nil]
  refine List.nodup_append.2 ⟨hdis.1, List.nodup_cons.2 ⟨List.not_mem_nil, List.nodup_nil⟩, fun a ha c hc => ?_⟩
  rw [List.mem_singleton.1 hc]
  exact hdis.2.2 a ha b (List.mem_cons_self ..)
 ·rw [hsz]
  rcases List.mem_append.1 hx with hx | hx
  ·have hm := h.at_ j x (List.mem_append.2 (.inl hx))
   have hj : j ∈ r.map (·.1) := List.mem_map.2 ⟨(j, x), hx, rfl⟩
   refine ⟨?_, hm.2⟩
   rw [hget j (hdis.2.2 j hj b (List.mem_cons_self ..)) (fun hk => hdis.2.2 j hj j (List.mem_cons_of_mem _ hk) rfl)]
   exact hm.1
  ·cases List.mem_singleton.1 hx
   exact ⟨by rw [get_set', if_pos rfl], hb.2⟩
 ·rw [List.mem_singleton.1 ht]
  refine ⟨by rw [hsz]; exact h.keep.1, fun j e2 c2 ⟨hj, own, kin, hg⟩ => ⟨by rw [hsz]; exact Nat.lt_of_lt_of_le hj h.keep.1, own, kin, ?_⟩⟩
  rw [hold j hj, h.keep.2 j hj]
  exact hg
theorem store_W {v : Value} {e : TypeId} {z m k : Nat} {c c' : List Value} {fr : List (Nat × Blk)} {t : TypeId} {u : Value} {a : Option Addr} (hl : HoldG S0 [S0] S (q ++ (fr ++ l)) []) (hg : OW v e z c m fr) (hm : 0 < m) (hv : v = .slice a m m)
  (hz : storeOk P t u = true) (hs : setN k (cellsL u) c = some c') (hcl : c'.length = c.length) : ∃ b S' fr', a = some ⟨b, 0, none⟩ ∧ storeV P t (ptrTo b k) u S = some S' ∧ OW v e z c' m fr' ∧ HoldG S0 [S0] S' (q ++ (fr' ++ l)) [] := by
 rcases hg with ⟨_, _, h, _⟩ | ⟨b, dd, rfl, h2, rfl⟩
 ·omega
 ·have hl := hl.perm (List.perm_append_comm_assoc q _ l)
  have hl2 := hl.perm (List.perm_append_comm)
  have hb := hl2.at_ b _ (List.mem_append.2 (.inr (List.mem_cons_self ..)))
  cases hv
  refine ⟨b, _, [(b, .cells c' e true true [])], rfl, store_rowK hz hb.1 hs, .inr ⟨b, [], rfl, by rw [hcl, h2], rfl⟩, ?_⟩
  exact ((hl2.putW (.cells c' e true true [])).perm List.perm_append_comm).perm (List.perm_append_comm_assoc [_] q l)
end
theorem set_len {α : Type} : ∀ (C : List α) (k : Nat) (y : α), (C.set k y).length = C.length := fun C k y => List.length_set
theorem setN_set {α : Type} {g : α → Value} : ∀ {C : List α} {k : Nat} (y : α), k < C.length → setN k [g y] ((C.map fun x => [g x]).flatten) = some ((((C.set k y).map fun x => [g x])).flatten)
 | [], _, _, h => by simp at h
 | x :: C, 0, y, _ => by
  show setN 0 [g y] (g x :: (C.map fun x => [g x]).flatten) = some (g y :: (C.map fun x => [g x]).flatten)
  exact setN_one _ _ _
 | x :: C, k + 1, y, h => by
  have := setN_set (g := g) (C := C) (k := k) y (by simpa using h)
  show setN (k + 1) [g y] (g x :: (C.map fun x => [g x]).flatten) = some (g x :: (((C.set k y).map fun x => [g x])).flatten)
  unfold setN
  rw [this]
end Go.Proofs.YtblhfojaiipboaaGreatDoor
namespace Go.Proofs.YtblhfojaiipboaaGreatDoor
open Go.Cm Go
set_option maxRecDepth 100000
variable {S : St}
def noteS (v p : Int) (c : Bool) : Sg := ⟨1, v, p, 0, c, 0, false, false, 0, 0, 0, 0, false, 0, 0, 0, 0⟩
def restS (v : Int) : Sg := ⟨2, v, 0, 0, false, 0, false, false, 0, 0, 0, 0, false, 0, 0, 0, 0⟩
def dotS : Sg := ⟨3, 0, 0, 0, false, 0, false, false, 0, 0, 0, 0, false, 0, 0, 0, 0⟩
def NR (s : Sg) : Prop := (∃ v p c, (1 ≤ v ∧ v ≤ 8) ∧ (0 ≤ p ∧ p ≤ 8) ∧ s = noteS v p c) ∨ ∃ v, (1 ≤ v ∧ v ≤ 8) ∧ s = restS v
inductive RunOk : List Sg → Prop
 | nil : RunOk []
 | one {R : List Sg} {s : Sg} (h : RunOk R) (hs : NR s) : RunOk (R ++ [s])
 | dot {R : List Sg} {v p : Int} {c : Bool} (h : RunOk R) (hv : 1 ≤ v ∧ v ≤ 8) (hp : 0 ≤ p ∧ p ≤ 8) : RunOk ((R ++ [noteS v p c]) ++ [dotS])
def valL : List Value := [.int .i64 3, .int .i64 4, .int .i64 4, .int .i64 5, .int .i64 5, .int .i64 3, .int .i64 2, .int .i64 6]
theorem val_at {k : Int} (h : 0 ≤ k ∧ k < 8) : ∃ x : Int, (1 ≤ x ∧ x ≤ 8) ∧ nth valL (0 + k.toNat * 1) = some (.int .i64 x) := by
 obtain rfl | rfl | rfl | rfl | rfl | rfl | rfl | rfl : k = 0 ∨ k = 1 ∨ k = 2 ∨ k = 3 ∨ k = 4 ∨ k = 5 ∨ k = 6 ∨ k = 7 := by omega
 all_goals exact ⟨_, by constructor <;> decide, rfl⟩
theorem nr_val {s : Sg} (h : NR s) : 1 ≤ s.value ∧ s.value ≤ 8 := by
 rcases h with ⟨v, p, c, hv, _, rfl⟩ | ⟨v, hv, rfl⟩ <;> exact hv
theorem nr_note {s : Sg} (h : NR s) (hk : (s.kind == 1) = true) : ∃ v p c, (1 ≤ v ∧ v ≤ 8) ∧ (0 ≤ p ∧ p ≤ 8) ∧ s = noteS v p c := by
 rcases h with h | ⟨v, hv, rfl⟩
 ·exact h
 ·cases hk
abbrev gR (av : Option Addr) (R : List Sg) : Gr := gOf 32 17 Sg.cells (.slice av R.length R.length) R
noncomputable def cd7 : Code := Tryz.f7.body.getD .skip
theorem spec7 (a : Option Addr) (cap : Nat) (L : List Int) (hF : Fresh S) (hv : Ints S (.slice a L.length cap) L) : CC Tryz.prog KK 7 [m2, .slice a L.length cap, .int .i64 12] S (fun v S' => Keep S S' ∧ ∃ av R, v = .slice av R.length R.length ∧ RunOk R ∧ R.length ≤ 12 ∧ Grow S S' (gR av R)) := by
 refine cc_enter (c := cd7) (n := 81) Tryz.func7 rfl rfl rfl (by kernel_rfl) rfl rfl ?_
 have hl := Hold.start S
 refine zg ?_; refine re_boxL hl rfl rfl rfl rfl rfl rfl ?_
 intro B3 S3 hl
 refine zg ?_; refine re_buildSliceR hl rfl rfl rfl rfl rfl Tryz.underlying22 rfl (c := valL) (by kernel_rfl) ?_; intro B13 S1 hr13 hl
 have hl := hl.mark
 refine zA ?_; refine zS ?_; refine xp_seq rfl ?_; refine zS ?_; refine xp_block rfl ?_
 have hl := hl.addG (g := gR none []) (.inl ⟨rfl, rfl, rfl⟩)
 refine xe_sub (L' := [(9, .int .i64 (0 : Int)), (8, .slice none ([] : List Sg).length ([] : List Sg).length), (7, .slice (some ⟨B13, 0, none⟩) 8 8), (6, .slice none 0 0), (3, ptrTo B3 0), (1, .slice a L.length cap), (2, .int .i64 12)]) ⟨rfl, rfl, rfl, rfl, rfl, rfl, rfl, trivial⟩ ?_
 refine xp_loop rfl (fun m Le S' => ∃ (i : Nat) (av : Option Addr) (R : List Sg), i ≤ L.length ∧ m = L.length - i ∧ RunOk R ∧ (R.length ≤ 12 ∧ i ≤ R.length) ∧ SubE [(9, .int .i64 (i : Int)), (8, .slice av R.length R.length), (7, .slice (some ⟨B13, 0, none⟩) 8 8), (6, .slice none 0 0), (3, ptrTo B3 0), (1, .slice a L.length cap), (2, .int .i64 12)] Le ∧ HoldG S [S1, S] S' [(B3, .cells (cellsL m2) 28 false true [])] [gR av R]) ?_ (m := L.length) ⟨0, none, [], by omega, by omega, .nil, ⟨by decide, by decide⟩, ⟨rfl, rfl, rfl, rfl, rfl, rfl, rfl, trivial⟩, hl⟩
 clear hl; rintro m Le S' ⟨i, av, R, hi, rfl, hR, ⟨hR2, hiR⟩, hsub, hl⟩; refine xe_sub hsub ?_
 refine xp_seq rfl ?_; refine xp_seq rfl (xe_toE hl 23 (.bool (decide ((i : Int) < L.length) && decide ((R.length : Int) < 12))) ?_ rfl ?_)
 ·
  refine zg ?_; refine re_bool (d := 18) rfl (fun h18 => ?_) (fun h18 => ?_)
  ·
   refine zg ?_
   exact ⟨rfl, bl (by first | (simp [h18]; done) | (simp only [h18, BLs])), sB, hl⟩
  ·
   refine zg ?_
   exact ⟨rfl, bl (by first | (simp [h18]; done) | (simp only [h18, BLs])), sB, hl⟩
 intro S1' hl
 refine zg ?_
 constructor <;> intro h23
 ·
  rw [Bool.and_eq_true] at h23
  have hlt : i < L.length := by have := of_decide_eq_true h23.1; omega
  have hR3 : R.length < 12 := by have := of_decide_eq_true h23.2; omega
  obtain ⟨y, hy⟩ := nth_some hlt
  obtain ⟨b1, o1, cs1, ha, _, hrow, htk⟩ := hv.elem hy
  refine zg ?_
  refine zc hl rfl (spec8 _ 504 (by omega) (by omega)) ?_; rintro v S2 hk1 rfl hl
  have hm := modE_bd y (n := 504) (by omega)
  have hm8 := rem_bd (a := modE y 504) (b := 8) (by omega) hm.1
  have hi9 := rem_bd (a := (i : Int)) (b := 9) (by omega) (by omega)
  obtain ⟨x, hx8, hxv⟩ := val_at hm8
  refine zg ?_; refine rr rfl (rd_build rfl rfl (v := (noteS x ((i : Int).tmod 9) false).v) (by rfl)) ?_; refine re_allocL hl rfl rfl rfl rfl rfl (z := dotS.cells.set 0 (.int .i64 0)) (by kernel_rfl) ?_
  intro B11 S11 hl
  refine re_storeL hl 0 rfl rfl rfl rfl rfl rfl rfl (by kernel_rfl) (c' := (noteS x ((i : Int).tmod 9) false).cells) rfl ?_
  intro S12 hl
  refine zA ?_; refine xp_seq rfl (xe_cut (fun Le S' => ∃ s, NR s ∧ SubE [(11, ptrTo B11 0), (10, .int .i64 (modE y 504)), (9, .int .i64 (i : Int)), (8, .slice av R.length R.length), (7, .slice (some ⟨B13, 0, none⟩) 8 8), (6, .slice none 0 0), (3, ptrTo B3 0), (1, .slice a L.length cap), (2, .int .i64 12)] Le ∧ HoldG S [S1, S] S' [(B11, .cells s.cells 32 false true []), (B3, .cells (cellsL m2) 28 false true [])] [gR av R]) ?_ ?_)
  ·
   refine zg ?_
   constructor <;> intro h42
   ·
    refine zg ?_; refine rr rfl (rd_build rfl rfl (v := (restS x).v) (by rfl)) ?_; refine re_storeL hl 0 rfl rfl rfl rfl rfl rfl rfl (by kernel_rfl) (c' := (restS x).cells) rfl ?_
    intro S13 hl
    refine zg ?_
    exact ⟨rfl, restS x, .inr ⟨x, hx8, rfl⟩, ⟨rfl, rfl, rfl, rfl, rfl, rfl, rfl, rfl, rfl, trivial⟩, hl⟩
   ·
    refine xp_seq rfl (xe_toE hl 47 (.bool ((((modE y 504).tdiv 8).tmod 9 == 1) || (((modE y 504).tdiv 8).tmod 9 == 2))) ?_ rfl ?_)
    ·
     refine zg ?_
     constructor <;> intro h47
     ·
      refine zg ?_
      exact ⟨rfl, bl (by first | (simp [h47]; done) | (simp only [h47, BLs])), sB, hl⟩
     ·
      refine zg ?_
      exact ⟨rfl, bl (by first | (simp [h47]; done) | (simp only [h47, BLs])), sB, hl⟩
    intro S14 hl
    refine zg ?_
    constructor <;> intro h47
    ·
     refine zg ?_; refine re_storeL hl 0 rfl rfl rfl rfl rfl rfl rfl (by kernel_rfl) (c' := (noteS x ((i : Int).tmod 9) true).cells) rfl ?_
     intro S13 hl
     refine zg ?_
     exact ⟨rfl, noteS x ((i : Int).tmod 9) true, .inl ⟨x, _, true, hx8, ⟨hi9.1, by omega⟩, rfl⟩, ⟨rfl, rfl, rfl, rfl, rfl, rfl, rfl, rfl, rfl, trivial⟩, hl⟩
    ·
     refine zg ?_
     exact ⟨rfl, noteS x ((i : Int).tmod 9) false, .inl ⟨x, _, false, hx8, ⟨hi9.1, by omega⟩, rfl⟩, ⟨rfl, rfl, rfl, rfl, rfl, rfl, rfl, rfl, rfl, trivial⟩, hl⟩
  clear hl; rintro Le3 S15 ⟨s, hs, hsub3, hl⟩; refine xe_sub hsub3 ?_
  refine zg ?_; refine re_buildSliceR hl rfl rfl rfl rfl rfl Tryz.underlying23 rfl (c := s.cells) (by kernel_rfl) ?_; intro B53 S16 hr53 hl; refine re_appendG hl 0 rfl rfl (by simp) rfl rfl rfl rfl rfl rfl rfl Tryz.underlying23 Tryz.underlying23 rfl rfl (by kernel_rfl) (src_row (new := s.cells) hr53 rfl) rfl rfl (by kernel_rfl) (by show R.length + 1 ≤ maxNeed; unfold maxNeed; omega) ?_; intro v54 S17 hl
  obtain ⟨av2, rfl⟩ : ∃ av2, v54 = .slice av2 (R.length + 1) (R.length + 1) := Grow.is (hl.gr _ (List.mem_cons_self ..))
  obtain ⟨R2, hRd⟩ : ∃ R2, R2 = R ++ [s] := ⟨_, rfl⟩
  have e1 : R.length + 1 = R2.length := by rw [hRd]; simp
  have hl : HoldG S [S1, S] S17 [(B11, .cells s.cells 32 false true []), (B3, .cells (cellsL m2) 28 false true [])] [gR av2 R2] := by
   rw [hRd, gR, gOf_push]
   exact hl
  rw [e1]
  refine zA ?_
  have hq := quo_bd (a := modE y 504) (b := 72) (by omega) hm.1
  refine xp_seq rfl (xe_toE hl 12 (.bool (((modE y 504).tdiv 72 == 0) && decide ((R2.length : Int) < 12))) ?_ rfl ?_)
  ·
   refine zg ?_; refine re_bool (d := 58) rfl (fun h58 => ?_) (fun h58 => ?_)
   ·
    refine zg ?_
    exact ⟨rfl, bl (by first | (simp [h58]; done) | (simp only [h58, BLs])), sB, hl⟩
   ·
    refine zg ?_
    exact ⟨rfl, bl (by first | (simp [h58]; done) | (simp only [h58, BLs])), sB, hl⟩
  intro S18 hl
  generalize hc12 : (((modE y 504).tdiv 72 == 0) && decide ((R2.length : Int) < 12)) = c12
  refine xp_seq rfl (xe_toE hl 75 (.bool (c12 && (s.kind == 1))) ?_ rfl ?_)
  ·
   refine zg ?_; refine re_bool (d := 65) rfl (fun h65 => ?_) (fun h65 => ?_)
   ·
    refine zg ?_; refine re_bool (d := 69) rfl (fun h69 => ?_) (fun h69 => ?_)
    ·
     refine zg ?_
     exact ⟨rfl, bl (by rw [h65, h69]; rfl), sB, hl⟩
    ·
     refine zg ?_
     refine zc hl rfl (kabove (nr_val hs)) ?_; rintro v S19 hk1 rfl hl
     refine zg ?_
     exact ⟨rfl, bl (by rw [h65, h69]; rfl), sB, hl⟩
   ·
    refine zg ?_
    exact ⟨rfl, bl (by rw [h65]; rfl), sB, hl⟩
  intro S20 hl
  refine zg ?_
  constructor <;> intro h75
  ·
   rw [Bool.and_eq_true] at h75
   have hR4 : R2.length < 12 := by have := h75.1; rw [← hc12, Bool.and_eq_true] at this; have := of_decide_eq_true this.2; omega
   obtain ⟨v, p, c, hv1, hp1, rfl⟩ := nr_note hs h75.2
   refine zg ?_; refine rr rfl (rd_build rfl rfl (v := dotS.v) (by rfl)) ?_; refine re_buildSliceR hl rfl rfl rfl rfl rfl Tryz.underlying23 rfl (c := dotS.cells) (by kernel_rfl) ?_; intro B78 S21 hr78 hl; refine re_appendG hl 0 rfl rfl (by simp) rfl rfl rfl rfl rfl rfl rfl Tryz.underlying23 Tryz.underlying23 rfl rfl (by kernel_rfl) (src_row (new := dotS.cells) hr78 rfl) rfl rfl (by kernel_rfl) (by show R2.length + 1 ≤ maxNeed; unfold maxNeed; omega) ?_; intro v79 S22 hl
   obtain ⟨av3, rfl⟩ : ∃ av3, v79 = .slice av3 (R2.length + 1) (R2.length + 1) := Grow.is (hl.gr _ (List.mem_cons_self ..))
   refine zg ?_
   refine ⟨L.length - (i + 1), by omega, i + 1, av3, R2 ++ [dotS], by omega, rfl, ?_, ⟨by rw [List.length_append]; show R2.length + 1 ≤ 12; omega, by rw [List.length_append]; show i + 1 ≤ R2.length + 1; omega⟩, ⟨rfl, congrArg some (congrArg (fun n => Value.slice av3 n n) (by rw [List.length_append]; rfl)), rfl, rfl, rfl, rfl, rfl, trivial⟩, ?_⟩
   ·rw [hRd]; exact .dot hR hv1 hp1
   ·rw [gR, gOf_push]; exact hl.tail
  ·
   refine zg ?_
   exact ⟨L.length - (i + 1), by omega, i + 1, av2, R2, by omega, rfl, by rw [hRd]; exact .one hR hs, ⟨by omega, by omega⟩, ⟨rfl, rfl, rfl, rfl, rfl, rfl, rfl, trivial⟩, hl.tail⟩
 ·
  refine zg ?_
  refine y1 rfl ⟨hl.keep, av, R, rfl, hR, hR2, hl.gr _ (List.mem_cons_self ..)⟩
end Go.Proofs.YtblhfojaiipboaaGreatDoor
namespace Go.Proofs.YtblhfojaiipboaaGreatDoor
open Go.Cm Go
set_option maxRecDepth 100000
variable {S : St}
def clefS : Sg := ⟨7, 0, 0, 0, false, 0, false, false, 0, 0, 0, 0, false, 0, 0, 0, 3⟩
def mensS (b : Bool) : Sg := ⟨5, 0, 0, 0, false, 0, false, false, 2, 2, 2, 2, b, 0, 0, 0, 0⟩
def turnS : Sg := ⟨11, 0, 0, 0, false, 0, false, false, 0, 0, 0, 0, false, 0, 0, 0, 0⟩
def signumS : Sg := ⟨12, 0, 0, 0, false, 0, false, false, 0, 0, 0, 0, false, 0, 0, 0, 0⟩
def openS : Sg := ⟨9, 0, 0, 0, false, 0, false, false, 0, 0, 0, 0, false, 0, 0, 0, 0⟩
def closeS (n : Int) : Sg := ⟨10, 0, 0, 0, false, 0, false, false, 0, 0, 0, 0, false, n, 0, 0, 0⟩
def propS : Sg := ⟨6, 0, 0, 0, false, 0, false, false, 0, 0, 0, 0, false, 3, 2, 0, 0⟩
def EX (s : Sg) : Prop := s = turnS ∨ s = signumS ∨ s = openS ∨ (∃ n, (2 ≤ n ∧ n ≤ 4) ∧ s = closeS n) ∨ (∃ b, s = mensS b) ∨ s = propS
theorem nth_app_l {α : Type} {C D : List α} {i : Nat} (h : i < C.length) : nth (C ++ D) i = nth C i := by rw [nth_eq, nth_eq, List.getElem?_append_left h]
theorem nth_app_r {α : Type} {C : List α} {s : α} : nth (C ++ [s]) C.length = some s := by rw [nth_eq]; simp
theorem nth_app {α : Type} {C : List α} {s x : α} {i : Nat} (h : nth (C ++ [s]) i = some x) : nth C i = some x ∨ (i = C.length ∧ x = s) := by
 rcases Nat.lt_trichotomy i C.length with hi | hi | hi
 ·rw [nth_app_l hi] at h; exact .inl h
 ·subst hi; rw [nth_app_r] at h; cases h; exact .inr ⟨rfl, rfl⟩
 ·have := nth_lt h; simp at this; omega
theorem RunOk.at_ {R : List Sg} (h : RunOk R) : ∀ {j : Nat} {s : Sg}, nth R j = some s → NR s ∨ (s = dotS ∧ ∃ k v p c, j = k + 1 ∧ (1 ≤ v ∧ v ≤ 8) ∧ (0 ≤ p ∧ p ≤ 8) ∧ nth R k = some (noteS v p c)) := by
 induction h with
 | nil => intro j s h; cases h
 | @one R t hR ht ih =>
  intro j s h
  rcases nth_app h with h | ⟨_, rfl⟩
  ·rcases ih h with h2 | ⟨h2, k, v, p, c, e, h3, h4, h5⟩
   ·exact .inl h2
   ·exact .inr ⟨h2, k, v, p, c, e, h3, h4, by rw [nth_app_l (nth_lt h5)]; exact h5⟩
  ·exact .inl ht
 | @dot R v p c hR hv hp ih =>
  intro j s h
  rcases nth_app h with h | ⟨hj, rfl⟩
  ·rcases nth_app h with h | ⟨_, rfl⟩
   ·rcases ih h with h2 | ⟨h2, k, v2, p2, c2, e, h3, h4, h5⟩
    ·exact .inl h2
    ·exact .inr ⟨h2, k, v2, p2, c2, e, h3, h4, by rw [List.append_assoc, nth_app_l (nth_lt h5)]; exact h5⟩
   ·exact .inl (.inl ⟨v, p, c, hv, hp, rfl⟩)
  ·rw [List.length_append] at hj
   exact .inr ⟨rfl, R.length, v, p, c, hj, hv, hp, by rw [nth_app_l (by simp)]; exact nth_app_r⟩
structure LnOk (C : List Sg) : Prop where
 c0 : nth C 0 = some clefS
 c1 : nth C 1 = some (mensS false)
 el : ∀ j s, nth C (j + 2) = some s → NR s ∨ EX s ∨ (s = dotS ∧ ∃ v p c, (1 ≤ v ∧ v ≤ 8) ∧ (0 ≤ p ∧ p ≤ 8) ∧ nth C (j + 1) = some (noteS v p c))
theorem LnOk.start : LnOk [clefS, mensS false] := ⟨rfl, rfl, fun _ _ h => by cases h⟩
theorem LnOk.app {C : List Sg} {s : Sg} (h : LnOk C) (hs : NR s ∨ EX s) : LnOk (C ++ [s]) := by
 refine ⟨by rw [nth_app_l (nth_lt h.c0)]; exact h.c0, by rw [nth_app_l (nth_lt h.c1)]; exact h.c1, fun j x hx => ?_⟩
 rcases nth_app hx with hx | ⟨_, rfl⟩
 ·rcases h.el j x hx with h2 | h2 | ⟨h2, v, p, c, h3, h4, h5⟩
  ·exact .inl h2
  ·exact .inr (.inl h2)
  ·exact .inr (.inr ⟨h2, v, p, c, h3, h4, by rw [nth_app_l (nth_lt h5)]; exact h5⟩)
 ·rcases hs with hs | hs
  ·exact .inl hs
  ·exact .inr (.inl hs)
theorem LnOk.dot {C : List Sg} {v p : Int} {c : Bool} (h : LnOk C) (hv : 1 ≤ v ∧ v ≤ 8) (hp : 0 ≤ p ∧ p ≤ 8) (hn : nth C (C.length - 1) = some (noteS v p c)) : LnOk (C ++ [dotS]) := by
 refine ⟨by rw [nth_app_l (nth_lt h.c0)]; exact h.c0, by rw [nth_app_l (nth_lt h.c1)]; exact h.c1, fun j x hx => ?_⟩
 rcases nth_app hx with hx | ⟨hj, rfl⟩
 ·rcases h.el j x hx with h2 | h2 | ⟨h2, v, p, c, h3, h4, h5⟩
  ·exact .inl h2
  ·exact .inr (.inl h2)
  ·exact .inr (.inr ⟨h2, v, p, c, h3, h4, by rw [nth_app_l (nth_lt h5)]; exact h5⟩)
 ·refine .inr (.inr ⟨rfl, v, p, c, hv, hp, ?_⟩)
  rw [show C.length - 1 = j + 1 by omega] at hn
  rw [nth_app_l (nth_lt hn)]; exact hn
theorem quoW {P : Program} {t : TypeId} {xo yo : Operand} {a b : Int} (hb : b ≠ 0) : binV P .quo t xo yo (.int .i64 a) (.int .i64 b) = some (.int .i64 (IntKind.i64.wrap (a.tdiv b))) := by
 show (if b = 0 then none else some (Value.int .i64 (IntKind.i64.wrap (a.tdiv b)))) = _
 rw [if_neg hb]
def LastN (R C : List Sg) (i : Nat) : Prop := ∀ k v p c, i = k + 1 → nth R k = some (noteS v p c) → nth C (C.length - 1) = some (noteS v p c)
theorem last_app {R C : List Sg} {i : Nat} {s : Sg} (h : nth R i = some s) : LastN R (C ++ [s]) (i + 1) := by
 intro k v p c e hk
 obtain rfl : i = k := by omega
 rw [h] at hk; cases hk
 rw [List.length_append]
 exact nth_app_r
abbrev OwS (av : Option Addr) (C : List Sg) (fr : List (Nat × Blk)) : Prop := OW (.slice av C.length C.length) 32 17 ((C.map Sg.cells).flatten) C.length fr
noncomputable def cd4 : Code := Tryz.f4.body.getD .skip
theorem spec4 (a : Option Addr) (cap : Nat) (L : List Int) (hF : Fresh S) (hv : Ints S (.slice a L.length cap) L) : CC Tryz.prog KK 4 [m2, .slice a L.length cap, .int .i64 12] S (fun v S' => Keep S S' ∧ ∃ av C, v = aggL [.string partS, .slice av C.length C.length] ∧ LnOk C ∧ C.length ≤ 27 ∧ ∃ fr, OwS av C fr ∧ HoldG S [S] S' fr []) := by
 refine cc_enter (c := cd4) (n := 119) Tryz.func4 rfl rfl rfl (by kernel_rfl) rfl rfl ?_
 have hl := Hold.start S
 refine zg ?_; refine re_boxL hl rfl rfl rfl rfl rfl rfl ?_
 intro B3 S3 hl
 refine re_allocL hl rfl rfl rfl rfl rfl (z := [.string ⟨#[]⟩, .slice none 0 0]) (by kernel_rfl) ?_
 intro B6 S6 hl
 refine zg ?_; refine rr rfl (rd_build rfl rfl (v := aggL [.int .i64 0, .int .i64 3]) (by rfl)) ?_; refine rr rfl (rd_build rfl rfl (v := clefS.v) (by rfl)) ?_; refine zg ?_; refine rr rfl (rd_build rfl rfl (v := (mensS false).v) (by rfl)) ?_; refine re_buildSliceB hl rfl rfl rfl rfl rfl Tryz.underlying23 rfl (c := clefS.cells ++ (mensS false).cells) (by kernel_rfl) ?_; intro B17 S17 hl; refine zg ?_
 refine zc hl rfl (spec7 a cap L (hl.keep.3 hF) (hv.move (hl.since 0 rfl))) ?_; rintro v S18 hk1 ⟨ar, R, rfl, hR, hR2, hgR⟩ hl
 have hl := hl.mark.perm (List.perm_append_comm (l₁ := [_]))
 have hO : OwS (some ⟨B17, 0, none⟩) [clefS, mensS false] [(B17, .cells (clefS.cells ++ (mensS false).cells) 32 true true [])] := .inr ⟨B17, [], rfl, rfl, rfl⟩
 have hRs : Sgs S18 (.slice ar R.length R.length) R := Grow.ls (f := Sg.cells) (fun _ => rfl) hgR
 refine zA ?_; refine zS ?_; refine xp_seq rfl ?_; refine zS ?_; refine xp_block rfl ?_; refine xe_sub (L' := [(10, .int .i64 (0 : Int)), (9, .bool false), (8, .slice ar R.length R.length), (7, .slice (some ⟨B17, 0, none⟩) [clefS, mensS false].length [clefS, mensS false].length), (6, ptrTo B6 0), (3, ptrTo B3 0), (1, .slice a L.length cap)]) ⟨rfl, rfl, rfl, rfl, rfl, rfl, rfl, trivial⟩ ?_
 refine xp_loop rfl (fun m Le S' => ∃ (i : Nat) (op : Bool) (av : Option Addr) (C : List Sg), i ≤ R.length ∧ m = R.length - i ∧ LnOk C ∧ C.length ≤ 2 + 2 * i ∧ LastN R C i ∧ SubE [(10, .int .i64 (i : Int)), (9, .bool op), (8, .slice ar R.length R.length), (7, .slice av C.length C.length), (6, ptrTo B6 0), (3, ptrTo B3 0), (1, .slice a L.length cap)] Le ∧ ∃ fr, OwS av C fr ∧ HoldG S [S18, S] S' ([(B6, .cells [.string ⟨#[]⟩, .slice none 0 0] 25 false true []), (B3, .cells (cellsL m2) 28 false true [])] ++ (fr ++ [])) []) ?_ (m := R.length) ⟨0, false, _, _, by omega, by omega, .start, by decide, (fun k v p c e => by omega), ⟨rfl, rfl, rfl, rfl, rfl, rfl, rfl, trivial⟩, _, hO, hl⟩
 clear hl; clear hO; rintro m Le S' ⟨i, op, av, C, hi, rfl, hC, hCl, hLn, hsub, fr, hO, hl⟩; refine xe_sub hsub ?_
 refine zg ?_
 constructor <;> intro h25
 ·
  have hlt : i < R.length := by have := of_decide_eq_true h25; omega
  obtain ⟨s, hs⟩ := nth_some hlt
  obtain ⟨b1, o1, cs1, ha, _, hrow, htk⟩ := hRs.elem hs
  have hi3 := rem_bd (a := (i : Int)) (b := 3) (by omega) (by omega)
  have hi2 := rem_bd (a := (i : Int)) (b := 2) (by omega) (by omega)
  refine xp_skip rfl ?_; refine xp_seq rfl ?_; refine xp_block rfl ?_; refine zS ?_; refine xp_seq rfl (xe_cut (fun Le S' => ∃ (av2 : Option Addr) (C2 : List Sg) (op2 : Bool), LnOk C2 ∧ C2.length ≤ C.length + 1 ∧ (s.kind = 3 → C2 = C) ∧ SubE [(10, .int .i64 (i : Int)), (9, .bool op2), (8, .slice ar R.length R.length), (7, .slice av2 C2.length C2.length), (6, ptrTo B6 0), (3, ptrTo B3 0), (1, .slice a L.length cap)] Le ∧ ∃ fr, OwS av2 C2 fr ∧ HoldG S [S18, S] S' ([(B6, .cells [.string ⟨#[]⟩, .slice none 0 0] 25 false true []), (B3, .cells (cellsL m2) 28 false true [])] ++ (fr ++ [])) []) ?_ ?_)
  ·
   refine zg ?_
   refine zc hl rfl (spec9 a cap L i (hv.move (hl.since 1 rfl))) ?_; rintro v S20 hk1 rfl hl
   refine zA ?_; refine rr rfl (rd_bin rfl rfl rfl (quoW (by decide))) ?_
   refine zc hl rfl (spec8 _ 23 (by omega) (by omega)) ?_; rintro v S21 hk1 rfl hl
   refine zg ?_; refine rr rfl (rd_un rfl rfl rfl) ?_; refine zg ?_
   constructor <;> intro h40
   ·
    have hk3 : s.kind ≠ 3 := by intro e; rw [e] at h40; cases h40
    refine zg ?_
    constructor <;> intro h41
    ·
     refine zg ?_; refine rr rfl (rd_build rfl rfl (v := (turnS).v) (by rfl)) ?_; refine re_buildSliceR hl rfl rfl rfl rfl rfl Tryz.underlying23 rfl (c := (turnS).cells) (by kernel_rfl) ?_; intro Bx Sx hrx hl; refine re_appendW hl hO rfl rfl rfl rfl rfl rfl rfl Tryz.underlying23 Tryz.underlying23 rfl rfl (by decide) (by kernel_rfl) (src_row (new := (turnS).cells) hrx rfl) rfl rfl (by kernel_rfl) (by show C.length + 1 ≤ maxNeed; unfold maxNeed; omega) ?_; intro vx frx S3x hOx hl
     obtain ⟨av3, rfl⟩ := hOx.is
     refine zg ?_
     refine ⟨rfl, av3, C ++ [turnS], op, hC.app (.inr (.inl rfl)), by rw [List.length_append]; exact Nat.le_refl _, (fun hk => absurd hk hk3), ⟨rfl, rfl, rfl, congrArg some (congrArg (fun n => Value.slice av3 n n) (by rw [List.length_append]; rfl)), rfl, rfl, rfl, trivial⟩, frx, hOx.push, hl⟩
    ·
     refine zg ?_
     constructor <;> intro h48
     ·
      refine zg ?_; refine rr rfl (rd_build rfl rfl (v := (signumS).v) (by rfl)) ?_; refine re_buildSliceR hl rfl rfl rfl rfl rfl Tryz.underlying23 rfl (c := (signumS).cells) (by kernel_rfl) ?_; intro Bx Sx hrx hl; refine re_appendW hl hO rfl rfl rfl rfl rfl rfl rfl Tryz.underlying23 Tryz.underlying23 rfl rfl (by decide) (by kernel_rfl) (src_row (new := (signumS).cells) hrx rfl) rfl rfl (by kernel_rfl) (by show C.length + 1 ≤ maxNeed; unfold maxNeed; omega) ?_; intro vx frx S3x hOx hl
      obtain ⟨av3, rfl⟩ := hOx.is
      refine zg ?_
      refine ⟨rfl, av3, C ++ [signumS], op, hC.app (.inr (.inr (.inl rfl))), by rw [List.length_append]; exact Nat.le_refl _, (fun hk => absurd hk hk3), ⟨rfl, rfl, rfl, congrArg some (congrArg (fun n => Value.slice av3 n n) (by rw [List.length_append]; rfl)), rfl, rfl, rfl, trivial⟩, frx, hOx.push, hl⟩
     ·
      refine xp_seq rfl (xe_toE hl 55 (.bool ((modE (IntKind.i64.wrap ((atI L i).tdiv 7)) 23 == 2) && !op)) ?_ rfl ?_)
      ·
       refine zg ?_; refine re_bool (d := 58) rfl (fun hq => ?_) (fun hq => ?_)
       ·
        refine zg ?_; refine rr rfl (rd_un rfl rfl rfl) ?_; refine zg ?_
        exact ⟨rfl, bl (by rw [hq]; cases op <;> rfl), sB, hl⟩
       ·
        refine zg ?_
        exact ⟨rfl, bl (by rw [hq]; rfl), sB, hl⟩
      intro S4x hl
      refine zg ?_
      constructor <;> intro h55
      ·
       refine zg ?_; refine rr rfl (rd_build rfl rfl (v := (openS).v) (by rfl)) ?_; refine re_buildSliceR hl rfl rfl rfl rfl rfl Tryz.underlying23 rfl (c := (openS).cells) (by kernel_rfl) ?_; intro Bx Sx hrx hl; refine re_appendW hl hO rfl rfl rfl rfl rfl rfl rfl Tryz.underlying23 Tryz.underlying23 rfl rfl (by decide) (by kernel_rfl) (src_row (new := (openS).cells) hrx rfl) rfl rfl (by kernel_rfl) (by show C.length + 1 ≤ maxNeed; unfold maxNeed; omega) ?_; intro vx frx S3x hOx hl
       obtain ⟨av3, rfl⟩ := hOx.is
       refine zg ?_
       refine ⟨rfl, av3, C ++ [openS], true, hC.app (.inr (.inr (.inr (.inl rfl)))), by rw [List.length_append]; exact Nat.le_refl _, (fun hk => absurd hk hk3), ⟨rfl, rfl, rfl, congrArg some (congrArg (fun n => Value.slice av3 n n) (by rw [List.length_append]; rfl)), rfl, rfl, rfl, trivial⟩, frx, hOx.push, hl⟩
      ·
       refine xp_seq rfl (xe_toE hl 66 (.bool (decide (modE (IntKind.i64.wrap ((atI L i).tdiv 7)) 23 < 6) && op)) ?_ rfl ?_)
       ·
        refine zg ?_; refine re_bool (d := 69) rfl (fun hq => ?_) (fun hq => ?_)
        ·
         refine zg ?_
         exact ⟨rfl, bl (by rw [hq]; cases op <;> rfl), sB, hl⟩
        ·
         refine zg ?_
         exact ⟨rfl, bl (by rw [hq]; rfl), sB, hl⟩
       intro S4x hl
       refine zg ?_
       constructor <;> intro h66
       ·
        refine zg ?_; refine rr rfl (rd_build rfl rfl (v := (closeS (2 + (i : Int).tmod 3)).v) (by rfl)) ?_; refine re_buildSliceR hl rfl rfl rfl rfl rfl Tryz.underlying23 rfl (c := (closeS (2 + (i : Int).tmod 3)).cells) (by kernel_rfl) ?_; intro Bx Sx hrx hl; refine re_appendW hl hO rfl rfl rfl rfl rfl rfl rfl Tryz.underlying23 Tryz.underlying23 rfl rfl (by decide) (by kernel_rfl) (src_row (new := (closeS (2 + (i : Int).tmod 3)).cells) hrx rfl) rfl rfl (by kernel_rfl) (by show C.length + 1 ≤ maxNeed; unfold maxNeed; omega) ?_; intro vx frx S3x hOx hl
        obtain ⟨av3, rfl⟩ := hOx.is
        refine zg ?_
        refine ⟨rfl, av3, C ++ [closeS (2 + (i : Int).tmod 3)], false, hC.app (.inr (.inr (.inr (.inr (.inl ⟨_, ⟨by omega, by omega⟩, rfl⟩))))), by rw [List.length_append]; exact Nat.le_refl _, (fun hk => absurd hk hk3), ⟨rfl, rfl, rfl, congrArg some (congrArg (fun n => Value.slice av3 n n) (by rw [List.length_append]; rfl)), rfl, rfl, rfl, trivial⟩, frx, hOx.push, hl⟩
       ·
        refine xp_seq rfl (xe_toE hl 79 (.bool ((modE (IntKind.i64.wrap ((atI L i).tdiv 7)) 23 == 6) && !op)) ?_ rfl ?_)
        ·
         refine zg ?_; refine re_bool (d := 82) rfl (fun hq => ?_) (fun hq => ?_)
         ·
          refine zg ?_; refine rr rfl (rd_un rfl rfl rfl) ?_; refine zg ?_
          exact ⟨rfl, bl (by rw [hq]; cases op <;> rfl), sB, hl⟩
         ·
          refine zg ?_
          exact ⟨rfl, bl (by rw [hq]; rfl), sB, hl⟩
        intro S4x hl
        refine zg ?_
        constructor <;> intro h79
        ·
         refine zg ?_; refine rr rfl (rd_build rfl rfl (v := (mensS ((i : Int).tmod 2 == 0)).v) (by rfl)) ?_; refine re_buildSliceR hl rfl rfl rfl rfl rfl Tryz.underlying23 rfl (c := (mensS ((i : Int).tmod 2 == 0)).cells) (by kernel_rfl) ?_; intro Bx Sx hrx hl; refine re_appendW hl hO rfl rfl rfl rfl rfl rfl rfl Tryz.underlying23 Tryz.underlying23 rfl rfl (by decide) (by kernel_rfl) (src_row (new := (mensS ((i : Int).tmod 2 == 0)).cells) hrx rfl) rfl rfl (by kernel_rfl) (by show C.length + 1 ≤ maxNeed; unfold maxNeed; omega) ?_; intro vx frx S3x hOx hl
         obtain ⟨av3, rfl⟩ := hOx.is
         refine zg ?_
         refine ⟨rfl, av3, C ++ [mensS ((i : Int).tmod 2 == 0)], op, hC.app (.inr (.inr (.inr (.inr (.inr (.inl ⟨_, rfl⟩)))))), by rw [List.length_append]; exact Nat.le_refl _, (fun hk => absurd hk hk3), ⟨rfl, rfl, rfl, congrArg some (congrArg (fun n => Value.slice av3 n n) (by rw [List.length_append]; rfl)), rfl, rfl, rfl, trivial⟩, frx, hOx.push, hl⟩
        ·
         refine xp_seq rfl (xe_toE hl 94 (.bool ((modE (IntKind.i64.wrap ((atI L i).tdiv 7)) 23 == 7) && !op)) ?_ rfl ?_)
         ·
          refine zg ?_; refine re_bool (d := 97) rfl (fun hq => ?_) (fun hq => ?_)
          ·
           refine zg ?_; refine rr rfl (rd_un rfl rfl rfl) ?_; refine zg ?_
           exact ⟨rfl, bl (by rw [hq]; cases op <;> rfl), sB, hl⟩
          ·
           refine zg ?_
           exact ⟨rfl, bl (by rw [hq]; rfl), sB, hl⟩
         intro S4x hl
         refine zg ?_
         constructor <;> intro h94
         ·
          refine zg ?_; refine rr rfl (rd_build rfl rfl (v := (propS).v) (by rfl)) ?_; refine re_buildSliceR hl rfl rfl rfl rfl rfl Tryz.underlying23 rfl (c := (propS).cells) (by kernel_rfl) ?_; intro Bx Sx hrx hl; refine re_appendW hl hO rfl rfl rfl rfl rfl rfl rfl Tryz.underlying23 Tryz.underlying23 rfl rfl (by decide) (by kernel_rfl) (src_row (new := (propS).cells) hrx rfl) rfl rfl (by kernel_rfl) (by show C.length + 1 ≤ maxNeed; unfold maxNeed; omega) ?_; intro vx frx S3x hOx hl
          obtain ⟨av3, rfl⟩ := hOx.is
          refine zg ?_
          refine ⟨rfl, av3, C ++ [propS], op, hC.app (.inr (.inr (.inr (.inr (.inr (.inr rfl)))))), by rw [List.length_append]; exact Nat.le_refl _, (fun hk => absurd hk hk3), ⟨rfl, rfl, rfl, congrArg some (congrArg (fun n => Value.slice av3 n n) (by rw [List.length_append]; rfl)), rfl, rfl, rfl, trivial⟩, frx, hOx.push, hl⟩
         ·
          refine zg ?_
          exact ⟨rfl, av, C, op, hC, by omega, fun _ => rfl, ⟨rfl, rfl, rfl, rfl, rfl, rfl, rfl, trivial⟩, fr, hO, hl⟩
   ·
    refine zg ?_
    exact ⟨rfl, av, C, op, hC, by omega, fun _ => rfl, ⟨rfl, rfl, rfl, rfl, rfl, rfl, rfl, trivial⟩, fr, hO, hl⟩
  clear hl; clear hO; rintro Le3 S22 ⟨av2, C2, op2, hC2, hCl2, hk3, hsub3, fr, hO, hl⟩; refine xe_sub hsub3 ?_
  refine zg ?_; refine re_buildSliceR hl rfl rfl rfl rfl rfl Tryz.underlying23 rfl (c := s.cells) (by kernel_rfl) ?_; intro Bx Sx hrx hl; refine re_appendW hl hO rfl rfl rfl rfl rfl rfl rfl Tryz.underlying23 Tryz.underlying23 rfl rfl (by decide) (by kernel_rfl) (src_row (new := s.cells) hrx rfl) rfl rfl (by kernel_rfl) (by show C2.length + 1 ≤ maxNeed; unfold maxNeed; omega) ?_; intro vx frx S23 hOx hl
  obtain ⟨av3, rfl⟩ := hOx.is
  refine zg ?_
  refine ⟨R.length - (i + 1), by omega, i + 1, op2, av3, C2 ++ [s], by omega, rfl, ?_, by rw [List.length_append]; show C2.length + 1 ≤ _; omega, last_app hs, ⟨rfl, rfl, rfl, congrArg some (congrArg (fun n => Value.slice av3 n n) (by rw [List.length_append]; rfl)), rfl, rfl, rfl, trivial⟩, frx, hOx.push, hl⟩
  ·rcases hR.at_ hs with h2 | ⟨rfl, k, v, p, c, e, h3, h4, h5⟩
   ·exact hC2.app (.inl h2)
   ·have e2 := hk3 rfl
    subst e2
    exact hC2.dot h3 h4 (hLn k v p c e h5)
 ·
  have hi2 : i = R.length := by have := of_decide_eq_false h25; omega
  refine zg ?_
  constructor <;> intro h112
  ·
   refine zg ?_; refine rr rfl (rd_build rfl rfl (v := (closeS 2).v) (by rfl)) ?_; refine re_buildSliceR hl rfl rfl rfl rfl rfl Tryz.underlying23 rfl (c := (closeS 2).cells) (by kernel_rfl) ?_; intro Bx Sx hrx hl; refine re_appendW hl hO rfl rfl rfl rfl rfl rfl rfl Tryz.underlying23 Tryz.underlying23 rfl rfl (by decide) (by kernel_rfl) (src_row (new := (closeS 2).cells) hrx rfl) rfl rfl (by kernel_rfl) (by show C.length + 1 ≤ maxNeed; unfold maxNeed; omega) ?_; intro vx frx S23 hOx hl
   obtain ⟨av3, rfl⟩ := hOx.is
   refine zg ?_; refine rr rfl (rd_build rfl rfl (v := aggL [.string partS, .slice av3 (C.length + 1) (C.length + 1)]) (by rfl)) ?_; refine re_storeL hl 0 rfl rfl rfl rfl rfl rfl rfl (by kernel_rfl) (c' := [.string partS, .slice av3 (C.length + 1) (C.length + 1)]) rfl ?_
   intro S24 hl
   refine zg ?_
   refine done_ret (ress_cell rfl (lN (z := 2) (hl.get 0 rfl) rfl) rfl) ⟨hl.keep, av3, C ++ [closeS 2], ?_, hC.app (.inr (.inr (.inr (.inr (.inl ⟨2, by omega, rfl⟩))))), by rw [List.length_append]; show C.length + 1 ≤ 27; omega, frx, hOx.push, (hl.tail.tail.marks (Us := [S]) fun T hT => List.mem_cons_of_mem _ hT).perm (.of_eq (List.append_nil _))⟩
   ·rw [List.length_append]; rfl
  ·
   refine zg ?_; refine rr rfl (rd_build rfl rfl (v := aggL [.string partS, .slice av (C.length) (C.length)]) (by rfl)) ?_; refine re_storeL hl 0 rfl rfl rfl rfl rfl rfl rfl (by kernel_rfl) (c' := [.string partS, .slice av (C.length) (C.length)]) rfl ?_
   intro S24 hl
   refine zg ?_
   refine done_ret (ress_cell rfl (lN (z := 2) (hl.get 0 rfl) rfl) rfl) ⟨hl.keep, av, C, rfl, hC, by omega, fr, hO, (hl.tail.tail.marks (Us := [S]) fun T hT => List.mem_cons_of_mem _ hT).perm (.of_eq (List.append_nil _))⟩
end Go.Proofs.YtblhfojaiipboaaGreatDoor
namespace Go.Proofs.YtblhfojaiipboaaGreatDoor
open Go.Cm Go
set_option maxRecDepth 100000
variable {S : St}
noncomputable def cd43 : Code := Tryz.f43.body.getD .skip
theorem spec43 (a : Option Addr) (cap : Nat) (C : List Sg) (hG : Gl S) (hn : C.length ≤ 400) (hC : ∀ s, s ∈ C → one s = 0 ∧ s.kind ≠ 4) (hv : Sgs S (.slice a C.length cap) C) : CC Tryz.prog KK 43 [aggL [.string partS, .slice a C.length cap]] S (fun v S' => Keep S S' ∧ v = tupV [.int .i64 0, .int .i64 0]) := by
 refine cc_enter (c := cd43) (n := 67) Tryz.func43 rfl rfl rfl (by kernel_rfl) rfl rfl ?_
 have hl := Hold.start S
 refine zg ?_; refine re_boxL hl rfl rfl rfl rfl rfl rfl ?_
 intro B1 S1 hl
 refine zg ?_; refine xp_scope rfl ?_; refine zg ?_
 refine zc hl rfl kName ?_; rintro v S2 hk1 rfl hl
 refine rr rfl (rd_un rfl rfl rfl) ?_; refine zg ?_
 constructor <;> intro h15
 ·
  exfalso
  have := of_decide_eq_true h15
  omega
 refine zg ?_; refine xp_label rfl ?_; refine zg ?_; refine xe_sub (L' := [(19, .int .i64 (0 : Int)), (18, .int .i64 C.length), (4, .bool false), (3, .int .i64 0), (2, .int .i64 0), (1, ptrTo B1 0)]) ⟨rfl, rfl, rfl, rfl, rfl, rfl, trivial⟩ ?_
 refine xp_loop rfl (fun m Le S' => ∃ i : Nat, i ≤ C.length ∧ m = C.length - i ∧ SubE [(19, .int .i64 (i : Int)), (18, .int .i64 C.length), (4, .bool false), (3, .int .i64 0), (2, .int .i64 0), (1, ptrTo B1 0)] Le ∧ HoldG S [S] S' [(B1, .cells [.string partS, .slice a C.length cap] 25 false true [])] []) ?_ (m := C.length) ⟨0, by omega, by omega, ⟨rfl, rfl, rfl, rfl, rfl, rfl, trivial⟩, hl⟩
 clear hl; rintro m Le S' ⟨i, hi, rfl, hsub, hl⟩; refine xe_sub hsub ?_
 refine zg ?_
 constructor <;> intro h20
 ·
  have hlt : i < C.length := by have := of_decide_eq_true h20; omega
  obtain ⟨s, hs⟩ := nth_some hlt
  obtain ⟨h1, h4⟩ := hC s (nth_mem hs)
  obtain ⟨b1, o1, cs1, ha, _, hrow, htk⟩ := hv.elem hs
  refine zg ?_; refine re_allocL hl rfl rfl rfl rfl rfl (z := (dotS.cells.set 0 (.int .i64 0))) (by kernel_rfl) ?_
  intro B6 S6 hl
  refine re_storeL hl 0 rfl rfl rfl rfl rfl rfl rfl (by kernel_rfl) (c' := s.cells) rfl ?_
  intro S7 hl
  refine zg ?_
  refine zc hl rfl (spec55 s (hG.keep hl.keep)) ?_; rintro v S8 hk1 rfl hl
  rw [h1]
  refine zg ?_
  constructor <;> intro h33
  ·
   refine zg ?_
   exact ⟨C.length - (i + 1), by omega, i + 1, by omega, rfl, ⟨rfl, rfl, rfl, rfl, rfl, rfl, trivial⟩, hl.tail⟩
  ·
   exfalso
   have : s.kind = 4 := by simpa using h33
   exact h4 this
 ·
  refine zg ?_
  refine scp_ret (y2 rfl rfl ⟨hl.keep, rfl⟩)
theorem ls_none {e : TypeId} {z : Nat} {α : Type} {f : α → List Value} {S : St} {a : Option Addr} {n cap : Nat} {C : List α} (h : LsOf e z f S (.slice a n cap) C) (hn : a.isNone = true) : C = [] := by
 cases C with
 | nil => rfl
 | cons x r =>
  obtain ⟨b, o, cs, rfl, _⟩ := LsOf.elem h (k := 0) rfl
  cases hn
noncomputable def cd44 : Code := Tryz.f44.body.getD .skip
theorem spec44 (a : Option Addr) (cap : Nat) (C : List Sg) (hn : C.length ≤ 400) (hv : Sgs S (.slice a C.length cap) C) : CC Tryz.prog KK 44 [.slice a C.length cap] S (fun v S' => Keep S S' ∧ ∃ av, v = .slice av C.length C.length ∧ Grow S S' (gR av C)) := by
 refine cc_enter (c := cd44) (n := 8) Tryz.func44 rfl rfl rfl (by kernel_rfl) rfl rfl ?_
 have hl := Hold.start S
 refine zg ?_; refine rr rfl (rd_bin rfl rfl rfl (eq_nil Tryz.underlying23)) ?_; refine zg ?_
 constructor <;> intro h4
 ·
  obtain rfl := ls_none hv h4
  refine zg ?_
  exact (z1 rfl ⟨hl.keep, none, rfl, .inl ⟨rfl, rfl, rfl⟩⟩)
 ·
  refine zg ?_; refine re_buildSliceG hl 17 rfl rfl rfl rfl rfl Tryz.underlying23 rfl (c := []) (by kernel_rfl) rfl ?_; intro v5 S1 hl; refine zg ?_; refine re_appendG hl 0 rfl rfl (by simp) rfl rfl rfl rfl rfl rfl rfl Tryz.underlying23 Tryz.underlying23 rfl rfl (by kernel_rfl) (hv.move (hl.since 0 rfl)).cells (flat_len (f := Sg.cells) (z := 17) (fun _ => rfl) _) (flatCells (f := Sg.cells) (fun _ => rfl) _) (by kernel_rfl) (by show 0 + C.length ≤ maxNeed; unfold maxNeed; omega) ?_; intro v7 S2 hl
  obtain ⟨av, rfl⟩ : ∃ x, v7 = .slice x (0 + C.length) (0 + C.length) := Grow.is (hl.gr _ (List.mem_cons_self ..))
  have hg := hl.gr _ (List.mem_cons_self ..)
  rw [Nat.zero_add, List.nil_append] at hg
  refine zg ?_
  refine y1 rfl ⟨hl.keep, av, by rw [Nat.zero_add], hg⟩
end Go.Proofs.YtblhfojaiipboaaGreatDoor
namespace Go.Proofs.YtblhfojaiipboaaGreatDoor
open Go.Cm Go
set_option maxRecDepth 100000
variable {S : St}
def classI (k : Int) : Int := bif decide (k < 1) || decide (k > 12) then 0 else bif (k == 1) || (k == 2) || (k == 4) then 1 else bif k == 3 then 2 else bif (k == 5) || (k == 6) || (k == 9) || (k == 10) then 3 else 4
theorem kind_cases {k : Int} (h1 : 1 ≤ k) (h2 : k ≤ 12) : k = 1 ∨ k = 2 ∨ k = 3 ∨ k = 4 ∨ k = 5 ∨ k = 6 ∨ k = 7 ∨ k = 8 ∨ k = 9 ∨ k = 10 ∨ k = 11 ∨ k = 12 := by omega
def classL : List Value := [.int .i64 0, .int .i64 1, .int .i64 1, .int .i64 2, .int .i64 1, .int .i64 3, .int .i64 3, .int .i64 4, .int .i64 4, .int .i64 3, .int .i64 3, .int .i64 4, .int .i64 4]
def Gc (S : St) : Prop := 0 < S.size ∧ S.get 0 = some (.cells classL 0 false false [])
theorem Gc.keep {S T : St} (h : Gc S) (k : Keep S T) : Gc T := ⟨Nat.lt_of_lt_of_le h.1 k.1, (k.2 0 h.1).trans h.2⟩
theorem class_at {k : Int} (h1 : 1 ≤ k) (h2 : k ≤ 12) : nth classL (0 + k.toNat * 1) = some (.int .i64 (classI k)) := by
 rcases kind_cases h1 h2 with rfl | rfl | rfl | rfl | rfl | rfl | rfl | rfl | rfl | rfl | rfl | rfl <;> rfl
noncomputable def cd40 : Code := Tryz.f40.body.getD .skip
theorem spec40 (k : Int) (hG : Gc S) (h : 1 ≤ k ∧ k ≤ 12) : CC Tryz.prog KK 40 [.int .i64 k] S (fun v S' => Keep S S' ∧ v = tupV [.int .i64 (classI k), .int .i64 0]) := by
 refine cc_enter (c := cd40) (n := 13) Tryz.func40 rfl rfl rfl (by kernel_rfl) rfl rfl ?_
 have hl := Hold.start S
 refine zS ?_; refine xp_seq rfl ?_; refine xp_seq rfl (xe_toE hl 9 (.bool (decide (k < 1) || decide (k > 12))) ?_ rfl ?_)
 ·
  refine zg ?_; refine re_bool (d := 6) rfl (fun h6 => ?_) (fun h6 => ?_)
  ·
   refine zg ?_
   exact ⟨rfl, bl (by first | (simp [h6]; done) | (simp only [h6, BLs])), sB, hl⟩
  ·
   refine zg ?_
   exact ⟨rfl, bl (by first | (simp [h6]; done) | (simp only [h6, BLs])), sB, hl⟩
 intro S1 hl
 refine zg ?_
 constructor <;> intro h9
 ·
  exfalso
  simp at h9
  omega
 ·
  refine zg ?_; refine rr rfl (rd_indexAddr rfl rfl rfl (indexAddr_array (z := 1) Tryz.underlying109 (by kernel_rfl) ⟨by omega, by omega⟩)) ?_; refine rr rfl (rd_load rfl rfl (l1 (hG.keep hl.keep).2 (class_at h.1 h.2))) ?_; refine zg ?_
  refine y2 rfl rfl ⟨hl.keep, rfl⟩
noncomputable def cd32 : Code := Tryz.f32.body.getD .skip
theorem spec32 (s : Sg) (hG : Gc S) (h : 1 ≤ s.kind ∧ s.kind ≤ 12) : CC Tryz.prog KK 32 [s.v] S (fun v S' => Keep S S' ∧ v = .int .i64 (classI s.kind)) := by
 refine cc_enter (c := cd32) (n := 12) Tryz.func32 rfl rfl rfl (by kernel_rfl) rfl rfl ?_
 have hl := Hold.start S
 refine zg ?_; refine re_boxL hl rfl rfl rfl rfl rfl rfl ?_
 intro B1 S1 hl
 refine zg ?_
 refine zc hl rfl (spec40 s.kind (hG.keep hl.keep) h) ?_; rintro v S2 hk1 rfl hl
 refine zg ?_
 refine y1 rfl ⟨hl.keep, rfl⟩
end Go.Proofs.YtblhfojaiipboaaGreatDoor
namespace Go.Proofs.YtblhfojaiipboaaGreatDoor
open Go.Cm Go
set_option maxRecDepth 100000
variable {S : St}
noncomputable def cd37 : Code := Tryz.f37.body.getD .skip
theorem spec37 (a : Option Addr) (cap : Nat) (C : List Sg) (hF : Fresh S) (hG : Gl S) (hn : C.length ≤ 400) (hC : ∀ s, s ∈ C → one s = 0 ∧ s.kind ≠ 4) (hv : Sgs S (.slice a C.length cap) C) : CC Tryz.prog KK 37 [aggL [.string partS, .slice a C.length cap]] S (fun v S' => Keep S S' ∧ ∃ av, v = tupV [aggL [.string partS, .slice av C.length C.length], .int .i64 0] ∧ Grow S S' (gR av C)) := by
 refine cc_enter (c := cd37) (n := 102) Tryz.func37 rfl rfl rfl (by kernel_rfl) rfl rfl ?_
 have hl := Hold.start S
 refine zg ?_; refine re_boxL hl rfl rfl rfl rfl rfl rfl ?_
 intro B1 S1 hl
 refine re_allocL hl rfl rfl rfl rfl rfl (z := [.string ⟨#[]⟩, .slice none 0 0]) (by kernel_rfl) ?_
 intro B2 S2 hl
 refine zg ?_; refine xp_scope rfl ?_; refine zg ?_
 refine zc hl rfl (spec43 a cap C (hG.keep hl.keep) hn hC (hv.move (hl.since 0 rfl))) ?_; rintro v S3 hk1 rfl hl
 refine zg ?_; refine xp_draw (idx := [0, 1, 2, 3, 6, 4, 5, 7]) rfl (by kernel_rfl) (by kernel_rfl) ?_; refine zg ?_; refine rp_allocL hF hl rfl rfl rfl rfl rfl (z := [.string ⟨#[]⟩, .slice none 0 0]) (by kernel_rfl) ?_; intro B6 S6 hl
 have hl6 := hl
 refine zp hl rfl (spec44 a cap C hn (hv.move (hl.since 0 rfl))) ?_; rintro v S7 hk7 ⟨av, rfl, hg⟩ hl
 have hgX : Grow S S7 (gR av C) := Grow.base hg hl6.keep.1
 have hvX : Sgs S7 (.slice av C.length C.length) C := Grow.ls (f := Sg.cells) (fun _ => rfl) hg
 refine ⟨zt, ?_⟩
 have hl := (hl.mark).addG hgX
 refine pr rfl (rd_build rfl rfl (v := aggL [.string partS, .slice av C.length C.length]) (by rfl)) ?_; refine rp_storeL hl 0 rfl rfl rfl rfl rfl rfl rfl (by kernel_rfl) (c' := [.string partS, .slice av C.length C.length]) rfl ?_; intro S8 hl
 refine ⟨zt, ?_⟩
 refine zg ?_; refine xp_label rfl ?_; refine xp_seq rfl ?_; refine xp_block rfl ?_; refine xe_sub (L' := [(8, .int .i64 (0 : Int)), (7, .int .i64 0), (6, ptrTo B6 0), (3, .int .i64 0), (2, ptrTo B2 0), (1, ptrTo B1 0)]) ⟨rfl, rfl, rfl, rfl, rfl, rfl, trivial⟩ ?_
 refine xp_loop rfl (fun m Le S' => ∃ i : Nat, i ≤ C.length ∧ m = C.length - i ∧ SubE [(8, .int .i64 (i : Int)), (7, .int .i64 0), (6, ptrTo B6 0), (3, .int .i64 0), (2, ptrTo B2 0), (1, ptrTo B1 0)] Le ∧ HoldG S [S7, S] S' [(B6, .cells [.string partS, .slice av C.length C.length] 25 false true []), (B2, .cells [.string ⟨#[]⟩, .slice none 0 0] 25 false true []), (B1, .cells [.string partS, .slice a C.length cap] 25 false true [])] [gR av C]) ?_ (m := C.length) ⟨0, by omega, by omega, ⟨rfl, rfl, rfl, rfl, rfl, rfl, trivial⟩, hl⟩
 clear hl; rintro m Le S' ⟨i, hi, rfl, hsub, hl⟩; refine xe_sub hsub ?_
 refine zg ?_
 constructor <;> intro h33
 ·
  have hlt : i < C.length := by have := of_decide_eq_true h33; omega
  obtain ⟨s, hs⟩ := nth_some hlt
  obtain ⟨h1, h4⟩ := hC s (nth_mem hs)
  obtain ⟨b1, o1, cs1, ha, _, hrow, htk⟩ := hvX.elem hs
  refine zg ?_
  constructor <;> intro h40
  ·
   refine zg ?_
   exact ⟨C.length - (i + 1), by omega, i + 1, by omega, rfl, ⟨rfl, rfl, rfl, rfl, rfl, rfl, trivial⟩, hl⟩
  ·
   exfalso
   have : s.kind = 4 := by simpa using h40
   exact h4 this
 ·
  refine zg ?_; refine re_storeL hl 1 rfl rfl rfl rfl rfl rfl rfl (by kernel_rfl) (c' := [.string partS, .slice av C.length C.length]) rfl ?_
  intro S9 hl
  refine zg ?_
  refine scp_ret (done_ret (ress_cell rfl (lN (z := 2) (hl.get 1 rfl) rfl) (ress_tmp rfl rfl)) ⟨hl.keep, av, rfl, hl.gr _ (List.mem_cons_self ..)⟩)
end Go.Proofs.YtblhfojaiipboaaGreatDoor
namespace Go.Proofs.YtblhfojaiipboaaGreatDoor
open Go.Cm Go
set_option maxRecDepth 100000
variable {S : St}
def secCells (f t a b c d : Int) : List Value := [.int .i64 f, .int .i64 t, .int .i64 a, .int .i64 b, .int .i64 c, .int .i64 d, .int .i64 0, .int .i64 0]
end Go.Proofs.YtblhfojaiipboaaGreatDoor
namespace Go.Proofs.YtblhfojaiipboaaGreatDoor
open Go.Cm Go
set_option maxRecDepth 100000
variable {S : St}
noncomputable def c31 : Code := Tryz.f31.body.getD .skip
noncomputable def rf : Code := pA (pB (pA (pB (pB (pB (pB c31))))))
structure Fr where
 lb : Nat
 db : Nat
 bp : Nat
 b1 : Nat
 b2 : Nat
 b3 : Nat
 b4 : Nat
 t : Tm
 c1 : List Value
 c2 : List Value
 cp : List Value
 e4 : Value
noncomputable def Fr.lo (z : Fr) : Nat × Blk := (z.lb, .loop .ready none 25 z.t (rgP rf) (rgA rf) (rgB rf) z.db)
noncomputable def Fr.l (z : Fr) (av : Option Addr) (k : Nat) : List (Nat × Blk) := [(z.b4, .cells [z.e4] 34 false true []), (z.b3, .cells [.slice av k k] 61 false true []), (z.b2, .cells z.c2 25 false true []), (z.b1, .cells z.c1 25 false true []), z.lo, (z.db, .defs false), (z.bp, .cells z.cp 25 false true [])]
def gS (av : Option Addr) (D : List (List Value)) : Gr := ⟨.slice av D.length D.length, 67, 8, D.flatten, D.length⟩
theorem round_sec {Sb T S : St} (z : Fr) (hz : Has 25 ⟨25, z.t, []⟩ [(3, ptrTo z.b3 0)]) {own : List (Nat × Blk)} (ho : (own.all fun p => !isRow p.2) = true) {av : Option Addr} {D : List (List Value)} {f g ma mb mc md : Int} (hD : D.length ≤ 1000) (hl : HoldG Sb [T] S (own ++ z.l av D.length) [gS av D]) :
  CT Tryz.prog KK (.fn (.yield z.lb) #[]) [aggL (secCells f g ma mb mc md)] S fun r S' => r = .returned (.bool true) ∧ ∃ av', HoldG Sb [T] S' (own ++ z.l av' (D ++ [secCells f g ma mb mc md]).length) [gS av' (D ++ [secCells f g ma mb mc md])] := by
 have hl := hl.perm List.perm_append_comm
 refine ct_round (hl.get 4 rfl) hz rfl rfl ?_; refine xp_region rfl (by kernel_rfl) ?_; refine re_allocL hl rfl rfl rfl rfl rfl (z := [.int .i64 0, .int .i64 0, .int .i64 0, .int .i64 0, .int .i64 0, .int .i64 0, .int .i64 0, .int .i64 0]) (by kernel_rfl) ?_; intro B5 S5 hl; refine re_storeL hl 0 rfl rfl rfl rfl rfl rfl rfl (by kernel_rfl) rfl ?_; intro S1 hl; refine re_end rfl ?_
 refine ⟨rfl, _, _, _, _, _, _, _, hl.get 5 rfl, ?_⟩
 have hl := hl.put (k := 5) rfl rfl (.loop .busy none 25 z.t (rgP rf) (rgA rf) (rgB rf) z.db)
 refine xp_block rfl ?_; refine xp_region rfl (by kernel_rfl) ?_; refine re_rd rfl rfl rfl rfl (rd_load rfl rfl (load1_of (by kernel_rfl) (hl.get 2 rfl) rfl)) ?_; refine re_rd rfl rfl rfl rfl (rd_load rfl rfl (loadN_of (z := 8) (by kernel_rfl) (by kernel_rfl) (hl.get 0 rfl) rfl)) ?_; refine re_buildSliceR hl rfl rfl rfl rfl rfl Tryz.underlying61 rfl (c := secCells f g ma mb mc md) (by kernel_rfl) ?_; intro B21 S1 hr21 hl
 refine re_appendG hl 0 rfl ho (by simp) rfl rfl rfl rfl rfl rfl rfl Tryz.underlying61 Tryz.underlying61 rfl rfl (by kernel_rfl) (src_row (new := secCells f g ma mb mc md) hr21 rfl) rfl rfl (by kernel_rfl) (by show D.length + 1 ≤ maxNeed; unfold maxNeed; omega) ?_; intro v22 S1 hl
 obtain ⟨av2, rfl⟩ : ∃ av2, v22 = .slice av2 (D.length + 1) (D.length + 1) := Grow.is (hl.gr _ (List.mem_cons_self ..))
 refine re_storeL hl 2 rfl rfl rfl rfl rfl rfl rfl (by kernel_rfl) rfl ?_; intro S1 hl; refine re_end rfl ?_
 refine ⟨_, _, _, _, _, _, _, _, hl.get 5 rfl, rfl, av2, ?_⟩
 have hl := (hl.put (k := 5) rfl rfl (.loop .ready none 25 z.t (rgP rf) (rgA rf) (rgB rf) z.db)).tail
 have eD : (D ++ [secCells f g ma mb mc md]).length = D.length + 1 := by simp
 have eF : (D ++ [secCells f g ma mb mc md]).flatten = D.flatten ++ secCells f g ma mb mc md := by simp
 unfold gS
 rw [eD, eF]
 exact HoldG.perm (l := z.l av2 (D.length + 1) ++ own) hl List.perm_append_comm
theorem assert_no {P : Program} {t : TypeId} {z : Value} {d : TypeDesc} (hu : P.underlying t = some d) (hd : noIf d = true) (hz : zeroV P t = some z) : typeAssertV P .nilIface t true = some (.tuple #[z, .bool false]) := by
 unfold typeAssertV
 rw [hu]
 cases d <;> first | (simp [hz]; done) | cases hd
noncomputable def c38 : Code := Tryz.f38.body.getD .skip
def pan (e q : Int) (r : Bool) : Cm.Mode := Cm.Mode.pan [{ v := .iface 95 (aggL [.int .i64 e, .int .i64 q]), recovered := r }]
theorem dd_ret {Sb S : St} {Ts : List St} {gs : List Gr} {rest : List (Nat × Blk)} {b2 b3 b4 : Nat} {c2 : List Value} {v3 v4 : Value} {e q : Int} (hF : Fresh Sb) (hl : HoldG Sb Ts S ((b4, .cells [v4] 34 false true []) :: (b3, .cells [v3] 61 false true []) :: (b2, .cells c2 25 false true []) :: rest) gs) (h2 : ∃ x y, c2 = [x, y]) :
  DD Tryz.prog KK 38 [ptrTo b2 0, ptrTo b3 0, ptrTo b4 0] .ret S fun md' S' => md' = .ret ∧ HoldG Sb Ts S' ((b4, .cells [v4] 34 false true []) :: (b3, .cells [v3] 61 false true []) :: (b2, .cells c2 25 false true []) :: rest) gs := by
 obtain ⟨x2, y2, rfl⟩ := h2
 refine dd_enter (c := c38) (n := 15) Tryz.func38 rfl (by kernel_rfl) rfl rfl ?_; refine xr_seq rfl ?_; refine xr_region rfl (by kernel_rfl) ?_; refine rdd_rec rfl rfl rfl rfl rfl ?_; refine rdd_rd rfl rfl rfl rfl rfl (rd_assert rfl rfl (assert_no (z := aggL [.int .i64 0, .int .i64 0]) Tryz.underlying95 rfl (by kernel_rfl))) ?_; refine rdd_rd rfl rfl rfl rfl rfl (rd_move rfl rfl) ?_; iterate 2 refine rdd_rd rfl rfl rfl rfl rfl (rd_extract rfl rfl rfl) ?_
 refine rdd_allocL hl rfl rfl rfl rfl rfl (z := [.int .i64 0, .int .i64 0]) (by kernel_rfl) ?_; intro B3 S3 hl; refine rdd_storeL hl 0 rfl rfl rfl rfl rfl rfl rfl (by kernel_rfl) (c' := [.int .i64 0, .int .i64 0]) rfl ?_; intro S1 hl; refine rdd_rd rfl rfl rfl rfl rfl (rd_assign rfl rfl) ?_; refine rdd_end rfl ?_; refine xr_seq rfl ?_; refine xr_region rfl (by kernel_rfl) ?_; refine rdd_rd rfl rfl rfl rfl rfl (rd_move rfl rfl) ?_; refine rdd_end rfl ?_; refine xr_cond rfl rfl (fun h10 => ?_) (fun h10 => ?_)
 ·cases h10
 ·
  refine xr_skip rfl ?_
  exact ⟨⟨_, rfl⟩, rfl, hl.tail⟩
end Go.Proofs.YtblhfojaiipboaaGreatDoor
