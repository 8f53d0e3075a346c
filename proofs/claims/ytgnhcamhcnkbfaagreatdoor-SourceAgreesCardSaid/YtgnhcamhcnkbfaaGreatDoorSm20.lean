/-
  Sources and parts, the plain law.
-/
import Derived.Test.YtgnhcamhcnkbfaaGreatDoorSm13
namespace Go.Proofs.YtgnhcamhcnkbfaaGreatDoor
open Go.Cm Go
set_option maxRecDepth 100000
variable {S : St}
/-- the signs of a list can come from spots -/
def canB : List Spt → List Sg → Bool
  | [], [] => true
  | [], _ :: _ => false
  | x :: r, [] => x.blank && canB r []
  | x :: r, y :: l => (x.blank && canB r (y :: l)) || (canB r l && decide (y ∈ x.signs))
def chooseF : List Spt → List Sg → List Int
  | [], _ => []
  | x :: r, [] => (x.signs.length : Int) :: chooseF r []
  | x :: r, y :: l => bif canB r l && decide (y ∈ x.signs) then idxF x.signs y 0 :: chooseF r l else (x.signs.length : Int) :: chooseF r (y :: l)
def posL : List Sg → Sg → Nat → List Int
  | [], _, _ => []
  | x :: C, s, k => (bif decide (x = s) then [(k : Int)] else []) ++ posL C s (k + 1)
def chooseR : List Spt → List Sg → List Int
  | [], _ => []
  | x :: r, [] => (x.signs.length : Int) :: chooseR r []
  | x :: r, y :: l => bif canB r l && decide (y ∈ x.signs) then posL x.signs y 0 ++ chooseR r l else (x.signs.length : Int) :: chooseR r (y :: l)
theorem posL_none : ∀ (C : List Sg) (s : Sg) (k : Nat), s ∉ C → posL C s k = []
  | [], _, _, _ => rfl
  | x :: C, s, k, h => by
    have h1 : x ≠ s := fun e => h (e ▸ List.mem_cons_self ..)
    unfold posL
    rw [decide_eq_false h1, posL_none C s (k + 1) fun hm => h (List.mem_cons_of_mem _ hm)]
    rfl
theorem posL_one : ∀ (C : List Sg) (s : Sg) (k : Nat), C.Nodup → s ∈ C → posL C s k = [idxF C s k]
  | [], _, _, _, h => (List.not_mem_nil h).elim
  | x :: C, s, k, hn, h => by
    rw [List.nodup_cons] at hn
    unfold posL idxF
    by_cases e : x = s
    · subst e
      rw [decide_eq_true rfl, posL_none C x (k + 1) hn.1]
      rfl
    · rw [decide_eq_false e, decide_eq_false fun e2 => e e2.symm]
      rcases List.mem_cons.1 h with e2 | h
      · exact absurd e2.symm e
      · exact posL_one C s (k + 1) hn.2 h
theorem choose_eq : ∀ (L : List Spt) (C : List Sg), (∀ x, x ∈ L → x.signs.Nodup) → chooseR L C = chooseF L C
  | [], _, _ => by unfold chooseR chooseF; rfl
  | x :: r, [], h => by unfold chooseR chooseF; rw [choose_eq r [] fun y hy => h y (List.mem_cons_of_mem _ hy)]
  | x :: r, y :: l, h => by
    unfold chooseR chooseF
    rw [choose_eq r l fun y hy => h y (List.mem_cons_of_mem _ hy), choose_eq r (y :: l) fun y hy => h y (List.mem_cons_of_mem _ hy)]
    cases hc : (canB r l && decide (y ∈ x.signs)) with
    | false => rfl
    | true =>
      rw [Bool.and_eq_true, decide_eq_true_iff] at hc
      rw [posL_one x.signs y 0 (h x (List.mem_cons_self ..)) hc.2]
      rfl
theorem signsE_nodup : ∀ (r pre : List Sg), signsE pre r = 0 → (∀ y, y ∈ r → y ∉ pre) ∧ r.Nodup
  | [], _, _ => ⟨fun y hy => (List.not_mem_nil hy).elim, List.nodup_nil⟩
  | y :: r, pre, h => by
    unfold signsE at h
    cases h1 : (one y != 0) with
    | true =>
      rw [h1] at h
      have h' : one y = 0 := h
      rw [h'] at h1
      cases h1
    | false =>
      rw [h1] at h
      cases h2 : decide (y ∈ pre) with
      | true => rw [h2] at h; cases h
      | false =>
        rw [h2] at h
        obtain ⟨i1, i2⟩ := signsE_nodup r (pre ++ [y]) h
        refine ⟨fun z hz => ?_, ?_⟩
        · rcases List.mem_cons.1 hz with rfl | hz
          · exact of_decide_eq_false h2
          · exact fun hm => i1 z hz (List.mem_append_left _ hm)
        · rw [List.nodup_cons]
          exact ⟨fun hm => i1 y hm (List.mem_append_right _ (List.mem_singleton.2 rfl)), i2⟩
theorem spotsE_nodup : ∀ (L : List Spt) (i : Nat), (spotsE L i).1 = 0 → ∀ x, x ∈ L → x.signs.Nodup
  | [], _, _, x, h => (List.not_mem_nil h).elim
  | y :: L, i, h, x, hx => by
    cases h1 : szB y with
    | true => rw [spotsE_size h1] at h; cases h
    | false =>
      cases h2 : (signsE [] y.signs != 0) with
      | true =>
        rw [spotsE_err h1 rfl h2] at h
        have h' : signsE [] y.signs = 0 := h
        rw [h'] at h2
        cases h2
      | false =>
        have h3 : signsE [] y.signs = 0 := by simpa using h2
        rw [spotsE_step h1 h3] at h
        rcases List.mem_cons.1 hx with rfl | hx
        · exact (signsE_nodup _ _ h3).2
        · exact spotsE_nodup L (i + 1) h x hx
theorem checkF_nodup {nm : List UInt8} {L : List Spt} (h : ((checkF nm L).1 != 0) = false) : ∀ x, x ∈ L → x.signs.Nodup := by
  have h0 : (checkF nm L).1 = 0 := by simpa using h
  unfold checkF at h0
  cases h1 : !nameF nm with
  | true => rw [h1] at h0; cases h0
  | false =>
    rw [h1] at h0
    cases h2 : decide ((L.length : Int) > 400) with
    | true => rw [h2] at h0; cases h0
    | false => rw [h2] at h0; exact spotsE_nodup L 0 h0
/-- by places -/
def canAt (L : List Spt) (C : List Sg) (i k : Nat) : Bool := canB (L.drop i) (C.drop k)
theorem canAt_end {L : List Spt} {C : List Sg} {k : Nat} (hk : k ≤ C.length) : canAt L C L.length k = decide (k = C.length) := by
  unfold canAt
  rw [List.drop_length]
  by_cases h : k = C.length
  · subst h; rw [List.drop_length, decide_eq_true rfl]; rfl
  · rw [decide_eq_false h]
    obtain ⟨y, hy⟩ := nth_some (l := C) (i := k) (by omega)
    rw [drop_nth' hy]; rfl
theorem canAt_in {L : List Spt} {C : List Sg} {i k : Nat} {x : Spt} {y : Sg} (hx : nth L i = some x) (hy : nth C k = some y) : canAt L C i k = ((x.blank && canAt L C (i + 1) k) || (canAt L C (i + 1) (k + 1) && decide (y ∈ x.signs))) := by
  unfold canAt
  rw [drop_nth' hx, drop_nth' hy]
  rfl
theorem canAt_last {L : List Spt} {C : List Sg} {i : Nat} {x : Spt} (hx : nth L i = some x) : canAt L C i C.length = (x.blank && canAt L C (i + 1) C.length) := by
  unfold canAt
  rw [drop_nth' hx, List.drop_length]
  rfl
/-- parts -/
def nextT : List Sg → Bool
  | [] => false
  | y :: _ => y.kind == 4
def runE : Bool → List Sg → Nat → Int × Int
  | _, [], _ => (0, 0)
  | b, s :: r, i => bif one s != 0 then (one s, i) else bif s.kind != 4 then runE b r (i + 1) else bif s.last && !b then (3, i) else bif s.last then runE false r (i + 1) else bif nextT r then runE true r (i + 1) else (3, i)
def partE (nm : List UInt8) (C : List Sg) : Int × Int := bif !nameF nm then (7, 0) else bif decide ((C.length : Int) > 400) then (11, 0) else runE false C 0
/-- is a ligature open ahead of a place -/
def openB (C : List Sg) (i : Nat) : Bool := match i with
  | 0 => false
  | j + 1 => match nth C j with
    | some s => (s.kind == 4) && !s.last
    | none => false
/-- the first choice -/
def findF (n1 n2 : List UInt8) (L : List Spt) (C : List Sg) : List Int × Bool × Int :=
  bif (checkF n1 L).1 != 0 then ([], false, (checkF n1 L).1) else bif (partE n2 C).1 != 0 then ([], false, (partE n2 C).1)
  else bif !sameBytes n1 n2 || !canB L C then ([], false, 0) else (chooseF L C, true, 0)
def choiceF (n1 n2 : List UInt8) (L : List Spt) (C : List Sg) : List Int × Int :=
  ((findF n1 n2 L C).1, bif (findF n1 n2 L C).2.2 == 0 && !(findF n1 n2 L C).2.1 then 18 else (findF n1 n2 L C).2.2)
end Go.Proofs.YtgnhcamhcnkbfaaGreatDoor
