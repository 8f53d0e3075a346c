/-
  The evaluator of the model, and that it is sound: part 4.
-/
import Derived.Laws.BitsLemmas
import Derived.Laws.Bits64
import Derived.Lib.LaidTab
import Derived.RowKit3
import Derived.Test.YtnhalpkekpehpaaGreatDoorCm3
namespace Go.Cm
open Go
variable {P : Program} {w0 : Bn} {K : A1}
section
variable {ih : Bo} {e : Exit} {a1 : Ca} {S1 : St} {ρ0 : AF} {Ls : Nat → Prop} {ar : Act} {w : World}
 {BG : List Pn} {rest : List (Oper × Nat)} {AX : List (Nat × CZ)} {a : Ca} {S : St} {A : Ca} {no : Nat → Bool} {ρ : AF} {done : Nat}
theorem qA {full : List Oper} (h : Inv P ih full e a1 S1 w0 ρ0 Ls ar w BG rest AX a S A no ρ done) {q : Pn} (hq : q ∈ BG) (Fz : ∀ b, (AE full q.i).testBit b = true → Ls b) :
  ∀ t ∈ Jm full q.o, A.get t = q.a.get t := fun t ht => h.V3 q hq t ht fun j hj hb => absurd (Fz _ hb) (h.Nq j hj)
theorem AEX {f : Operand → Value} {op : Op} {S : St} {v : Value} (hk : kindOf op = .read) (h : Cl P f op S = some v) : CF P ih f op S = some (.val v, S) := by
 unfold CF
 rw [hk]
 simp [h]
theorem jo {q : Pn} (hb : q.b = none) : ∀ x, no x = true ↔ no x = true ∧ q.b ≠ some x := fun x => by simp [hb]
theorem AAs {ops : Array Oper} (Ao : ∀ no, Eo P ⟨w0.toWorld, no⟩ ih) (hP : I3 ops.toList (Cy ops.toList []) ops.toList.zipIdx = true) (hC : DZ P ops.toList = true)
  (h : Inv P ih ops.toList e a1 S1 w0 ρ0 Ls ar w BG rest AX a S A no ρ done) {q : Pn} (hq : q ∈ BG) (Fz : ∀ b, (AE ops.toList q.i).testBit b = true → Ls b) {ro : Option Nat}
  {Kn : Act → World → Prop} {Q : Exit → Act → World → Prop}
  (hK : ∀ CQ w' A' no' ρ', Inv P ih ops.toList e a1 S1 w0 ρ0 (fun x => Ls x ∨ x = q.i) CQ w' (BG.filter fun x => !(x.i == q.i)) rest AX a S A' no' ρ' done → Kn CQ w') :
  if Region.wanted q.o (yielded ops ar.tmps) then q.o.wpIn (FW ro) 0 P ar w Kn Q else (∀ f, q.o.about P w ar.eval = some f → (FW ro).fn f) ∧ Kn (ar.put q.o.dst undef) w := by
 have SD := qA h hq Fz
 rw [← UF h.act (o := q.o), o9 SD]
 have ZF := h.I5 q hq
 have ZB : Ml P q.o := RZ hC q.o (List.mem_of_getElem? ZF)
 have Aa : ∀ x, x ∈ q.o.op.operands → VR ρ (q.a.ev x) (ar.eval x) := fun x hx => by
  rw [← gd SD x hx]; exact h.act.DE h.Kh ZB x hx
 obtain ⟨a', Be⟩ := h.WA q hq
 obtain ⟨A', H9⟩ := mi Be (b := A) (by rw [h.An.1, h.pn q hq]) q.v
 cases h.V9 q hq with
 | skip hw hv hb =>
  rw [hw]
  simp only [Bool.false_eq_true, if_false]
  refine ⟨Mo, hK _ _ A' no ρ (h.drop hP hq Fz H9 (jo hb) (Ext.refl _) h.Kh (h.act.put H9 ?_))⟩
  rw [hv]; exact VR.undef _
 | read hw hk hr hc hb =>
  rw [hw]
  simp only [if_true]
  refine ⟨Mo, Q8 (Ao _) h.Kh Aa (AEX (ih := ih) hk hr) ⟨?_, ?_⟩⟩
  ·intro v hv ρ' v' w' h1 h2 h3
   cases hv
   exact hK _ _ A' no ρ' (h.drop hP hq Fz H9 (jo hb) h1 h3 ((h.act.mono h1).put H9 h2))
  intro c hc; cases hc
 | fresh hw hk hb hv hB hc NI Dx DH =>
  rename_i B mk b c
  rw [hw]
  simp only [if_true]
  refine ⟨Mo, ?_⟩
  have hd : ∀ c, q.o.op ≠ .defer c := fun c hc => by rw [hc] at hk; simp [kindOf] at hk
  rw [Oper.semAt_eq _ _ _ hd]
  obtain ⟨ob, L, v', h1, h2, h3, h4⟩ := DH ρ ar.eval w Aa
  rw [h1]
  show Kn (ar.put q.o.dst v') (w.alloc ob)
  have Og : ∀ x, (no x && !(x == b)) = true ↔ no x = true ∧ q.b ≠ some x := by
   intro x
   rw [hb]
   simp only [Bool.and_eq_true, Bool.not_eq_true', beq_eq_false_iff_ne, ne_eq, Option.some.injEq]
   constructor <;> (rintro ⟨h1, h2⟩; exact ⟨h1, fun h => h2 h.symm⟩)
  obtain ⟨k1, k2⟩ := h.Kh.born (no' := fun x => no x && !(x == b)) Dx hB (fun x hx => ⟨((Og x).1 hx).1, fun he => ((Og x).1 hx).2 (by rw [hb, he])⟩) h2 h3
  refine hK _ _ A' _ _ (h.drop hP hq Fz H9 Og k1 k2 ((h.act.mono k1).put H9 ?_))
  rw [hv]
  exact h4 _ _ (JB _ _ _)
theorem vo {ops : Array Oper} (Ao : ∀ no, Eo P ⟨w0.toWorld, no⟩ ih) (hP : I3 ops.toList (Cy ops.toList []) ops.toList.zipIdx = true) (hC : DZ P ops.toList = true)
  {o : Oper} {i : Nat} {r : List (Oper × Nat)} (h : Inv P ih ops.toList e a1 S1 w0 ρ0 Ls ar w BG ((o, i) :: r) AX a S A no ρ done) (Fz : ∀ b, (AE ops.toList i).testBit b = true → Ls b) {ro : Option Nat}
  (hw : CY ops.toList a o = true) (hk : kindOf o.op = .Ed) {Kn : Act → World → Prop} {Q : Exit → Act → World → Prop}
  (hK : ∀ CQ w' Fv a' S' A' ρ' Uv, Inv P ih ops.toList e a1 S1 w0 ρ0 (fun x => Ls x ∨ x = i) CQ w' BG r Fv a' S' A' no ρ' Uv → Kn CQ w') :
  if Region.wanted o (yielded ops ar.tmps) then o.wpIn (FW ro) 0 P ar w Kn Q else (∀ f, o.about P w ar.eval = some f → (FW ro).fn f) ∧ Kn (ar.put o.dst undef) w := by
 obtain ⟨hd, L6, _, Cr⟩ := Qh h.I4
 have hi : ops.toList[i]? = some o := h.mem (o, i) (by simp)
 have CW : ¬ (done.testBit i = true) := by rw [hd]; simp
 have SD : ∀ t ∈ Jm ops.toList o, A.get t = a.get t := by
  refine fun t ht => h.Pa t fun q hq he => ?_
  have H8 : q.i ≠ i := fun e => CW ((h.K1 i).2 (.inr ⟨q, hq, e⟩))
  rcases (Qf hP (h.I5 q hq) hi H8).1 t he ht with h1 | h1
  ·exact h.Nq q hq (Fz _ h1)
  exact CW (h.O7 q hq i h1)
 have ZB : Ml P o := RZ hC o (List.mem_of_getElem? hi)
 have Aa : ∀ x, x ∈ o.op.operands → VR ρ (a.ev x) (ar.eval x) := fun x hx => by
  rw [← gd SD x hx]; exact h.act.DE h.Kh ZB x hx
 rw [← UF h.act (o := o), o9 SD, hw]
 simp only [if_true]
 have hr := h.run
 unfold Ce at hr
 rw [hw, hk] at hr
 simp only [cond_true] at hr
 split at hr
 ·rename_i v S' Ag
  split at hr
  ·rename_i a' Be
   obtain ⟨A', H9⟩ := mi Be (b := A) h.An.1 v
   cases Dm : (AX.filter fun x => !((nth (Cy ops.toList []) i).getD 0).testBit x.1).all (fun x => x.2.ok P S') with
   | false => rw [Dm] at hr; cases hr
   | true =>
    rw [Dm] at hr
    simp only [cond_true] at hr
    rw [List.all_eq_true] at Dm
    refine ⟨Mo, Q8 (Ao _) h.Kh Aa Ag ⟨?_, ?_⟩⟩
    ·intro v2 hv ρ' v' w' h1 h2 h3
     cases hv
     exact hK _ _ _ a' S' A' ρ' _ (h.head hP Fz Be H9 hr Dm h1 h3 ((h.act.mono h1).put H9 h2))
    intro c hc; cases hc
  cases hr
 cases hr
end
theorem bK {ops : Array Oper} {listed : Array Bool} {i : Nat} : i ∈ Region.ready .any ops listed ↔ i < ops.size ∧ listed.getD i true = false ∧ ∃ o, ops.toList[i]? = some o ∧ ∀ e ∈ o.after.toList, Region.binds .any e = true → listed.getD e.on false = true := by
 unfold Region.ready
 simp only [List.mem_filter, List.mem_range, Bool.and_eq_true, Bool.not_eq_true']
 refine and_congr_right fun hi => and_congr_right fun _ => ?_
 have hg : ops[i]? = some ops[i] := Array.getElem?_eq_getElem hi
 rw [Array.getElem?_toList, hg]
 simp only [Option.map_some, Option.getD_some, Option.some.injEq, exists_eq_left']
 rw [← Array.all_toList, List.all_eq_true]
 refine forall_congr' fun e => forall_congr' fun _ => ?_
 cases Region.binds .any e <;> simp
theorem Ru {l : Array Bool} {i : Nat} (h : i < l.size) (b c : Bool) : l.getD i b = l.getD i c := by
 rw [Array.getD_eq_getD_getElem?, Array.getD_eq_getD_getElem?, Array.getElem?_eq_getElem h]; rfl
theorem gD {ih : Bo} {ops : Array Oper} (hP : I3 ops.toList (Cy ops.toList []) ops.toList.zipIdx = true)
  {e : Exit} {a1 : Ca} {S1 : St} {ρ0 : AF} {Q : Exit → Act → World → Prop} (hQ : ∀ e' CQ w', Hr P w0 ρ0 e a1 S1 e' CQ w' → Q e' CQ w') {Ls : Nat → Prop}
  {ar : Act} {w : World} {BG : List Pn} {rest : List (Oper × Nat)} {AX : List (Nat × CZ)} {a : Ca} {S : St} {A : Ca} {no : Nat → Bool} {ρ : AF} {done : Nat}
  (h : Inv P ih ops.toList e a1 S1 w0 ρ0 Ls ar w BG rest AX a S A no ρ done) (Dm : ∀ i, i < ops.size → Ls i) : Q .normal ar w := by
 obtain ⟨BG, rest, AX, a, S, no, done, h, hlen, jT⟩ := h.RO hP
 have hp : BG = [] := by
  refine List.eq_nil_iff_forall_not_mem.2 fun q hq => h.Nq q hq (Dm q.i ?_)
  have := (List.getElem?_eq_some_iff.1 (h.I5 q hq)).1
  simpa using this
 have hr : rest = [] := by
  cases rest with
  | nil => rfl
  | cons x r =>
   obtain ⟨o, i⟩ := x
   have hi := (List.getElem?_eq_some_iff.1 (h.mem (o, i) (by simp))).1
   have := (Qh h.I4).1
   rw [(h.K1 i).2 (.inl (Dm i (by simpa using hi)))] at this
   cases this
 subst hp hr
 have DH := h.run
 simp only [Ce, Option.some.injEq, Prod.mk.injEq] at DH
 obtain ⟨rfl, rfl, rfl⟩ := DH
 refine hQ _ _ _ ⟨ρ, h.ext, .normal, ⟨by rw [← h.An.1]; exact h.act.le, ⟨by rw [← h.An.1]; exact h.act.tm.1, fun t => ?_⟩, by rw [← h.An.2]; exact h.act.df⟩, ?_⟩
 ·have := h.act.tm.2 t
  rw [← get_eq, h.Pa t (fun q hq => by cases hq)] at this
  exact this
 have e1 : no = w0.no := by
  funext x
  have := h.OF x
  simp only [List.not_mem_nil, false_and, exists_false, or_false] at this
  cases h1 : no x <;> cases h2 : w0.no x <;> simp_all
 have := h.Kh
 rw [e1] at this
 exact this
def UD (n : Nat) (listed : Array Bool) : Nat := ((List.range n).filter fun x => !(listed.getD x false)).length
theorem dM {n : Nat} {listed : Array Bool} {i : Nat} (hi : i < n) (hs : listed.size = n) (hl : listed.getD i false = false) : UD n (listed.setIfInBounds i true) < UD n listed := by
 unfold UD
 have GF : ∀ x, (listed.setIfInBounds i true).getD x false = (listed.getD x false || x == i) := by
  intro x
  rw [Array.getD_eq_getD_getElem?, Array.getElem?_setIfInBounds]
  by_cases e : i = x
  ·subst e; simp [hs, hi]
  rw [if_neg e, ← Array.getD_eq_getD_getElem?]
  have : (x == i) = false := by simpa using fun h : x = i => e h.symm
  rw [this, Bool.or_false]
 have e1 : ((List.range n).filter fun x => !((listed.setIfInBounds i true).getD x false)) = (((List.range n).filter fun x => !(listed.getD x false)).filter fun x => !(x == i)) := by
  rw [List.filter_filter]
  refine List.filter_congr fun x _ => ?_
  rw [GF, Bool.not_or, Bool.and_comm]
 rw [e1]
 exact List.length_filter_lt_length_iff_exists.2 ⟨i, List.mem_filter.2 ⟨List.mem_range.2 hi, by rw [hl]; rfl⟩, by simp⟩
theorem qI {ih : Bo} {ops : Array Oper} (Ao : ∀ no, Eo P ⟨w0.toWorld, no⟩ ih) (hE : Rf ops.toList.zipIdx = true) (hP : I3 ops.toList (Cy ops.toList []) ops.toList.zipIdx = true) (hC : DZ P ops.toList = true)
  {e : Exit} {a1 : Ca} {S1 : St} {ρ0 : AF} {ro : Option Nat} {Q : Exit → Act → World → Prop} (hQ : ∀ e' CQ w', Hr P w0 ρ0 e a1 S1 e' CQ w' → Q e' CQ w') :
  ∀ (fuel : Nat) (listed : Array Bool) (ar : Act) (w : World) (BG : List Pn) (rest : List (Oper × Nat)) (AX : List (Nat × CZ)) (a : Ca) (S : St) (A : Ca) (no : Nat → Bool) (ρ : AF) (done : Nat),
   Inv P ih ops.toList e a1 S1 w0 ρ0 (fun x => listed.getD x false = true) ar w BG rest AX a S A no ρ done → listed.size = ops.size → UD ops.size listed ≤ fuel →
   wpAnyIn (FW ro) 0 P .any ops Q fuel listed ar w := by
 intro fuel
 induction fuel with
 | zero =>
  intro listed ar w BG rest AX a S A no ρ done h Ay hle
  have Dm : ∀ i, i < ops.size → listed.getD i false = true := by
   intro i hi
   cases hl : listed.getD i false with
   | true => rfl
   | false =>
    have := dM hi Ay hl
    omega
  refine ⟨List.eq_nil_iff_forall_not_mem.2 fun i hi => ?_, gD hP hQ h Dm⟩
  obtain ⟨h1, h2, _⟩ := bK.1 hi
  rw [Ru (by omega) true false, Dm i h1] at h2
  cases h2
 | succ fuel kT =>
  intro listed ar w BG rest AX a S A no ρ done h Ay hle
  obtain ⟨BG, rest, AX, a, S, no, done, h, hlen, jT⟩ := h.RO hP
  refine ⟨fun Sd => ?_, fun i hi => ?_⟩
  ·have Dm : ∀ i, i < ops.size → listed.getD i false = true := by
    intro i
    induction i using Nat.strongRecOn with
    | ind i yT =>
     intro hi
     cases hl : listed.getD i false with
     | true => rfl
     | false =>
      have : i ∈ Region.ready .any ops listed := by
       refine bK.2 ⟨hi, by rw [Ru (by omega) true false]; exact hl, ops[i], by rw [Array.getElem?_toList]; exact Array.getElem?_eq_getElem hi, fun e he hb => ?_⟩
       have AJ := Xu hE (by rw [Array.getElem?_toList]; exact Array.getElem?_eq_getElem hi) e he hb
       exact yT e.on AJ (by omega)
      rw [Sd] at this
      cases this
   exact gD hP hQ h Dm
  obtain ⟨KJ, C8, o, ho, vq⟩ := bK.1 hi
  have Fz : ∀ b, (AE ops.toList i).testBit b = true → listed.getD b false = true := by
   intro b hb
   obtain ⟨e, he, Yi, hx⟩ := (rv hE ho b).1 hb
   have h1 := vq e he Yi
   rcases hx with rfl | hx
   ·exact h1
   exact h.cls _ h1 b hx
  have GF : ∀ x, (listed.setIfInBounds i true).getD x false = true ↔ listed.getD x false = true ∨ x = i := by
   intro x
   rw [Array.getD_eq_getD_getElem?, Array.getElem?_setIfInBounds]
   by_cases e : i = x
   ·subst e; simp [Ay, KJ]
   rw [if_neg e, ← Array.getD_eq_getD_getElem?]
   constructor
   ·exact .inl
   rintro (h | h)
   ·exact h
   exact absurd h.symm e
  have iZ : (fun x => (listed.setIfInBounds i true).getD x false = true) = fun x => listed.getD x false = true ∨ x = i := funext fun x => propext (GF x)
  have Is : ops[i]? = some o := by rw [← Array.getElem?_toList]; exact ho
  unfold wpOpIn
  rw [Is]
  simp only
  have CI : ¬ (listed.getD i false = true) := by rw [← Ru (by omega) true false, C8]; simp
  rcases mR _ _ h.I4 i (by simpa using KJ) with h3 | ⟨o', h3⟩
  ·rcases (h.K1 i).1 h3 with h4 | ⟨q, hq, rfl⟩
   ·exact absurd h4 CI
   have e1 : o = q.o := by
    have := h.I5 q hq
    rw [ho] at this
    exact Option.some.inj this
   subst e1
   refine AAs Ao hP hC h hq Fz fun CQ w' A' no' ρ' h' => ?_
   rw [← iZ] at h'
   refine kT _ _ _ _ _ _ _ _ _ _ _ _ h' (by simp [Ay]) ?_
   have := dM KJ Ay (by rw [← Ru (by omega) true false]; exact C8)
   omega
  cases rest with
  | nil => cases h3
  | cons x r =>
   obtain ⟨p, k⟩ := x
   obtain ⟨hw, hk⟩ := jT p k r rfl
   obtain ⟨hd, L6, wH, Cr⟩ := Qh h.I4
   rcases List.mem_cons.1 h3 with h4 | h4
   ·cases h4
    have e1 : o = o' := by
     have := h.mem (o', i) (by simp)
     simp only at this
     rw [ho] at this
     exact Option.some.inj this
    subst e1
    refine vo Ao hP hC h Fz hw hk fun CQ w' Fv a' S' A' ρ' Uv h' => ?_
    rw [← iZ] at h'
    refine kT _ _ _ _ _ _ _ _ _ _ _ _ h' (by simp [Ay]) ?_
    have := dM KJ Ay (by rw [← Ru (by omega) true false]; exact C8)
    omega
   have h5 := Fz k (wH hk _ h4)
   have : done.testBit k = true := (h.K1 k).2 (.inl h5)
   rw [hd] at this
   cases this
theorem tM {ih : Bo} (hm : P.follows .mixedOrders = true) (Ao : ∀ no, Eo P ⟨w0.toWorld, no⟩ ih) : dt P w0 ih := by
 intro id ops a S e a1 S1 h hC ro ρ w ar hs ha
 unfold Nw at h
 split at h
 ·rename_i bf pl Cr
  unfold V8 at Cr
  cases hg : (bO ops.toList && MT ops.toList (Cy ops.toList []) (V7 ops.toList) 0) with
  | false => simp only [hg, cond_false] at Cr; cases Cr
  | true =>
   simp only [hg, cond_true, Option.some.injEq, Prod.mk.injEq] at Cr
   obtain ⟨rfl, rfl⟩ := Cr
   simp only [Bool.and_eq_true] at hg
   obtain ⟨j4, xG⟩ := hg
   simp only [bO, Bool.and_eq_true] at j4
   obtain ⟨⟨hE, hP⟩, _⟩ := j4
   refine wpIn_region_any hm ?_
   have jg : ∀ x, ¬ ((Array.replicate ops.size false).getD x false = true) := by
    intro x
    rw [Array.getD_eq_getD_getElem?, Array.getElem?_replicate]
    split <;> simp
   refine qI Ao hE hP hC (fun _ _ _ h => h) ops.size _ ar _ [] (V7 ops.toList) [] a S a w0.no ρ 0 ?_ (by simp) (by unfold UD; refine Nat.le_trans (List.length_filter_le ..) (by simp))
   refine ⟨h, xG, AA1, fun x => by simp [jg], fun j hj => absurd hj (jg j), fun q hq => (by cases hq), fun q hq => (by cases hq), fun q hq => (by cases hq), fun q hq => (by cases hq), fun q hq => (by cases hq),
    fun q hq => (by cases hq), fun q hq => (by cases hq), ⟨rfl, rfl⟩, fun _ _ => rfl, fun q hq => (by cases hq), fun q hq => (by cases hq), fun q hq => (by cases hq), fun x => by simp, fun q hq => (by cases hq), fun q hq => (by cases hq),
    Ext.refl _, hs.same rfl rfl rfl, ha⟩
 cases h
theorem gz {W : World} (hm : P.follows .mixedOrders = true) (hK : N6 P K W) : ∀ (n m : Nat), m ≤ n → ∀ no, Eo P ⟨W, no⟩ (fns P K m) := by
 intro n
 induction n with
 | zero =>
  intro m hle no
  have : m = 0 := by omega
  subst this
  exact ⟨(fun t args S e S' h => by cases h), (fun ro c a S e a' S' h => by cases h)⟩
 | succ n TE =>
  intro m hle no
  rcases Nat.lt_or_ge m (n + 1) with h1 | h1
  ·exact TE m (by omega) no
  have : m = n + 1 := by omega
  subst this
  exact ⟨sV (TE n (Nat.le_refl _) no) hK, ti (fun m hm => TE m hm no) (tM hm (TE n (Nat.le_refl _))) (ABG (TE n (Nat.le_refl _) no))⟩
end Go.Cm
namespace Go.Cm
structure GW (α : Type) (d : Nat) where
 f : PT α d → Option α
structure SW (α : Type) (d : Nat) where
 f : Option α → PT α d → PT α d
abbrev Hp := Cf
noncomputable def qV {α : Type} (d : Nat) : PT α d → Nat → Option α :=
 Nat.rec (motive := fun d => PT α d → Nat → Option α) (fun t _ => t) (fun _ ih t k => Bool.rec (motive := fun _ => Option α) (ih t.2 (Nat.div k 2)) (ih t.1 (Nat.div k 2)) (Nat.beq (Nat.mod k 2) 0)) d
noncomputable def AE9 {α : Type} (v : Option α) (d : Nat) : PT α d → Nat → PT α d :=
 Nat.rec (motive := fun d => PT α d → Nat → PT α d) (fun _ _ => v)
  (fun d ih t k => Prod.rec (motive := fun _ => PT α d × PT α d) (fun l r => Bool.rec (motive := fun _ => PT α d × PT α d) (l, ih r (Nat.div k 2)) (ih l (Nat.div k 2), r) (Nat.beq (Nat.mod k 2) 0)) t) d
noncomputable def wF (h : Hp) (b : Nat) : Option AD := Cf.rec (motive := fun _ => Option AD) (fun t more => Bool.rec (motive := fun _ => Option AD) (more b) (qV 18 t b) (Nat.blt b 262144)) h
noncomputable def FY (S : St) (b : Nat) : Option AD := wF S.heap b
noncomputable def GF (h : Hp) (b : Nat) (x : Option AD) : Hp := Cf.rec (motive := fun _ => Hp) (fun t more => Bool.rec (motive := fun _ => Hp) ⟨t, fun j => bif Nat.beq j b then x else more j⟩ ⟨AE9 x 18 t b, more⟩ (Nat.blt b 262144)) h
abbrev F7 := Option (Exit × Ca × St)
abbrev dz := Value → St → F7
abbrev UT := List PanicEntry → St → F7
abbrev pg := Bo → Tm → St → dz → UT → F7
structure EvW where
 get : Tm → Value
structure OpW where
 run : pg
variable (P : Program)
abbrev eH := Bo → Nat → Tm → St → (Tm → St → F7) → UT → F7
structure AFf where
 run : eH
def ye (v : Option Value) (w : Bool) : Bool := match v with
 | some (.bool b) => b == w
 | _ => false
noncomputable def stepG (g : Tm → Option Value) (w : Bool) (yes no : eH) (ih : Bo) (n : Nat) (t : Tm) (S : St) (k : Tm → St → F7) (A6 : UT) : F7 :=
 Bool.rec (motive := fun _ => F7) (no ih n t S k A6) (yes ih n t S k A6) (ye (g t) w)
abbrev XA := Nat × (St → F7 → F7)
abbrev po := Bo → Nat → List Deferred → Tm → St → List XA → (List XA → Tm → St → F7) → F7
structure PlW where
 run : po
noncomputable def F8 (S : St) (k : F7) (l : List XA) : F7 := List.rec (motive := fun _ => F7) k (fun e _ ih => e.2 S ih) l
def I7 (_ : Nat) (t : Tm) (_ : Value) (k : Tm → F7) : F7 := k t
structure AFd where
 run : Bo → Option Nat → Ca → St → F7
inductive AFe where
 | bad
 | ext
 | go (n : Nat) (c : Code) (rs : List ResultVar)
end Go.Cm
namespace Go.Cm
open Go
section
variable {P : Program} {ih : Bo} {t : Tm} {S : St} {ok : dz} {A6 : UT}
end
section
variable {P : Program}
end
section
variable {P : Program}
end
end Go.Cm
namespace Go.Cm
open Go
variable {P : Program} {w0 : Bn} {K : A1}
def Ra (f : DataW Unit → Option (List Value)) : List (DataW Unit) → Option (List Value)
 | [] => some []
 | d :: r => match f d, Ra f r with
  | some a, some b => some (a ++ b)
  | _, _ => none
def Rb (f : TypeId → DataW Unit → Option (List Value)) : List Field → List (DataW Unit) → Option (List Value)
 | [], [] => some []
 | x :: fs, d :: r => match f x.type d, Rb f fs r with
  | some a, some b => some (a ++ b)
  | _, _ => none
 | _, _ => none
def K0 (P : Program) (n : Nat) : List Field → Nat → Bool
 | [], o => Nat.beq o n
 | f :: r, o => Nat.beq f.offset o && K0 P n r (o + P.cellsOf f.type)
def dc (P : Program) : Nat → TypeId → DataW Unit → Option (List Value)
 | 0, _, _ => none
 | n + 1, t, d => match P.underlying t, d with
  | some .bool, .lit (.bool b) => some [.bool b]
  | some (.int _), .lit (.int k m) => some [.int k m]
  | some .string, .lit (.string s) => some [.string ⟨s.toArray⟩]
  | some (.array m e), .agg l => bif Nat.beq (P.cellsOf t) (m * P.cellsOf e) then Ra (dc P n e) l else none
  | some (.struct fs), .agg l => bif K0 P (P.cellsOf t) fs.toList 0 then Rb (dc P n) fs.toList l else none
  | _, _ => none
theorem chunks (z : Nat) (cs : List Value) : ∀ (j k : Nat), cs.length = (k + j) * z → cs.drop (k * z) = (List.range' k j).flatMap fun i => (cs.drop (i * z)).take z
 | 0, k, h => by
  rw [List.drop_eq_nil_of_le (by rw [h]; exact Nat.le_refl _)]; rfl
 | j + 1, k, h => by
  rw [List.range'_succ, List.flatMap_cons, ← chunks z cs j (k + 1) (by rw [h]; congr 1; omega)]
  rw [show (k + 1) * z = k * z + z from Nat.succ_mul k z, ← List.drop_drop, List.take_append_drop]
theorem fw {f : DataW Unit → Option (List Value)} {g : Nat → Option (DataW Unit × List MemPlace)} {c : Nat → List Value} (hf : ∀ i d p l, g i = some (d, p) → f d = some l → c i = l) :
  ∀ (is : List Nat) (xs : List (DataW Unit × List MemPlace)) (l : List Value), is.mapM g = some xs → Ra f (xs.map (·.1)) = some l → is.flatMap c = l
 | [], xs, l, hm, hl => by
  simp only [List.mapM_nil, Option.pure_def, Option.some.injEq] at hm
  subst hm
  simp only [List.map_nil, Ra, Option.some.injEq] at hl
  subst hl
  rfl
 | i :: is, xs, l, hm, hl => by
  rw [List.mapM_cons] at hm
  obtain ⟨y, hy, hm⟩ := Option.mem_bind_iff.1 hm
  obtain ⟨ys, Ox, hm⟩ := Option.mem_bind_iff.1 hm
  cases hm
  simp only [List.map_cons, Ra] at hl
  split at hl
  ·rename_i a b ha hb
   cases hl
   rw [List.flatMap_cons, fw hf is ys b Ox hb, hf i y.1 y.2 a hy ha]
  cases hl
theorem fy {f : TypeId → DataW Unit → Option (List Value)} {g : Field → Option (DataW Unit × List MemPlace)} {cs : List Value} (hf : ∀ x d p l, g x = some (d, p) → f x.type d = some l → (cs.drop x.offset).take (P.cellsOf x.type) = l) :
  ∀ (fs : List Field) (o : Nat) (xs : List (DataW Unit × List MemPlace)) (l : List Value), K0 P cs.length fs o = true → fs.mapM g = some xs → Rb f fs (xs.map (·.1)) = some l → cs.drop o = l
 | [], o, xs, l, hc, hm, hl => by
  simp only [List.mapM_nil, Option.pure_def, Option.some.injEq] at hm
  subst hm
  simp only [List.map_nil, Rb, Option.some.injEq] at hl
  subst hl
  rw [BV hc, List.drop_length]
 | x :: fs, o, xs, l, hc, hm, hl => by
  rw [List.mapM_cons] at hm
  obtain ⟨y, hy, hm⟩ := Option.mem_bind_iff.1 hm
  obtain ⟨ys, Ox, hm⟩ := Option.mem_bind_iff.1 hm
  cases hm
  simp only [K0, Bool.and_eq_true] at hc
  simp only [List.map_cons, Rb] at hl
  split at hl
  ·rename_i a b ha hb
   cases hl
   rw [← fy hf fs _ ys b hc.2 Ox hb, ← hf x y.1 y.2 a hy ha, BV hc.1, ← List.drop_drop, List.take_append_drop]
  cases hl
theorem Xo {w : World} {base : Nat} {sp : Nat → Bool} {held : Bool} : ∀ (n : Nat) (t : TypeId) (d : DataW Unit) (l cs : List Value) (fuel : Nat) (p : List MemPlace),
  DataW.trod (fun _ => ()) P w base sp held fuel t cs = some (d, p) → dc P n t d = some l → cs = l
 | 0, t, d, l, cs, fuel, p, h, hl => by cases hl
 | n + 1, t, d, l, cs, 0, p, h, hl => by simp [DataW.trod] at h
 | n + 1, t, d, l, cs, fuel + 1, p, h, hl => by
  unfold dc at hl
  split at hl
  ·rename_i b hu
   cases hl
   simp only [DataW.trod, hu] at h
   split at h <;> simp_all
  ·rename_i k m hu
   cases hl
   simp only [DataW.trod, hu] at h
   split at h <;> simp_all
  ·rename_i s hu
   cases hl
   simp only [DataW.trod, hu] at h
   split at h <;> simp_all
   obtain ⟨_, rfl, _⟩ := h
   rfl
  ·rename_i m e ds hu
   cases hb : Nat.beq (P.cellsOf t) (m * P.cellsOf e) with
   | false => rw [hb] at hl; cases hl
   | true =>
    rw [hb] at hl
    simp only [cond_true] at hl
    have Ay := BV hb
    simp only [DataW.trod, hu] at h
    split at h
    ·rename_i hlen
     obtain ⟨xs, hm, hx⟩ := Option.map_eq_some_iff.1 h
     have MA : xs.map (·.1) = ds := by
      have := congrArg Prod.fst hx
      simpa using this
     rw [← MA] at hl
     have := fw (c := fun i => (cs.drop (i * P.cellsOf e)).take (P.cellsOf e)) (fun i d p l h1 h2 => Xo n e d l _ fuel p h1 h2) _ _ _ hm hl
     rw [← this, List.range_eq_range']
     have h2 := chunks (P.cellsOf e) cs m 0 (by rw [hlen, Ay, Nat.zero_add])
     rw [Nat.zero_mul, List.drop_zero] at h2
     exact h2
    cases h
  ·rename_i fs ds hu
   cases hb : K0 P (P.cellsOf t) fs.toList 0 with
   | false => rw [hb] at hl; cases hl
   | true =>
    rw [hb] at hl
    simp only [cond_true] at hl
    simp only [DataW.trod, hu] at h
    split at h
    ·rename_i hlen
     obtain ⟨xs, hm, hx⟩ := Option.map_eq_some_iff.1 h
     have MA : xs.map (·.1) = ds := by
      have := congrArg Prod.fst hx
      simpa using this
     rw [← MA] at hl
     have := fy (cs := cs) (fun x d p l h1 h2 => Xo n x.type d l _ fuel p h1 h2) _ 0 xs l (by rw [hlen]; exact hb) hm hl
     rw [List.drop_zero] at this
     exact this
    cases h
  cases hl
theorem Vq {W : World} : ∀ (laid : List (String × DataW Unit)) (ps : List MemPlace), DataW.LaidVars P W laid ps → ∀ n d, (n, d) ∈ laid → ∀ g t k l, P.globalNamed n = some g → (P.globals[g]?).map (·.type) = some t → dc P k t d = some l →
  ∃ (arr : Array Value) (e : TypeId) (fz : Nat × Nat), W.heap[g]? = some (.cells arr e fz) ∧ arr.toList = l
 | [], ps, h, n, d, hm, g, t, k, l, hg, ht, hl => by cases hm
 | (m, d') :: laid, ps, h, n, d, hm, g, t, k, l, hg, ht, hl => by
  obtain ⟨g', t', cs, fuel, p, q, h1, h2, h3, h4, h5, _⟩ := h
  rcases List.mem_cons.1 hm with he | he
  ·obtain ⟨rfl, rfl⟩ := Prod.mk.inj he
   obtain rfl := Option.some.inj (hg.symm.trans h1)
   obtain rfl := Option.some.inj (ht.symm.trans h2)
   have := Xo k t _ l cs.toList fuel p h4 hl
   unfold World.var? at h3
   rw [hg] at h3
   simp only [Option.bind_some] at h3
   split at h3
   ·rename_i arr e fz hh
    cases h3
    exact ⟨_, _, _, hh, this⟩
   cases h3
  exact Vq laid q h5 n d he g t k l hg ht hl
def Wp : List (Nat × List Value) → Cf
 | [] => Cf.nil
 | (g, l) :: r => (Wp r).set g (some (.cells l 0 false false []))
def EA (G : List (Nat × List Value)) (n : Nat) : St := ⟨Wp G, n⟩
theorem Ws (n : Nat) : ∀ (G : List (Nat × List Value)) (b : Nat) (B : AD), (EA G n).get b = some B → ∃ l, (b, l) ∈ G ∧ B = .cells l 0 false false []
 | [], b, B, h => by
  simp only [EA, Wp, St.get, Cf.get_nil] at h
  cases h
 | (g, l) :: G, b, B, h => by
  simp only [EA, Wp, St.get, Cf.HQ] at h
  split at h
  ·rename_i he
   cases h
   exact ⟨l, by rw [he]; simp, rfl⟩
  obtain ⟨l', h1, h2⟩ := Ws n G b B h
  exact ⟨l', by simp [h1], h2⟩
def Wq (n : Nat) (W : World) : AF := fun g => if g < n then some ⟨g, 0, match W.heap[g]? with | some (.cells arr _ _) => arr.size | _ => 0, 0⟩ else none
theorem oU {W : World} {G : List (Nat × List Value)} (hn : P.globals.size ≤ W.heap.size) (hG : ∀ g l, (g, l) ∈ G → ∃ (arr : Array Value) (e : TypeId) (fz : Nat × Nat), W.heap[g]? = some (.cells arr e fz) ∧ arr.toList = l)
  (hf : ∀ g l, (g, l) ∈ G → ∀ v ∈ l, DM Lu v = true) : AO P ⟨W, fun _ => false⟩ (Wq P.globals.size W) (EA G P.globals.size) W := by
 refine ⟨Nat.le_refl _, fun _ _ => rfl, rfl, rfl, fun b L hb => ?_, fun b L B hb hB => ?_, fun b L B hb hB hm => ?_, fun g hg => ?_, fun b hb => by cases hb⟩
 ·unfold Wq at hb
  split at hb
  ·rename_i AJ
   cases hb
   exact ⟨AJ, Nat.lt_of_lt_of_le AJ hn⟩
  cases hb
 ·obtain ⟨l, hl, rfl⟩ := Ws _ G b B hB
  obtain ⟨arr, e, fz, h1, h2⟩ := hG b l hl
  unfold Wq at hb
  split at hb
  ·cases hb
   simp only [h1]
   refine ⟨arr, e, fz, rfl, rfl, fun i v hv => ⟨v, ?_, (Lv _ _ (hf b l hl v (List.mem_of_getElem? hv))).refl _⟩, (fun h => nomatch h), (fun h => nomatch h), fun _ => ⟨rfl, rfl, by rw [← h2]; simp⟩, fun _ h => absurd rfl h⟩
   rw [Nat.zero_add, ← Array.getElem?_toList, h2]
   exact hv
  cases hb
 ·obtain ⟨l, hl, rfl⟩ := Ws _ G b B hB
  cases hm
 unfold Wq
 rw [if_pos hg]
 exact ⟨_, rfl, rfl, rfl⟩
end Go.Cm
