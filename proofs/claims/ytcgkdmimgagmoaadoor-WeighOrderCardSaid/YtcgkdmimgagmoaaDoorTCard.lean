/-
  Compare is a total order: whatever three weights are handed in, the law returns true and its arguments read as before.
-/
import Derived.Test.YtcgkdmimgagmoaaDoorTOrder
import Derived.Test.YtcgkdmimgagmoaaDoorTAwake
import Derived.Test.YtcgkdmimgagmoaaDoorCards
import Derived.Test.YtcgkdmimgagmoaaDoorTie
import Derived.WalkKit
import Derived.ProofKit
import Derived.OpenShut
import Derived.Deep.DeepHandedRow
namespace Go.Proofs.YtcgkdmimgagmoaaDoor
open Go.ChangeShapes Go.WideShapes Go.ChangeAt Go.RowKit Go.Cm

theorem own : ownKnob Tryd.prog.godebug = none := by kernel_rfl

theorem _root_.Go.Cm.Kept.but {W w : World} (h : Kept W w) (may : MemPlace → Prop) : W.keptBut w may := by
  refine ⟨h.os, h.out, fun i hi => ?_⟩
  rw [h.old i hi]
  cases W.heap[i]? with
  | none => rfl
  | some o => cases o <;> first | exact ⟨rfl, rfl, rfl, fun _ _ => rfl⟩ | exact .inr ⟨rfl, rfl⟩ | rfl

/-- a law's end: it returned true, nothing old was turned, its arguments read as before -/
theorem post_true {H : Type} {enc : TypeId × Value → H} {P : Program} {f : Func} {s : ChangeSpec} {apart fresh handsOn : Bool} {W W' : World} {args : Array Value} {ds gs : List (DataW H)} {before pa pv : List MemPlace} {t : TypeId}
    (hr : f.resultTypes = #[t]) (ht : P.underlying t = some .bool) (hs : (s.fn H (ds ++ gs)).results = [.lit (.bool true)])
    (hW : DataW.Whole enc P f.params.toList s.vars apart W args.toList ds gs before) (hk : Kept W W')
    (hargs : DataW.TrodAll enc P W' 0 (fun b => decide (b < W.heap.size)) true f.params.toList args.toList (s.fn H (ds ++ gs)).args pa)
    (hvars : DataW.TrodVars enc P W' (fun b => decide (b < W.heap.size)) s.vars (s.fn H (ds ++ gs)).vars pv) : s.post enc P f apart fresh handsOn false W args (.bool true) W' := by
  refine ⟨ds, gs, before, [], pa, pv, hW, ?_, hargs, hvars, hk.but _, fun h => by cases h⟩
  rw [hr, hs]
  exact trodAll_mk1 (shut_bool ht _)

theorem open_weight {H : Type} {enc : TypeId × Value → H} {w : World} {base : Nat} {sp : Nat → Bool} {held : Bool} {v : Value} {d : DataW H} {p : List MemPlace} (h : DataW.Trod enc Tryd.prog w base sp held 23 v d p) :
    ∃ m u t, v = .agg #[.int .i64 m, .int .i64 u, .int .i64 t] ∧ d = .agg [.lit (.int .i64 m), .lit (.int .i64 u), .lit (.int .i64 t)] ∧ p = [] ∧ In64 m ∧ In64 u ∧ In64 t := by
  obtain ⟨fuel, h⟩ := h
  cases fuel with
  | zero => simp [DataW.trod] at h
  | succ fuel =>
    simp only [DataW.trod, Tryd.underlying23] at h
    have hsz : Tryd.prog.cellsOf 23 = 3 := by kernel_rfl
    have hs3 : Tryd.prog.cellsOf 3 = 1 := by kernel_rfl
    split at h
    · rename_i hl
      rw [hsz] at hl
      obtain ⟨c0, c1, c2, hc⟩ : ∃ c0 c1 c2, v.cells.toList = [c0, c1, c2] := by
        match hx : v.cells.toList, hl with
        | [a, b, c], _ => exact ⟨a, b, c, rfl⟩
      rw [hc] at h
      obtain ⟨xs, hm, hx⟩ := Option.map_eq_some_iff.1 h
      simp only [List.mapM_cons, List.mapM_nil, hs3, List.drop_zero, List.drop_succ_cons, List.take_succ_cons, List.take_zero] at hm
      obtain ⟨x0, h0, hm⟩ := Option.mem_bind_iff.1 hm
      obtain ⟨ys, hm1, hm⟩ := Option.mem_bind_iff.1 hm
      obtain ⟨x1, h1, hm1⟩ := Option.mem_bind_iff.1 hm1
      obtain ⟨zs, hm2, hm1⟩ := Option.mem_bind_iff.1 hm1
      obtain ⟨x2, h2, hm2⟩ := Option.mem_bind_iff.1 hm2
      obtain ⟨us, hm3, hm2⟩ := Option.mem_bind_iff.1 hm2
      obtain ⟨m, e0, rfl, w0⟩ := DataW.trod_int Tryd.underlying3 h0
      obtain ⟨u, e1, rfl, w1⟩ := DataW.trod_int Tryd.underlying3 h1
      obtain ⟨t, e2, rfl, w2⟩ := DataW.trod_int Tryd.underlying3 h2
      cases hm; cases hm1; cases hm2; cases hm3
      cases e0; cases e1; cases e2
      have b0 := bounds_i64 w0
      have b1 := bounds_i64 w1
      have b2 := bounds_i64 w2
      simp only [List.map_cons, List.map_nil, List.flatMap_cons, List.flatMap_nil, List.append_nil, Prod.mk.injEq] at hx
      obtain ⟨rfl, rfl⟩ := hx
      refine ⟨m, u, t, ?_, rfl, rfl, ⟨b0.1, by omega⟩, ⟨b1.1, by omega⟩, ⟨b2.1, by omega⟩⟩
      cases v with
      | agg cs =>
        have : cs.toList = [.int .i64 m, .int .i64 u, .int .i64 t] := hc
        exact congrArg Value.agg (Array.ext' this)
      | _ => exact absurd (congrArg List.length hc) (by simp [Value.cells])
    · cases h

theorem shut_weight {H : Type} {enc : TypeId × Value → H} {w : World} {base : Nat} {sp : Nat → Bool} {held : Bool} {m u t : Int} (hm : In64 m) (hu : In64 u) (ht : In64 t) :
    DataW.Trod enc Tryd.prog w base sp held 23 (.agg #[.int .i64 m, .int .i64 u, .int .i64 t]) (.agg [.lit (.int .i64 m), .lit (.int .i64 u), .lit (.int .i64 t)]) [] := by
  have hsz : Tryd.prog.cellsOf 23 = 3 := by kernel_rfl
  have hs3 : Tryd.prog.cellsOf 3 = 1 := by kernel_rfl
  have wf : ∀ n, In64 n → (Lit.int .i64 n).wf = true := fun n hn => by
    obtain ⟨h1, h2⟩ := hn
    simp only [Lit.wf, IntKind.min, IntKind.max, IntKind.signed, IntKind.bits, Bool.and_eq_true, decide_eq_true_eq, if_true]
    omega
  refine ⟨2, ?_⟩
  simp [DataW.trod, Value.cells, Tryd.underlying23, Tryd.underlying3, hsz, hs3, wf m hm, wf u hu, wf t ht]

def holds (l : List Int) : Obj → Obj
  | .cells _ t frozen => .cells (ints l).toArray t frozen
  | o => o
noncomputable def laidHeap (h : Array Obj) : Array Obj := (h.modify 0 (holds [1,0,0,0,0,0,0,0,0,0,0,0,0, 0,0,0,0,0,0,0,0,0,0,0,0,0, 0,0,0,2,2,0,0,0,0,0,0,0,0, 0,0,0,0,0,3,4,0,0,0,0,0,0, 0,0,0,0,0,0,4,1,0,0,0,0,0, 0,0,0,0,0,0,0,0,2,2,0,0,0, 0,0,0,0,0,0,0,0,0,0,0,0,0])).modify 1 (holds [0, 2, 4, 5, 7, 9, 11])
noncomputable def laidWorld (os : Os) : World :=
  { World.holding Tryd.prog os ⟨#[], #[], []⟩ with heap := laidHeap (World.holding Tryd.prog os ⟨#[], #[], []⟩).heap }
def zero3 : Value := .agg #[.int .i64 0, .int .i64 0, .int .i64 0]
def zeroD {H : Type} : DataW H := .agg [.lit (.int .i64 0), .lit (.int .i64 0), .lit (.int .i64 0)]
theorem laid_met (os : Os) : laidMet Tryd.prog Rows.weighOrderRow.laid ((laidWorld os).forCall (fun _ _ => 0) ⟨#[], #[zero3, zero3, zero3], []⟩).memory :=
  laidMet_of_run' 8 (by kernel_rfl) (by kernel_rfl)
theorem reads (os : Os) {H : Type} (enc : TypeId × Value → H) : ∃ places, DataW.whole enc Tryd.prog ((laidWorld os).forCall (fun _ _ => 0) ⟨#[], #[zero3, zero3, zero3], []⟩).memory Tryd.f3.params.toList Rows.weighOrderSpec.vars false #[zero3, zero3, zero3].toList 8 = some ([zeroD, zeroD, zeroD], [], places) :=
  ⟨[], by kernel_rfl⟩

theorem mem1 : ("tactus/pitch.halves", Rows.laid_tactus_pitch_halves) ∈ Rows.weighOrderRow.laid := by
  show _ ∈ [_, _]; exact List.mem_cons_self ..
theorem mem0 : ("tactus/interval.kinds", Rows.laid_tactus_interval_kinds) ∈ Rows.weighOrderRow.laid := by
  show _ ∈ [_, _]; exact List.mem_cons_of_mem _ (List.mem_cons_self ..)

set_option maxRecDepth 100000 in
theorem contract (H : Type) (enc : TypeId × Value → H) (W : World) (args : Array Value) (ds gs : List (DataW H)) (before : List MemPlace)
    (hW : DataW.Whole enc Tryd.prog Tryd.f3.params.toList Rows.weighOrderSpec.vars false W args.toList ds gs before) (hL : laidMetH Tryd.prog Rows.weighOrderRow.laid W) :
    Calls Tryd.prog 3 args W fun e W' => ∃ v, e = .returned v ∧ Rows.weighOrderSpec.post enc Tryd.prog Tryd.f3 false true false false W args v W' := by
  have hW' := hW
  obtain ⟨p, q, hA0, hV, rfl, hfz, hnd⟩ := hW
  have hA : DataW.TrodAll enc Tryd.prog W 0 (fun _ => true) true Tryd.f3.params.toList args.toList ds p := hA0
  rw [Tryd.params3] at hA
  obtain ⟨v0, v1, v2, d0, d1, d2, p0, p1, p2, rfl, rfl, rfl, h0, h1, h2⟩ := trodAll_three hA
  obtain ⟨rfl, rfl⟩ := trodVars_none hV
  obtain ⟨m, u, t, rfl, rfl, rfl, i0, i1, i2⟩ := open_weight h0
  obtain ⟨m', u', t', rfl, rfl, rfl, j0, j1, j2⟩ := open_weight h1
  obtain ⟨m2, u2, t2, rfl, rfl, rfl, k0, k1, k2⟩ := open_weight h2
  clear hA0
  refine (order3 m u t m' u' t' m2 u2 t2 W (facts i0 i1 j0 j1 k0 k1) (fun w' hk => awake_true mem1 mem0 hL hk)).mono fun e W' ⟨he, hk⟩ => ?_
  subst he
  refine ⟨_, rfl, post_true (pa := []) (pv := []) (t := 4) (by kernel_rfl) Tryd.underlying4 rfl hW' hk ?_ ?_⟩
  · rw [Tryd.params3]
    exact trodAll_mk3 (shut_weight i0 i1 i2) (shut_weight j0 j1 j2) (shut_weight k0 k1 k2)
  · exact rfl

set_option maxRecDepth 100000 in
theorem lifted (os : Os) (started : os.Started) (H : Type) (enc : TypeId × Value → H) (F : Stop.Interp) :
    ReturnsInHanded {} Tryd.checked os 3 .any ((OpenSpec.ofChange Rows.weighOrderSpec).preRow enc Tryd.prog Tryd.f3 Rows.weighOrderRow.domain false Rows.weighOrderRow.laid) (((OpenSpec.ofChange Rows.weighOrderSpec).at F).post enc Tryd.prog Tryd.f3 false true false false) := by
  obtain ⟨places, hx⟩ := reads os enc
  refine returnsInHanded_of_row (C := Tryd.checked) (s := OpenSpec.ofChange Rows.weighOrderSpec) own started (by kernel_rfl) Tryd.func3
    (witness_row_at (enc := enc) (C := Tryd.checked) false (laidWorld os) #[zero3, zero3, zero3] rfl (by kernel_rfl) (by kernel_rfl) (by kernel_rfl)
      (OpenSpec.preRow_of_cond 8 hx (by kernel_rfl) (fun k hk => by cases hk) (by kernel_rfl) (laid_met os))) ?_
  intro W base args ds gs before hval hW _ _ _ hL _ _
  exact contract H enc W args ds gs before hW hL

theorem said : Rows.WeighOrderSaid :=
  OpenClaim.holds_of_cond 3 Tryd.f3 rfl rfl rfl rfl rfl rfl rfl ⟨rfl, rfl, rfl, rfl, rfl⟩ rfl rfl rfl rfl rfl (by kernel_rfl) Tryd.func3 (by kernel_rfl)
    (of_decide_eq_true (by kernel_rfl)) (by unfold Func.isWrapper; first | (rw [if_pos (by decide +kernel)]; kernel_rfl) | (rw [if_neg (by decide +kernel)]; exact ⟨rfl, rfl⟩))
    (fun os started H enc _ F => by rw [OpenClaim.pre_eq_preRow]; exact lifted os started H enc F)

theorem plain (f : FuncId) (fn : Func) (hf : Tryd.pinned.checked.prog.funcNamed "tactus/tactuslaw38.WeighOrder" = some f) (hfn : Tryd.pinned.checked.prog.funcs[f]? = some fn) :
    false = Tryd.pinned.checked.prog.looks [] ∧ ∀ (j : Nat) t, fn.params[j]? = some t → Tryd.pinned.checked.prog.wantsStandIn t = false := by
  obtain rfl : f = 3 := Option.some.inj ((show Tryd.prog.funcNamed "tactus/tactuslaw38.WeighOrder" = some 3 by kernel_rfl).symm.trans hf) |>.symm
  obtain rfl : fn = Tryd.f3 := (Option.some.inj (Tryd.func3.symm.trans hfn)).symm
  refine ⟨by kernel_rfl, fun j t ht => ?_⟩
  rw [Tryd.params3] at ht
  obtain rfl : t = 23 := by simpa using Array.mem_of_getElem? ht
  exact (show Tryd.prog.wantsStandIn 23 = false by kernel_rfl)

theorem card : Rows.WeighOrderCardSaid :=
  Claim7.holds_tied_plain_at .later [] _ _ _ _ said (fun _ h => by cases h) (by kernel_rfl) (fun _ h => by cases h) weighOrder_row_tie rfl ⟨rfl, rfl⟩ (by kernel_rfl) rfl plain (by kernel_rfl)
end Go.Proofs.YtcgkdmimgagmoaaDoor
