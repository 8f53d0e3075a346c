/-
  All brackets of a part of the kit are valid, and a note is under a bracket Chosen exactly if it is uncertain, and under one of them alone: BracketValid returns true for all numbers and lists of numbers.
-/
import Derived.Test.YtnhalpkekpehpaaGreatDoorSmH
import Derived.Test.YtnhalpkekpehpaaGreatDoorBp3
import Derived.Test.YtnhalpkekpehpaaGreatDoorCards
import Derived.Test.YtnhalpkekpehpaaGreatDoorTie
import Derived.WalkKit
import Derived.ProofKit
import Derived.OpenShut
import Derived.Deep.DeepHandedRow
namespace Go.Proofs.YtnhalpkekpehpaaGreatDoor
open Go.Cm Go
set_option maxRecDepth 100000
variable {S : St}
open Go.ChangeShapes Go.WideShapes Go.ChangeAt Go.RowKit
theorem AAp : ownKnob Tryz.prog.godebug = none := by kernel_rfl
theorem _root_.Go.Cm.Kept.sK {W w : World} (h : Kept W w) (may : MemPlace → Prop) : W.keptBut w may := by
 refine ⟨h.os, h.out, fun i hi => ?_⟩
 rw [h.old i hi]
 cases W.heap[i]? with
 | none => rfl
 | some o => cases o <;> first | exact ⟨rfl, rfl, rfl, fun _ _ => rfl⟩ | exact .inr ⟨rfl, rfl⟩ | rfl
theorem AA3 {H : Type} {enc : TypeId × Value → H} {P : Program} {f : Func} {s : ChangeSpec} {apart fresh handsOn : Bool} {W W' : World} {args : Array Value} {ds gs : List (DataW H)} {before pa pv : List MemPlace} {t : TypeId}
  (hr : f.resultTypes = #[t]) (ht : P.underlying t = some .bool) (hs : (s.fn H (ds ++ gs)).results = [.lit (.bool true)])
  (hW : DataW.Whole enc P f.params.toList s.vars apart W args.toList ds gs before) (hk : Kept W W')
  (P' : DataW.TrodAll enc P W' 0 (fun b => decide (b < W.heap.size)) true f.params.toList args.toList (s.fn H (ds ++ gs)).args pa)
  (yE : DataW.TrodVars enc P W' (fun b => decide (b < W.heap.size)) s.vars (s.fn H (ds ++ gs)).vars pv) : s.post enc P f apart fresh handsOn false W args (.bool true) W' := by
 refine ⟨ds, gs, before, [], pa, pv, hW, ?_, P', yE, hk.sK _, fun h => by cases h⟩
 rw [hr, hs]
 exact trodAll_mk1 (shut_bool ht _)
def holds (l : List Value) : Obj → Obj
 | .cells _ t frozen => .cells l.toArray t frozen
 | o => o
noncomputable def zL (h : Array Obj) : Array Obj := (((h).modify 0 (holds aR)).modify 1 (holds aU)).modify 2 (holds Vz)
noncomputable def Zv (os : Os) : World :=
 { World.holding Tryz.prog os ⟨#[], #[], []⟩ with heap := zL (World.holding Tryz.prog os ⟨#[], #[], []⟩).heap }
def za : Array Value := #[.int .i64 0, .slice none 0 0]
def zd {H : Type} : List (DataW H) := [.lit (.int .i64 0), .nil]
theorem zM (os : Os) : laidMet Tryz.prog Rows.bracketValidRow.laid ((Zv os).forCall (fun _ _ => 0) ⟨#[], za, []⟩).memory :=
 laidMet_of_run' 8 aP aP
theorem reads (os : Os) {H : Type} (enc : TypeId × Value → H) : ∃ places, DataW.whole enc Tryz.prog ((Zv os).forCall (fun _ _ => 0) ⟨#[], za, []⟩).memory Tryz.f4.params.toList Rows.bracketValidSpec.vars false za.toList 8 = some (zd, [], places) :=
 ⟨[], by kernel_rfl⟩
theorem zN : dx Rows.bracketValidRow.laid := by
 refine ⟨?_, ?_, ?_⟩
 all_goals
  show _ ∈ [_, _, _]
  simp only [List.mem_cons, true_or, or_true]
theorem af : Tryz.f4.params = #[3, 22] := by kernel_rfl
theorem tC (H : Type) (enc : TypeId × Value → H) (W : World) (base : Nat) (args : Array Value) (ds gs : List (DataW H)) (before : List MemPlace)
  (QQ : ∀ (j : Nat) t v, Tryz.f4.params[j]? = some t → args[j]? = some v → Value.okWide Tryz.prog W .any base t v)
  (hW : DataW.Whole enc Tryz.prog Tryz.f4.params.toList Rows.bracketValidSpec.vars false W args.toList ds gs before) (hL : laidMetH Tryz.prog Rows.bracketValidRow.laid W) :
  Calls Tryz.prog 4 args W fun e W' => ∃ v, e = .returned v ∧ Rows.bracketValidSpec.post enc Tryz.prog Tryz.f4 false true false false W args v W' := by
 have u6 := hW
 obtain ⟨p, q, iS, hV, rfl, jQ, CW⟩ := hW
 have hA : DataW.TrodAll enc Tryz.prog W 0 (fun _ => true) true Tryz.f4.params.toList args.toList ds p := iS
 rw [af] at hA QQ
 obtain ⟨v1, v2, d1, d2, p1, p2, rfl, rfl, rfl, h1, h2⟩ := trodAll_two hA
 obtain ⟨rfl, rfl⟩ := trodVars_none hV
 obtain ⟨m, rfl⟩ := okWide_int Tryz.underlying3 (QQ 0 3 v1 rfl rfl)
 obtain ⟨x1, y1, z1, rfl⟩ := okWide_slice Tryz.underlying22 (QQ 1 22 v2 rfl rfl)
 clear iS
 refine (AGk (zZ zN hL) h2 Tryz.func4 (c := (cb Tryz.f4)) aP aP (fun S ax cx X hF hG Cq Dk hx => Bp (AGq m ax cx X hF hG Cq Dk hx) fun v S' h => h.2)).mono fun e W' ⟨he, hk⟩ => ?_
 subst he
 refine ⟨_, rfl, AA3 (pa := p1 ++ p2) (pv := []) (t := 4) aP aP rfl u6 hk ?_ ?_⟩
 ·rw [af]
  exact nF hk 7 _ _ _ _ aP hA
 exact rfl
theorem lifted (os : Os) (started : os.Started) (H : Type) (enc : TypeId × Value → H) (F : Stop.Interp) :
  ReturnsInHanded {} Tryz.checked os 4 .any ((OpenSpec.ofChange Rows.bracketValidSpec).preRow enc Tryz.prog Tryz.f4 Rows.bracketValidRow.domain false Rows.bracketValidRow.laid) (((OpenSpec.ofChange Rows.bracketValidSpec).at F).post enc Tryz.prog Tryz.f4 false true false false) := by
 obtain ⟨places, hx⟩ := reads os enc
 refine returnsInHanded_of_row (C := Tryz.checked) (s := OpenSpec.ofChange Rows.bracketValidSpec) AAp started aP Tryz.func4
  (witness_row_at (enc := enc) (C := Tryz.checked) false (Zv os) za rfl aP aP aP
   (OpenSpec.preRow_of_cond 8 hx aP (fun k hk => by cases hk) aP (zM os))) ?_
 intro W base args ds gs before QQ hW _ _ _ hL _ _
 exact tC H enc W base args ds gs before QQ hW hL
theorem said : Rows.BracketValidSaid :=
 OpenClaim.holds_of_cond 4 Tryz.f4 rfl rfl rfl rfl rfl rfl rfl ⟨rfl, rfl, rfl, rfl, rfl⟩ rfl rfl rfl rfl rfl aP Tryz.func4 y6
  (oTr aP) (by unfold Func.isWrapper; first | (rw [if_pos (by decide +kernel)]; kernel_rfl) | (rw [if_neg (by decide +kernel)]; exact ⟨rfl, rfl⟩))
  (fun os started H enc _ F => by rw [OpenClaim.pre_eq_preRow]; exact lifted os started H enc F)
theorem plain (f : FuncId) (fn : Func) (hf : Tryz.pinned.checked.prog.funcNamed "tactus/tactuslaw34.BracketValid" = some f) (SO : Tryz.pinned.checked.prog.funcs[f]? = some fn) :
  true = Tryz.pinned.checked.prog.looks [] ∧ ∀ (j : Nat) t, fn.params[j]? = some t → Tryz.pinned.checked.prog.wantsStandIn t = false := by
 obtain rfl : f = 4 := Option.some.inj ((show Tryz.prog.funcNamed "tactus/tactuslaw34.BracketValid" = some 4 by kernel_rfl).symm.trans hf) |>.symm
 obtain rfl : fn = Tryz.f4 := (Option.some.inj (Tryz.func4.symm.trans SO)).symm
 refine ⟨by kernel_rfl, fun j t ht => ?_⟩
 rw [af] at ht
 have LD := Array.mem_of_getElem? ht
 obtain rfl | rfl : t = 3 ∨ t = 22 := by simpa using LD
 ·exact (show Tryz.prog.wantsStandIn 3 = false by kernel_rfl)
 exact (show Tryz.prog.wantsStandIn 22 = false by kernel_rfl)
theorem card : Rows.BracketValidCardSaid :=
 Claim7.holds_tied_plain_at .later [] _ _ _ _ said (fun _ h => by cases h) aP (fun _ h => by cases h) bracketValid_row_tie rfl ⟨rfl, rfl⟩ aP rfl plain aP
end Go.Proofs.YtnhalpkekpehpaaGreatDoor
