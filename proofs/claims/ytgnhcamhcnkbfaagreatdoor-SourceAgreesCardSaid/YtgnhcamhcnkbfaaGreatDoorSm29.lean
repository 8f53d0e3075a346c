/-
  The source of a part, whether a part agrees, the first choice: SourceAgrees returns true for all sources and parts.
-/
import Derived.Test.YtgnhcamhcnkbfaaGreatDoorSm28
import Derived.Test.YtgnhcamhcnkbfaaGreatDoorSm9
import Derived.Test.YtgnhcamhcnkbfaaGreatDoorSa3
import Derived.Test.YtgnhcamhcnkbfaaGreatDoorCards
import Derived.Test.YtgnhcamhcnkbfaaGreatDoorTie
import Derived.WalkKit
import Derived.ProofKit
import Derived.OpenShut
import Derived.Deep.DeepHandedRow
namespace Go.Proofs.YtgnhcamhcnkbfaaGreatDoor
open Go.Cm Go
set_option maxRecDepth 100000
variable {S : St}
open Go.ChangeShapes Go.WideShapes Go.ChangeAt Go.RowKit

theorem rep_part {c : List Value} {n : Nat} (h : Rep Tryz.prog (n + 5) 27 S c) : ∃ (nm : ByteArray) (a : Option Addr) (cap : Nat) (C : List Sg), c = [.string nm, .slice a C.length cap] ∧ Signs S (.slice a C.length cap) C := by
  have hl0 := rep_len h Tryz.underlying27 (z := 2) (by kernel_rfl)
  obtain ⟨x0, r0, rfl, hl1⟩ := uncons hl0
  obtain ⟨x1, r1, rfl, hl2⟩ := uncons hl1
  obtain rfl := List.length_eq_zero_iff.1 hl2
  obtain ⟨nm, e0⟩ := rep_string (rep_field h Tryz.underlying27 (j := 0) (z := 1) rfl (by kernel_rfl)) Tryz.underlying9
  obtain ⟨v, C, e1, h1, hC⟩ := rep_slice (rep_field h Tryz.underlying27 (j := 1) (z := 1) rfl (by kernel_rfl)) Tryz.underlying25 (z := 17) (by kernel_rfl)
  obtain ⟨L, rfl⟩ := all_signs fun x hx => rep_sign (hC x hx)
  have hs : Signs S v L := h1
  obtain ⟨a, cap, rfl⟩ := hs.is
  cases e0; cases e1
  exact ⟨nm, a, cap, L, rfl, hs⟩
theorem joinSP {W : World} (hm : Met W) {H : Type} {enc : TypeId × Value → H} {v1 v2 : Value} {d1 d2 : DataW H} {p1 p2 : List MemPlace}
    (h1 : DataW.Trod enc Tryz.prog W 0 (fun _ => true) true 24 v1 d1 p1) (h2 : DataW.Trod enc Tryz.prog W 0 (fun _ => true) true 27 v2 d2 p2)
    {f : FuncId} {fn : Func} {c : Code} (hf : Tryz.prog.funcs[f]? = some fn) (hb : fn.body = some c) (hnm : (fn.name == "runtime.NumGoroutine") = false)
    (spec : ∀ (S : St) (n1 n2 : ByteArray) (a1 a2 : Option Addr) (cap1 cap2 : Nat) (L : List Spt) (C : List Sg), Fresh S → Gl S → Spots S (.slice a1 L.length cap1) L → Signs S (.slice a2 C.length cap2) C →
      CC Tryz.prog KK f [aggL [.string n1, .slice a1 L.length cap1], aggL [.string n2, .slice a2 C.length cap2]] S fun v _ => v = .bool true) :
    Calls Tryz.prog f #[v1, v2] W fun e w => e = .returned (.bool true) ∧ Kept W w := by
  obtain ⟨fuel1, h1⟩ := h1
  obtain ⟨fuel2, h2⟩ := h2
  have hsim := start_sim (P := Tryz.prog) (size_le hm) hm listed_flat
  obtain ⟨ρ1, S1, c1, x1, s1, k1, r1, q1⟩ := lay (P := Tryz.prog) (w0 := ⟨W, fun _ => false⟩) 7 24 fuel1 _ _ _ (by kernel_rfl) (fun _ => rfl) h1 _ _ hsim
  obtain ⟨ρ2, S2, c2, x2, s2, k2, r2, q2⟩ := lay (P := Tryz.prog) (w0 := ⟨W, fun _ => false⟩) 7 27 fuel2 _ _ _ (by kernel_rfl) (fun _ => rfl) h2 _ _ s1
  obtain ⟨n1, a1, cap1, L1, rfl, hs1⟩ := rep_src (n := 0) (q1.keep k2)
  obtain ⟨n2, a2, cap2, L2, rfl, hs2⟩ := rep_part (n := 2) q2
  have k12 := k1.trans k2
  refine (calls_of_cc follows (known_M hm) hf hb hnm s2 (args' := #[v1, v2]) (VRs.cons (vr_agg (r1.mono x2)) (VRs.cons (vr_agg r2) VRs.nil)) (spec S2 n1 n2 a1 a2 cap1 cap2 L1 L2 (k12.3 start_fresh) (start_gl.keep k12) hs1 hs2)).mono ?_
  rintro e w ⟨v, ρ', v', hv, hr, he, hk⟩
  subst hv
  cases hr
  exact ⟨he, hk⟩

theorem own_none : ownKnob Tryz.prog.godebug = none := by kernel_rfl

theorem _root_.Go.Cm.Kept.but {W w : World} (h : Kept W w) (may : MemPlace → Prop) : W.keptBut w may := by
  refine ⟨h.os, h.out, fun i hi => ?_⟩
  rw [h.old i hi]
  cases W.heap[i]? with
  | none => rfl
  | some o => cases o <;> first | exact ⟨rfl, rfl, rfl, fun _ _ => rfl⟩ | exact .inr ⟨rfl, rfl⟩ | rfl

/-- a law's end: it returned true, nothing old was turned, its arguments read as before -/
theorem post_true {H : Type} {enc : TypeId × Value → H} {P : Program} {f : Func} {s : ChangeSpec} {apart fresh handsOn : Bool} {W W' : World} {args : Array Value} {ds gs : List (DataW H)} {before pa pv : List MemPlace} {t : TypeId}
    (hr : f.resultTypes = #[t]) (ht : P.underlying t = some .bool) (hs : (s.fn H (ds ++ gs)).results = [.lit (.bool true)])
    (hW : DataW.Whole enc P f.params.toList s.vars apart W args.toList ds gs before) (hk : Kept W W')
    (hargs : DataW.TrodAll enc P W' 0 (fun b => decide (b < W.heap.size)) true f.params.toList args.toList (s.fn H (ds ++ gs)).args pa)
    (hvars : DataW.TrodVars enc P W' (fun b => decide (b < W.heap.size)) s.vars (s.fn H (ds ++ gs)).vars pv) : s.post enc P f apart fresh handsOn false W args (.bool true) W' := by
  refine ⟨ds, gs, before, [], pa, pv, hW, ?_, hargs, hvars, hk.but _, fun h => by cases h⟩
  rw [hr, hs]
  exact trodAll_mk1 (shut_bool ht _)

def holds (l : List Value) : Obj → Obj
  | .cells _ t frozen => .cells l.toArray t frozen
  | o => o
noncomputable def laidHeap (h : Array Obj) : Array Obj := (((h).modify 0 (holds of0)).modify 1 (holds of1)).modify 2 (holds of2)
noncomputable def laidWorld (os : Os) : World :=
  { World.holding Tryz.prog os ⟨#[], #[], []⟩ with heap := laidHeap (World.holding Tryz.prog os ⟨#[], #[], []⟩).heap }
def zs : Value := .agg #[.string ⟨#[]⟩, .slice none 0 0]
def zd {H : Type} : DataW H := .agg [.lit (.string []), .nil]
theorem laid_met (os : Os) : laidMet Tryz.prog Rows.sourceAgreesRow.laid ((laidWorld os).forCall (fun _ _ => 0) ⟨#[], #[zs, zs], []⟩).memory :=
  laidMet_of_run' 8 (by kernel_rfl) (by kernel_rfl)
theorem reads (os : Os) {H : Type} (enc : TypeId × Value → H) : ∃ places, DataW.whole enc Tryz.prog ((laidWorld os).forCall (fun _ _ => 0) ⟨#[], #[zs, zs], []⟩).memory Tryz.f3.params.toList Rows.sourceAgreesSpec.vars false #[zs, zs].toList 8 = some ([zd, zd], [], places) :=
  ⟨[], by kernel_rfl⟩

theorem laids : Laids Rows.sourceAgreesRow.laid := by
  refine ⟨?_, ?_, ?_⟩
  all_goals
    show _ ∈ [_, _, _]
    simp only [List.mem_cons, true_or, or_true]

theorem paramsM : Tryz.f3.params = #[24, 27] := by kernel_rfl

theorem contract (H : Type) (enc : TypeId × Value → H) (W : World) (args : Array Value) (ds gs : List (DataW H)) (before : List MemPlace)
    (hW : DataW.Whole enc Tryz.prog Tryz.f3.params.toList Rows.sourceAgreesSpec.vars false W args.toList ds gs before) (hL : laidMetH Tryz.prog Rows.sourceAgreesRow.laid W) :
    Calls Tryz.prog 3 args W fun e W' => ∃ v, e = .returned v ∧ Rows.sourceAgreesSpec.post enc Tryz.prog Tryz.f3 false true false false W args v W' := by
  have hW' := hW
  obtain ⟨p, q, hA0, hV, rfl, hfz, hnd⟩ := hW
  have hA : DataW.TrodAll enc Tryz.prog W 0 (fun _ => true) true Tryz.f3.params.toList args.toList ds p := hA0
  rw [paramsM] at hA
  obtain ⟨v1, v2, d1, d2, p1, p2, rfl, rfl, rfl, h1, h2⟩ := trodAll_two hA
  obtain ⟨rfl, rfl⟩ := trodVars_none hV
  clear hA0
  refine (joinSP (listed_met laids hL) h1 h2 Tryz.func3 (c := c3) (by kernel_rfl) (by kernel_rfl) (fun S n1 n2 a1 a2 cap1 cap2 L C hF hG hv hw => cc_mono (spec3 n1 n2 a1 a2 cap1 cap2 L C hF hG hv hw) fun v S' h => h.2)).mono fun e W' ⟨he, hk⟩ => ?_
  subst he
  refine ⟨_, rfl, post_true (pa := p1 ++ p2) (pv := []) (t := 4) (by kernel_rfl) (by kernel_rfl) rfl hW' hk ?_ ?_⟩
  · rw [paramsM]
    exact retrodAll hk 7 _ _ _ _ (by kernel_rfl) hA
  · exact rfl

theorem lifted (os : Os) (started : os.Started) (H : Type) (enc : TypeId × Value → H) (F : Stop.Interp) :
    ReturnsInHanded {} Tryz.checked os 3 .any ((OpenSpec.ofChange Rows.sourceAgreesSpec).preRow enc Tryz.prog Tryz.f3 Rows.sourceAgreesRow.domain false Rows.sourceAgreesRow.laid) (((OpenSpec.ofChange Rows.sourceAgreesSpec).at F).post enc Tryz.prog Tryz.f3 false true false false) := by
  obtain ⟨places, hx⟩ := reads os enc
  refine returnsInHanded_of_row (C := Tryz.checked) (s := OpenSpec.ofChange Rows.sourceAgreesSpec) own_none started (by kernel_rfl) Tryz.func3
    (witness_row_at (enc := enc) (C := Tryz.checked) false (laidWorld os) #[zs, zs] rfl (by kernel_rfl) (by kernel_rfl) (by kernel_rfl)
      (OpenSpec.preRow_of_cond 8 hx (by kernel_rfl) (fun k hk => by cases hk) (by kernel_rfl) (laid_met os))) ?_
  intro W base args ds gs before hval hW _ _ _ hL _ _
  exact contract H enc W args ds gs before hW hL

theorem said : Rows.SourceAgreesSaid :=
  OpenClaim.holds_of_cond 3 Tryz.f3 rfl rfl rfl rfl rfl rfl rfl ⟨rfl, rfl, rfl, rfl, rfl⟩ rfl rfl rfl rfl rfl (by kernel_rfl) Tryz.func3 joined'
    (of_decide_eq_true (by kernel_rfl)) (by unfold Func.isWrapper; first | (rw [if_pos (by decide +kernel)]; kernel_rfl) | (rw [if_neg (by decide +kernel)]; exact ⟨rfl, rfl⟩))
    (fun os started H enc _ F => by rw [OpenClaim.pre_eq_preRow]; exact lifted os started H enc F)

theorem plain (f : FuncId) (fn : Func) (hf : Tryz.pinned.checked.prog.funcNamed "tactus/tactuslaw36.SourceAgrees" = some f) (hfn : Tryz.pinned.checked.prog.funcs[f]? = some fn) :
    true = Tryz.pinned.checked.prog.looks [] ∧ ∀ (j : Nat) t, fn.params[j]? = some t → Tryz.pinned.checked.prog.wantsStandIn t = false := by
  obtain rfl : f = 3 := Option.some.inj ((show Tryz.prog.funcNamed "tactus/tactuslaw36.SourceAgrees" = some 3 by kernel_rfl).symm.trans hf) |>.symm
  obtain rfl : fn = Tryz.f3 := (Option.some.inj (Tryz.func3.symm.trans hfn)).symm
  refine ⟨by kernel_rfl, fun j t ht => ?_⟩
  rw [paramsM] at ht
  have hmem := Array.mem_of_getElem? ht
  obtain rfl | rfl : t = 24 ∨ t = 27 := by simpa using hmem
  · exact (show Tryz.prog.wantsStandIn 24 = false by kernel_rfl)
  · exact (show Tryz.prog.wantsStandIn 27 = false by kernel_rfl)

theorem card : Rows.SourceAgreesCardSaid :=
  Claim7.holds_tied_plain_at .later [] _ _ _ _ said (fun _ h => by cases h) (by kernel_rfl) (fun _ h => by cases h) sourceAgrees_row_tie rfl ⟨rfl, rfl⟩ (by kernel_rfl) rfl plain (by kernel_rfl)
end Go.Proofs.YtgnhcamhcnkbfaaGreatDoor
