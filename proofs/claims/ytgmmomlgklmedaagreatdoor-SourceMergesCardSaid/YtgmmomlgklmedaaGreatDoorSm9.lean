/-
  From contracts to calls.
-/
import Derived.Test.YtgmmomlgklmedaaGreatDoorMg4
import Derived.Test.YtgmmomlgklmedaaGreatDoorSm8
namespace Go.Proofs.YtgmmomlgklmedaaGreatDoor
open Go.Cm Go
set_option maxRecDepth 100000
variable {S : St}
theorem known_M {W : World} (h : Met W) : KnownSound Tryz.prog KK W := by
  refine ⟨ext_sound _, fun f args S v hv => ?_⟩
  simp only [KK, kk, callM] at hv
  split at hv
  · cases hb : Nat.beq f 5 with
    | true =>
      rw [hb] at hv
      cases hv
      obtain rfl := of_nbeq hb
      exact ⟨fun ρ => .bool _, Tryz.f5, _, Tryz.func5, bdA5, by kernel_rfl, zeroKnown fun w hk => true_A (met_later hk h)⟩
    | false =>
      rw [hb] at hv
      cases hv
  · cases hv
theorem globals3 : Tryz.prog.globals.size = 3 := by kernel_rfl
theorem start_gl : Gl (startS listed Tryz.prog.globals.size) :=
  ⟨Nat.le_of_ble_eq_true (show Nat.ble (0 + 1) Tryz.prog.globals.size = true by kernel_rfl), by kernel_rfl⟩
theorem start_fresh : Fresh (startS listed Tryz.prog.globals.size) := by
  intro b hb
  cases h : (startS listed Tryz.prog.globals.size).get b with
  | none => rfl
  | some B =>
    obtain ⟨l, hl, _⟩ := start_get Tryz.prog.globals.size listed b B h
    have hb' : 3 ≤ b := globals3 ▸ hb
    rcases listed_eq b l hl with ⟨rfl, _⟩ | ⟨rfl, _⟩ | ⟨rfl, _⟩ <;> omega
theorem vr_agg {ρ : Rmap} {x y : Value} {v : Value} (h : VRs ρ [x, y] v.cells.toList) : VR ρ (aggL [x, y]) v := by
  cases v with
  | agg cs => exact .agg h.1 h.2
  | _ => exact absurd h.1 (by simp [Value.cells])
theorem join2 {W : World} (hm : Met W) {H : Type} {enc : TypeId × Value → H} {v1 v2 : Value} {d1 d2 : DataW H} {p1 p2 : List MemPlace}
    (h1 : DataW.Trod enc Tryz.prog W 0 (fun _ => true) true 24 v1 d1 p1) (h2 : DataW.Trod enc Tryz.prog W 0 (fun _ => true) true 24 v2 d2 p2)
    {f : FuncId} {fn : Func} {c : Code} (hf : Tryz.prog.funcs[f]? = some fn) (hb : fn.body = some c) (hnm : (fn.name == "runtime.NumGoroutine") = false)
    (spec : ∀ (S : St) (n1 n2 : ByteArray) (a1 a2 : Option Addr) (cap1 cap2 : Nat) (L1 L2 : List Spt), Fresh S → Gl S → Spots S (.slice a1 L1.length cap1) L1 → Spots S (.slice a2 L2.length cap2) L2 →
      CC Tryz.prog KK f [aggL [.string n1, .slice a1 L1.length cap1], aggL [.string n2, .slice a2 L2.length cap2]] S fun v _ => v = .bool true) :
    Calls Tryz.prog f #[v1, v2] W fun e w => e = .returned (.bool true) ∧ Kept W w := by
  obtain ⟨fuel1, h1⟩ := h1
  obtain ⟨fuel2, h2⟩ := h2
  have hsim := start_sim (P := Tryz.prog) (size_le hm) hm listed_flat
  obtain ⟨ρ1, S1, c1, x1, s1, k1, r1, q1⟩ := lay (P := Tryz.prog) (w0 := ⟨W, fun _ => false⟩) 7 24 fuel1 _ _ _ (by kernel_rfl) (fun _ => rfl) h1 _ _ hsim
  obtain ⟨ρ2, S2, c2, x2, s2, k2, r2, q2⟩ := lay (P := Tryz.prog) (w0 := ⟨W, fun _ => false⟩) 7 24 fuel2 _ _ _ (by kernel_rfl) (fun _ => rfl) h2 _ _ s1
  obtain ⟨n1, a1, cap1, L1, rfl, hs1⟩ := rep_src (n := 0) (q1.keep k2)
  obtain ⟨n2, a2, cap2, L2, rfl, hs2⟩ := rep_src (n := 0) q2
  have k12 := k1.trans k2
  refine (calls_of_cc follows (known_M hm) hf hb hnm s2 (args' := #[v1, v2]) (VRs.cons (vr_agg (r1.mono x2)) (VRs.cons (vr_agg r2) VRs.nil)) (spec S2 n1 n2 a1 a2 cap1 cap2 L1 L2 (k12.3 start_fresh) (start_gl.keep k12) hs1 hs2)).mono ?_
  rintro e w ⟨v, ρ', v', hv, hr, he, hk⟩
  subst hv
  cases hr
  exact ⟨he, hk⟩
end Go.Proofs.YtgmmomlgklmedaaGreatDoor
