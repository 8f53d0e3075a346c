/-
  From contracts to calls.
-/
import Derived.Test.YtgnhcamhcnkbfaaGreatDoorSa4
import Derived.Test.YtgnhcamhcnkbfaaGreatDoorSm8
namespace Go.Proofs.YtgnhcamhcnkbfaaGreatDoor
open Go.Cm Go
set_option maxRecDepth 100000
variable {S : St}
theorem known_M {W : World} (h : Met W) : KnownSound Tryz.prog KK W := by
  refine ⟨ext_sound _, fun f args S v hv => ?_⟩
  simp only [KK, kk, callM] at hv
  split at hv
  · cases hb : Nat.beq f 6 with
    | true =>
      rw [hb] at hv
      cases hv
      obtain rfl := of_nbeq hb
      exact ⟨fun ρ => .bool _, Tryz.f6, _, Tryz.func6, bdA6, by kernel_rfl, zeroKnown fun w hk => true_A (met_later hk h)⟩
    | false =>
      rw [hb] at hv
      cases hv
  · cases hv
theorem globals3 : Tryz.prog.globals.size = 3 := by kernel_rfl
theorem start_gl : Gl (startS listed Tryz.prog.globals.size) :=
  ⟨Nat.le_of_ble_eq_true (show Nat.ble (0 + 1) Tryz.prog.globals.size = true by kernel_rfl), by kernel_rfl⟩
theorem start_fresh : Fresh (startS listed Tryz.prog.globals.size) := by
  intro b hb
  cases h : (startS listed Tryz.prog.globals.size).get b with
  | none => rfl
  | some B =>
    obtain ⟨l, hl, _⟩ := start_get Tryz.prog.globals.size listed b B h
    have hb' : 3 ≤ b := globals3 ▸ hb
    rcases listed_eq b l hl with ⟨rfl, _⟩ | ⟨rfl, _⟩ | ⟨rfl, _⟩ <;> omega
theorem vr_agg {ρ : Rmap} {x y : Value} {v : Value} (h : VRs ρ [x, y] v.cells.toList) : VR ρ (aggL [x, y]) v := by
  cases v with
  | agg cs => exact .agg h.1 h.2
  | _ => exact absurd h.1 (by simp [Value.cells])
end Go.Proofs.YtgnhcamhcnkbfaaGreatDoor
