/-
  The chapter's examples hold: the stages' literals.
-/
import Derived.Test.YtgiibikieblicaaGreatDoorWt0
namespace Go.Proofs.YtgiibikieblicaaGreatDoor
open Go.Cm
noncomputable def cdA5 : Code := Tryz.f5.body.getD .skip
theorem bdA5 : Tryz.f5.body = some cdA5 := by kernel_rfl
def vsA0 : List Value := []
def stA1 : Stg := ⟨0, [], [(0, gb0), (1, gb1)], 2446⟩
abbrev TF (W : World) (fn : Func) (c : Code) (a : Ca) (S : St) (v : Value) (T : St) : Prop := TriFin Tryz.prog ⟨W, fun _ => false⟩ fn c a S v T
abbrev TC (W : World) (f : FuncId) (vs : List Value) (S : St) (v : Value) (T : St) : Prop := CallT Tryz.prog ⟨W, fun _ => false⟩ f vs S v T
noncomputable def iA : Fns := fnsG Tryz.prog (kk noCall) 100000
abbrev KA (W : World) : Prop := KnownSound Tryz.prog (kk noCall) W
theorem hihA {W : World} (hK : KA W) : FnsSound Tryz.prog ⟨W, fun _ => false⟩ iA := fnsG_sound follows hK 100000
end Go.Proofs.YtgiibikieblicaaGreatDoor
