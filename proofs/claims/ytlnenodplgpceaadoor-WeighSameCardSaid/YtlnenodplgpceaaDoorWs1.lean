/-
  The chapter's examples hold: the stages' literals.
-/
import Derived.Test.YtlnenodplgpceaaDoorWs0
namespace Go.Proofs.YtlnenodplgpceaaDoor
open Go.Cm
noncomputable def cdA6 : Code := Tryd.f6.body.getD .skip
theorem bdA6 : Tryd.f6.body = some cdA6 := by kernel_rfl
def vsA0 : List Value := []
def stA1 : Stg := ⟨0, [], [(0, gb0), (1, gb1)], 2446⟩
abbrev TF (W : World) (fn : Func) (c : Code) (a : Ca) (S : St) (v : Value) (T : St) : Prop := TriFin Tryd.prog ⟨W, fun _ => false⟩ fn c a S v T
abbrev TC (W : World) (f : FuncId) (vs : List Value) (S : St) (v : Value) (T : St) : Prop := CallT Tryd.prog ⟨W, fun _ => false⟩ f vs S v T
noncomputable def iA : Fns := fnsG Tryd.prog (kk noCall) 100000
abbrev KA (W : World) : Prop := KnownSound Tryd.prog (kk noCall) W
theorem hihA {W : World} (hK : KA W) : FnsSound Tryd.prog ⟨W, fun _ => false⟩ iA := fnsG_sound follows hK 100000
end Go.Proofs.YtlnenodplgpceaaDoor
