/-
  Calls with closed arguments, 10.
-/
import Derived.Test.YtnhalpkekpehpaaGreatDoorSmA
import Derived.Test.YtnhalpkekpehpaaGreatDoorSy2
namespace Go.Proofs.YtnhalpkekpehpaaGreatDoor
open Go.Cm Go
set_option maxRecDepth 100000
variable {S : St}
theorem AEw : (((C5.drop 423).take 47).all (fun e => Hg e.2.2 ((fns Tryz.prog (kk He) 100000).call (.fn (.func e.1) #[]) e.2.1 (EA listed Tryz.prog.globals.size)))) = true := by kernel_rfl
end Go.Proofs.YtnhalpkekpehpaaGreatDoor
