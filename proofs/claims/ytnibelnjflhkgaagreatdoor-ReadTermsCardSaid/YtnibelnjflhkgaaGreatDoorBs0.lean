/- What is shared: which calls own, that regions may mix. No condition. -/
import Derived.Test.YtnibelnjflhkgaaGreatDoorAb38
import Derived.Test.YtnibelnjflhkgaaGreatDoorProg
import Derived.KernelRfl
namespace Go.Proofs.YtnibelnjflhkgaaGreatDoor.Ab
set_option linter.unusedVariables false
def ow : FuncId → Option Nat := fun f => match f with | 52 => some 100 | 62 => some 100 | 96 => some 100 | 97 => some 100 | 101 => some 100 | 112 => some 100 | 149 => some 100 | 155 => some 100 | 196 => some 100 | 200 => some 100 | 226 => some 100 | 240 => some 100 | _ => none
theorem mixed : Tryz.prog.follows .mixedOrders = true := by kernel_rfl
end Go.Proofs.YtnibelnjflhkgaaGreatDoor.Ab
