/- What is shared: which calls own, that regions may mix. No condition. -/
import Derived.Test.YtnibelnjflhkgaaDoorAb38
import Derived.Test.YtnibelnjflhkgaaDoorProg
import Derived.KernelRfl
namespace Go.Proofs.YtnibelnjflhkgaaDoor.Ab
set_option linter.unusedVariables false
def ow : FuncId → Option Nat := fun f => match f with | 17 => some 0 | _ => none
theorem mixed : Tryd.prog.follows .mixedOrders = true := by kernel_rfl
end Go.Proofs.YtnibelnjflhkgaaDoor.Ab
