/- The law's last question, as a contract in the print's own form. No condition. -/
import Derived.Test.YtcfjllbibgadfaaWvRow
namespace Go.Proofs.Ytcfjllbibgadfaa.B
open Go Go.RowKit
def almagestlaw8_wakes.f : Option (Bool) := some true
theorem almagestlaw8_wakes.calls (r : Bool) (w : World) (h : almagestlaw8_wakes.f = some r) : Calls Try.prog 26 #[] w fun e w' => e = .returned (.bool r) ∧ Below w.heap.size w w' := by
  obtain rfl := Option.some.inj h
  exact almagestlaw8_wakes_calls w
end Go.Proofs.Ytcfjllbibgadfaa.B
