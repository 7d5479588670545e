/- Functions: the form in which they are walked. No condition. -/
import Derived.Test.YtnibelnjflhkgaaGreatDoorAb20
namespace Go.Proofs.YtnibelnjflhkgaaGreatDoor.Ab
set_option linter.unusedVariables false
open Go.RowKit
theorem shrink_refl (h:Hp):Shrink h h h:=⟨Nat.le_refl _,Nat.le_refl _,fun l hl=>⟨rfl, .inl ⟨hl,rfl⟩⟩⟩
end Go.Proofs.YtnibelnjflhkgaaGreatDoor.Ab
