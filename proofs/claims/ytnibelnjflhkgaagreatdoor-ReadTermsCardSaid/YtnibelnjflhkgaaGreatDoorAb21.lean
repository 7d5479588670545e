/- Functions: the form in which they are walked. No condition. -/
import Derived.Test.YtnibelnjflhkgaaGreatDoorAb20
namespace Go.Proofs.YtnibelnjflhkgaaGreatDoor.Ab
set_option linter.unusedVariables false
open Go.RowKit

def retK (P : Program) (rs : List ResultVar) (h : Hp) (r : AV) (h' : Hp) : AX → ASt → Prop
  | .exit _, _ => False
  | .normal, s => (∃ a, resA P s rs = some a ∧ Wk a r) ∧ labOK h'.n r = true ∧ Shrink h s.hp h'
  | .ret, s => (∃ a, resA P s rs = some a ∧ Wk a r) ∧ labOK h'.n r = true ∧ Shrink h s.hp h'
theorem fn_walk {P : Program} {ow : FuncId → Option Nat} {f : FuncId} {fn : Func} {c : Code} {nt : Nat} {rs : List ResultVar} {args : List AV} {h : Hp} {r : AV} {h' : Hp} (hm : P.follows .mixedOrders = true) (hf : P.funcs[f]? = some fn) (hb : fn.body = some c)
    (hname : (fn.name == "runtime.NumGoroutine") = false) (hnt : fn.ntmps = nt) (hrs : fn.results.toList = rs) (hlen : args.length ≤ nt) (hc : ACode P ow nt c (retK P rs h r h') ⟨argsF args, h⟩) : Fn P f args h r h' := by
  subst hnt; subst hrs
  refine fn_intro (ow := ow) hm hf hb hname hlen ?_
  have : retK P fn.results.toList h r h' = retQ P fn h r h' := by funext x s; cases x <;> rfl
  rwa [this] at hc
theorem shrink_refl (h : Hp) : Shrink h h h := ⟨Nat.le_refl _, Nat.le_refl _, fun l hl => ⟨rfl, .inl ⟨hl, rfl⟩⟩⟩
end Go.Proofs.YtnibelnjflhkgaaGreatDoor.Ab
