/- A contract over plain values, turned. No condition. -/
import Derived.Test.YtnibelnjflhkgaaGreatDoorAb25
namespace Go.Proofs.YtnibelnjflhkgaaGreatDoor.Ab
set_option linter.unusedVariables false
set_option linter.unusedSimpArgs false
open Go.RowKit
section
variable {P : Program}
theorem pfn_val {f : FuncId} {args : List AV} {r : AV} (he : enterOK P f = true) (hr : ∀ v b, ¬ OwnV r v b)
    (H : ∀ (vs : List Value) (w : World) (g : Gh), vs.length = args.length → (∀ i, VR g w (argsF args i) (argsV vs i)) → ∃ v, VR g w r v ∧ Calls P f ⟨vs⟩ w (fun e w' => e = .returned v ∧ w' = w)) : PFn P f args r := by
  intro h
  refine ⟨he, fun vs w g hl hs _ => ?_⟩
  obtain ⟨v, hv, hc⟩ := H vs w g hl hs.fr
  refine hc.mono ?_
  rintro e w' ⟨rfl, rfl⟩
  have K := SR.args (fA := argsF [r]) (vA := argsV [v]) (j0 := 0) (os := none) hs (fun i => by
    cases i with
    | zero => exact hv
    | succ i => exact VR.junk _) (fun i b ho => by
    cases i with
    | zero => exact absurd ho (hr _ _)
    | succ i => obtain ⟨sz, xs, o, len, cap, e1, e2⟩ := ho; cases e1)
  refine ⟨v, g, rfl, K.1, Stp.refl _ _ _, fun b hb => ?_⟩
  obtain ⟨p, hp⟩ := hb
  obtain ⟨q, hq, _⟩ := K.2 p b hp
  exact .inl ⟨q, hq⟩
theorem two_vals {vs : List Value} (h : vs.length = 2) : vs = [argsV vs 0, argsV vs 1] := by
  match vs, h with
  | [a, b], _ => rfl
theorem str_val {g : Gh} {w : World} {l : List UInt8} {v : Value} (h : VR g w (.str l) v) : v = .string ⟨⟨l⟩⟩ := by cases h; rfl
theorem int_no (k : IntKind) (n : Int) (v : Value) (b : Nat) : ¬ OwnV (.int k n) v b := by rintro ⟨sz, xs, o, len, cap, e1, e2⟩; cases e1
end
end Go.Proofs.YtnibelnjflhkgaaGreatDoor.Ab
