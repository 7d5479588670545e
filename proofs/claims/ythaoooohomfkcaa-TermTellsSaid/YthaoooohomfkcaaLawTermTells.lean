/- The statement TermTells, for every input: the printed function's contract, the arguments read as Lean values, and the pure proof. Conditions: none beyond the given row's own. -/
import Derived.Test.YthaoooohomfkcaaRows
import Derived.Test.YthaoooohomfkcaaC11
import Derived.Test.YthaoooohomfkcaaTTermTells
import Derived.Test.YthaoooohomfkcaaPureTermTells
import Derived.WalkKit
import Derived.ProofKit
import Derived.OpenShut
import Derived.ShutString
import Derived.ChangeOld
import Derived.Below
import Derived.SizedLaws
namespace Go.Proofs.Ythaoooohomfkcaa.termTells
open Go.ChangeShapes Go.WideShapes Go.ChangeAt Go.RowKit Go.Proofs.Ythaoooohomfkcaa.Open Go.Proofs.Ythaoooohomfkcaa.C Go.Proofs.Ythaoooohomfkcaa.A
set_option linter.unusedVariables false
theorem own : ownKnob Try.prog.godebug = none := by kernel_rfl
theorem laidOut : laidOutB Try.prog = true := by kernel_rfl
set_option maxRecDepth 100000 in
theorem lifted (os : Os) (started : os.Started) (H : Type) (enc : TypeId × Value → H) :
    ReturnsInHanded {} Try.checked os 4 .any (Rows.termTellsSpec.pre6 enc Try.prog Try.f4 Rows.termTellsRow.domain false) (Rows.termTellsSpec.post enc Try.prog Try.f4 false true false false) := by
  refine returnsInHanded_of_change_sized (C := Try.checked) own started (by kernel_rfl) Try.func4
    (ChangeSpec.witness6 (enc := enc) (C := Try.checked) false ⟨#[], #[.agg #[.slice none 0 0, .slice none 0 0]], []⟩ 8 (by kernel_rfl) (by kernel_rfl) (by kernel_rfl) (by kernel_rfl)) ?_
  intro W base args ds gs before hval0 hW hcnd hsz0 _
  have hsz : (DataW.weightsEach Try.prog (Try.f4.params.toList ++ Rows.termTellsSpec.plain.varTypes Try.prog) (ds ++ gs)).all (· ≤ reachBytes) = true := hsz0
  have hval : ∀ (j : Nat) t v, Try.f4.params[j]? = some t → args[j]? = some v → Value.okWide Try.prog W .any base t v := hval0
  have hW' := hW
  obtain ⟨p, q, hA0, hV, rfl, hfz, hnd⟩ := hW
  have hA : DataW.TrodAll enc Try.prog W 0 (fun _ => true) true Try.f4.params.toList args.toList ds p := hA0
  rw [Try.params4] at hA hval hsz
  obtain ⟨v0, vs0, d0, ds0, p0, q0, hargs, rfl, rfl, h0, r0⟩ := trodAll_cons hA
  obtain ⟨rfl, rfl, rfl⟩ := trodAll_nil r0
  obtain rfl : args = #[v0] := by cases args; simp_all
  obtain ⟨rfl, rfl⟩ := trodVars_none hV
  have k0 := h0
  have lt0 : ∀ x ∈ p0, x.block < W.heap.size := by obtain ⟨m, hm⟩ := k0; exact DataW.trod_lt m _ _ _ hm
  obtain ⟨y0, cs0, rfl, hK0, hG0⟩ := At.arg at25 Try.underlying25 (hval 0 25 v0 rfl rfl) h0 (sized_at hsz (j := 0) (t := 25) rfl rfl)
  obtain ⟨l0_0, l0_1⟩ := y0
  obtain ⟨_, _, rfl, ⟨A0_0, c0_0, rfl, hl0_0, hr0_0⟩, ⟨A0_1, c0_1, rfl, hl0_1, hr0_1⟩⟩ := hK0
  obtain ⟨g0_0, g0_1⟩ := hG0
  clear hA0 hval0 hsz0 hsz
  obtain ⟨k, hk⟩ := PureTermTells.TermTells l0_0 l0_1 g0_0 g0_1
  refine (C.almagestlaw1_TermTells.calls k A0_0 c0_0 l0_0 A0_1 c0_1 l0_1 true W hr0_0 hl0_0 hr0_1 hl0_1 hk).mono fun e W' ⟨he, bel⟩ => ?_
  subst he
  exact ⟨_, rfl, _, _, _, [], _, [], hW', trodAll_mk1 (shut_bool Try.underlying4 _), (trodAll_cons_mk (Below.trod laidOut (by kernel_rfl) (of_decide_eq_true (by kernel_rfl)) k0 bel lt0) trodAll_mk0), rfl, bel.frame _, fun h => by cases h⟩
theorem over : Rows.termTellsRow.holds Try.pinned (OpenSpec.ofChange Rows.termTellsSpec) :=
  OpenClaim.holds_of_wide 4 Try.f4 rfl rfl rfl rfl rfl rfl rfl ⟨rfl, rfl, rfl, rfl, rfl⟩ rfl rfl rfl rfl rfl (by kernel_rfl) Try.func4 (by kernel_rfl)
    (of_decide_eq_true (by kernel_rfl)) (by unfold Func.isWrapper; first | (rw [if_pos (by decide +kernel)]; kernel_rfl) | (rw [if_neg (by decide +kernel)]; exact ⟨rfl, rfl⟩))
    (fun os started H enc _ => lifted os started H enc)
theorem proved : Rows.TermTellsSaid := over
#print axioms proved
end Go.Proofs.Ythaoooohomfkcaa.termTells
namespace Go.Proofs.Ythaoooohomfkcaa
/-- The row, under a short name, for the claim. -/
theorem termTells_holds : Rows.TermTellsSaid := termTells.proved
end Go.Proofs.Ythaoooohomfkcaa
