/- The statement SpanOne, for every input: the printed function's contract, the arguments read as Lean values, and the pure proof. Conditions: none beyond the given row's own. -/
import Derived.Test.YtkpbhkejfaejhaaRows
import Derived.Test.YtkpbhkejfaejhaaA6
import Derived.Test.YtkpbhkejfaejhaaTSpanOne
import Derived.Test.YtkpbhkejfaejhaaPureSpanOne
import Derived.WalkKit
import Derived.ProofKit
import Derived.OpenShut
import Derived.ShutString
import Derived.ChangeOld
import Derived.Below
import Derived.SizedLaws
namespace Go.Proofs.Ytkpbhkejfaejhaa.spanOne
open Go.ChangeShapes Go.WideShapes Go.ChangeAt Go.RowKit Go.Proofs.Ytkpbhkejfaejhaa.Open Go.Proofs.Ytkpbhkejfaejhaa.A
set_option linter.unusedVariables false
theorem own : ownKnob Try.prog.godebug = none := by kernel_rfl
theorem laidOut : laidOutB Try.prog = true := by kernel_rfl
set_option maxRecDepth 100000 in
theorem lifted (os : Os) (started : os.Started) (H : Type) (enc : TypeId × Value → H) :
    ReturnsInHanded {} Try.checked os 16 .any (Rows.spanOneSpec.pre6 enc Try.prog Try.f16 Rows.spanOneRow.domain false) (Rows.spanOneSpec.post enc Try.prog Try.f16 false true false false) := by
  refine returnsInHanded_of_change_sized (C := Try.checked) own started (by kernel_rfl) Try.func16
    (ChangeSpec.witness6 (enc := enc) (C := Try.checked) false ⟨#[], #[.agg #[.slice none 0 0, .slice none 0 0, .slice none 0 0]], []⟩ 8 (by kernel_rfl) (by kernel_rfl) (by kernel_rfl) (by kernel_rfl)) ?_
  intro W base args ds gs before hval0 hW hcnd hsz0 _
  have hsz : (DataW.weightsEach Try.prog (Try.f16.params.toList ++ Rows.spanOneSpec.plain.varTypes Try.prog) (ds ++ gs)).all (· ≤ reachBytes) = true := hsz0
  have hval : ∀ (j : Nat) t v, Try.f16.params[j]? = some t → args[j]? = some v → Value.okWide Try.prog W .any base t v := hval0
  have hW' := hW
  obtain ⟨p, q, hA0, hV, rfl, hfz, hnd⟩ := hW
  have hA : DataW.TrodAll enc Try.prog W 0 (fun _ => true) true Try.f16.params.toList args.toList ds p := hA0
  rw [Try.params16] at hA hval hsz
  obtain ⟨v0, vs0, d0, ds0, p0, q0, hargs, rfl, rfl, h0, r0⟩ := trodAll_cons hA
  obtain ⟨rfl, rfl, rfl⟩ := trodAll_nil r0
  obtain rfl : args = #[v0] := by cases args; simp_all
  obtain ⟨rfl, rfl⟩ := trodVars_none hV
  have k0 := h0
  have lt0 : ∀ x ∈ p0, x.block < W.heap.size := by obtain ⟨m, hm⟩ := k0; exact DataW.trod_lt m _ _ _ hm
  obtain ⟨y0, cs0, rfl, hK0, hG0⟩ := At.arg at26 Try.underlying26 (hval 0 26 v0 rfl rfl) h0 (sized_at hsz (j := 0) (t := 26) rfl rfl)
  obtain ⟨l0_0, l0_1, l0_2⟩ := y0
  obtain ⟨_, _, rfl, ⟨A0_0, c0_0, rfl, hl0_0, hr0_0⟩, ⟨_, _, rfl, ⟨A0_1, c0_1, rfl, hl0_1, hr0_1⟩, ⟨A0_2, c0_2, rfl, hl0_2, hr0_2⟩⟩⟩ := hK0
  obtain ⟨g0_0, g0_1, g0_2⟩ := hG0
  clear hA0 hval0 hsz0 hsz
  obtain ⟨k, hk⟩ := PureSpanOne.SpanOne l0_0 l0_1 l0_2 g0_0 g0_1 g0_2
  refine (A.almagestlaw7_SpanOne.calls k A0_0 c0_0 l0_0 A0_1 c0_1 l0_1 A0_2 c0_2 l0_2 true W hr0_0 hl0_0 hr0_1 hl0_1 hr0_2 hl0_2 hk).mono fun e W' ⟨he, bel⟩ => ?_
  subst he
  exact ⟨_, rfl, _, _, _, [], _, [], hW', trodAll_mk1 (shut_bool Try.underlying4 _), (trodAll_cons_mk (Below.trod laidOut (by kernel_rfl) (of_decide_eq_true (by kernel_rfl)) k0 bel lt0) trodAll_mk0), rfl, bel.frame _, fun h => by cases h⟩
theorem over : Rows.spanOneRow.holds Try.pinned (OpenSpec.ofChange Rows.spanOneSpec) :=
  OpenClaim.holds_of_wide 16 Try.f16 rfl rfl rfl rfl rfl rfl rfl ⟨rfl, rfl, rfl, rfl, rfl⟩ rfl rfl rfl rfl rfl (by kernel_rfl) Try.func16 (by kernel_rfl)
    (of_decide_eq_true (by kernel_rfl)) (by unfold Func.isWrapper; first | (rw [if_pos (by decide +kernel)]; kernel_rfl) | (rw [if_neg (by decide +kernel)]; exact ⟨rfl, rfl⟩))
    (fun os started H enc _ => lifted os started H enc)
theorem proved : Rows.SpanOneSaid := over
#print axioms proved
end Go.Proofs.Ytkpbhkejfaejhaa.spanOne
namespace Go.Proofs.Ytkpbhkejfaejhaa
/-- The row, under a short name, for the claim. -/
theorem spanOne_holds : Rows.SpanOneSaid := spanOne.proved
end Go.Proofs.Ytkpbhkejfaejhaa
