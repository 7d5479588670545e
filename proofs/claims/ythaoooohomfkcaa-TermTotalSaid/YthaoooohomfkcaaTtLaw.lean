/- The statement TermTotal, for every input: the law's walk, the arguments read as plain data. Conditions: none beyond the given row's own. -/
import Derived.Test.YthaoooohomfkcaaRows
import Derived.Test.YthaoooohomfkcaaTt8
import Derived.Test.YthaoooohomfkcaaAb27
import Derived.WalkKit
import Derived.ProofKit
import Derived.OpenShut
import Derived.ShutString
import Derived.ChangeOld
namespace Go.Proofs.Ythaoooohomfkcaa.termTotal
open Go.ChangeShapes Go.WideShapes Go.ChangeAt Go.RowKit Go.Proofs.Ythaoooohomfkcaa.Ab
set_option linter.unusedVariables false
theorem own : ownKnob Try.prog.godebug = none := by kernel_rfl
theorem laidOut : laidOutB Try.prog = true := by kernel_rfl
def GT (y : AV) : Prop := ∃ t : T, y = t.av ∧ t.ok
theorem at31 : ∀ n, AtA Try.prog n 31 GT := by
  intro n
  induction n using Nat.strongRecOn with
  | _ n ih =>
  refine (AtA.struct Try.underlying31 (by kernel_rfl) (fun m hm => FsA.cons (sz := 1) rfl rfl (by kernel_rfl) rfl (AtA.int Try.underlying3 (by kernel_rfl)) (FsA.cons (sz := 1) rfl rfl (by kernel_rfl) rfl (AtA.string Try.underlying9 (by kernel_rfl))
    (FsA.cons (sz := 1) rfl rfl (by kernel_rfl) rfl (AtA.int Try.underlying3 (by kernel_rfl)) (FsA.cons (sz := 1) rfl rfl (by kernel_rfl) rfl (AtA.slice (B := 56) (sz := 4) Try.underlying22 (by kernel_rfl) (by kernel_rfl) (by kernel_rfl) (by omega) (fun k hk => ih k (by omega))) FsA.nil))))).imp ?_
  rintro y ⟨ys, rfl, y1, _, rfl, ⟨k, rfl, hk⟩, y2, _, rfl, ⟨s, rfl, hs⟩, y3, _, rfl, ⟨v, rfl, hv⟩, y4, _, rfl, ⟨xs, rfl, hx1, hx2, hx3⟩, rfl⟩
  obtain ⟨ts, rfl, hts⟩ := list_of hx3
  refine ⟨.mk k s v ts, ?_, ?_⟩
  · rw [av_mk]; simp [flat, AV.cells]
  · rw [ok_mk]; simp at hx1; exact ⟨by omega, by omega, hts⟩
theorem at25 : ∀ n, AtA Try.prog n 25 (fun y => ∃ ys, y = .agg (flat ys) ∧ ∃ y1 zs, ys = y1 :: zs ∧ GSl 4 56 GT y1 ∧ ∃ y2 zs', zs = y2 :: zs' ∧ GSl 1 16 GStr y2 ∧ zs' = []) := fun n =>
  AtA.struct Try.underlying25 (by kernel_rfl) (fun m hm => FsA.cons (sz := 1) rfl rfl (by kernel_rfl) rfl (AtA.slice (B := 56) (sz := 4) Try.underlying22 (by kernel_rfl) (by kernel_rfl) (by kernel_rfl) (by omega) (fun k hk => at31 k))
    (FsA.cons (sz := 1) rfl rfl (by kernel_rfl) rfl (AtA.slice (B := 16) (sz := 1) Try.underlying23 (by kernel_rfl) (by kernel_rfl) (by kernel_rfl) (by omega) (fun k hk => AtA.string Try.underlying9 (by kernel_rfl))) FsA.nil))
set_option maxRecDepth 100000 in
theorem lifted (os : Os) (started : os.Started) (H : Type) (enc : TypeId × Value → H) :
    ReturnsInHanded {} Try.checked os 3 .any (Rows.termTotalSpec.pre6 enc Try.prog Try.f3 Rows.termTotalRow.domain false) (Rows.termTotalSpec.post enc Try.prog Try.f3 false true false false) := by
  refine returnsInHanded_of_change_sized (C := Try.checked) own started (by kernel_rfl) Try.func3
    (ChangeSpec.witness6 (enc := enc) (C := Try.checked) false ⟨#[], #[.agg #[.slice none 0 0, .slice none 0 0]], []⟩ 8 (by kernel_rfl) (by kernel_rfl) (by kernel_rfl) (by kernel_rfl)) ?_
  intro W base args ds gs before hval0 hW hcnd hsz0 _
  have hsz : (DataW.weightsEach Try.prog (Try.f3.params.toList ++ Rows.termTotalSpec.plain.varTypes Try.prog) (ds ++ gs)).all (· ≤ reachBytes) = true := hsz0
  have hval : ∀ (j : Nat) t v, Try.f3.params[j]? = some t → args[j]? = some v → Value.okWide Try.prog W .any base t v := hval0
  have hW' := hW
  obtain ⟨p, q, hA0, hV, rfl, hfz, hnd⟩ := hW
  have hA : DataW.TrodAll enc Try.prog W 0 (fun _ => true) true Try.f3.params.toList args.toList ds p := hA0
  rw [Try.params3] at hA hval hsz
  obtain ⟨v0, vs0, d0, ds0, p0, q0, hargs, rfl, rfl, h0, r0⟩ := trodAll_cons hA
  obtain ⟨rfl, rfl, rfl⟩ := trodAll_nil r0
  obtain rfl : args = #[v0] := by cases args; simp_all
  obtain ⟨rfl, rfl⟩ := trodVars_none hV
  have k0 := h0
  have lt0 : ∀ x ∈ p0, x.block < W.heap.size := by obtain ⟨m, hm⟩ := k0; exact DataW.trod_lt m _ _ _ hm
  obtain ⟨ys, hv, y1, _, rfl, ⟨xs, rfl, b1, b2, b3⟩, y2, _, rfl, ⟨zs, rfl, b4, b5, b6⟩, rfl⟩ := AtA.arg at25 Try.underlying25 (hval 0 25 v0 rfl rfl) h0 (Ab.sized_at hsz (j := 0) (t := 25) rfl rfl)
  obtain ⟨ts, rfl, hts⟩ := list_of b3
  obtain ⟨ss, rfl, hss⟩ := list_of (f := AV.str) (p := fun s => s.length ≤ 140737488351232) b6
  clear hA0 hval0 hsz0 hsz
  have hpf := fn_TermTotal ts ss (by simp at b1; omega) hts (by simp at b4; omega)
  refine (call_true (v := v0) (W := W) hpf (fun sz xs e => by cases e) (by simpa [flat, AV.cells] using hv)).mono fun e W' ⟨he, bel⟩ => ?_
  subst he
  exact ⟨_, rfl, _, _, _, [], _, [], hW', trodAll_mk1 (shut_bool Try.underlying4 _), (trodAll_cons_mk (Below.trod laidOut (by kernel_rfl) (of_decide_eq_true (by kernel_rfl)) k0 bel lt0) trodAll_mk0), rfl, bel.frame _, fun h => by cases h⟩
theorem over : Rows.termTotalRow.holds Try.pinned (OpenSpec.ofChange Rows.termTotalSpec) :=
  OpenClaim.holds_of_wide 3 Try.f3 rfl rfl rfl rfl rfl rfl rfl ⟨rfl, rfl, rfl, rfl, rfl⟩ rfl rfl rfl rfl rfl (by kernel_rfl) Try.func3 (by kernel_rfl)
    (of_decide_eq_true (by kernel_rfl)) (by unfold Func.isWrapper; first | (rw [if_pos (by decide +kernel)]; kernel_rfl) | (rw [if_neg (by decide +kernel)]; exact ⟨rfl, rfl⟩))
    (fun os started H enc _ => lifted os started H enc)
theorem proved : Rows.TermTotalSaid := over
#print axioms proved
end Go.Proofs.Ythaoooohomfkcaa.termTotal
namespace Go.Proofs.Ythaoooohomfkcaa
/-- The row, under a short name, for the claim. -/
theorem termTotal_holds : Rows.TermTotalSaid := termTotal.proved
end Go.Proofs.Ythaoooohomfkcaa
