/- The statement WeaveThen, for every input: the law's walk, the arguments read as plain data. Conditions: none beyond the given row's own. -/
import Derived.Test.YtcfjllbibgadfaaRows
import Derived.Test.YtcfjllbibgadfaaWx2
import Derived.Test.YtcfjllbibgadfaaAb27
import Derived.WalkKit
import Derived.ProofKit
import Derived.OpenShut
import Derived.ShutString
import Derived.ChangeOld
namespace Go.Proofs.Ytcfjllbibgadfaa.weaveThen
open Go.ChangeShapes Go.WideShapes Go.ChangeAt Go.RowKit Go.Proofs.Ytcfjllbibgadfaa.Ab
set_option linter.unusedVariables false
theorem own : ownKnob Try.prog.godebug = none := by kernel_rfl
theorem laidOut : laidOutB Try.prog = true := by kernel_rfl
def GL (y : AV) : Prop := ∃ l : List Int, y = lsA l ∧ l.length < 1000000000000000
theorem ints_of {y : AV} (h : GSl 1 8 (GInt .i64) y) : GL y := by
  obtain ⟨xs, rfl, h1, _, h3⟩ := h
  obtain ⟨l, rfl, _⟩ := list_of (f := AV.int .i64) (p := fun n => (Lit.int .i64 n).wf = true) h3
  exact ⟨l, rfl, by simp at h1; omega⟩
theorem at22 (n : Nat) : AtA Try.prog n 22 GL :=
  (AtA.slice (B := 8) (sz := 1) Try.underlying22 (by kernel_rfl) (by kernel_rfl) (by kernel_rfl) (by omega) (fun k hk => AtA.int Try.underlying3 (by kernel_rfl))).imp fun y h => ints_of h
theorem at25 : ∀ n, AtA Try.prog n 25 (fun y => ∃ ys, y = .agg (flat ys) ∧ ∃ y1 zs, ys = y1 :: zs ∧ GL y1 ∧ ∃ y2 zs', zs = y2 :: zs' ∧ GSl 1 24 GL y2 ∧ ∃ y3 zs'', zs' = y3 :: zs'' ∧ GInt .i64 y3 ∧ zs'' = []) := fun n =>
  AtA.struct Try.underlying25 (by kernel_rfl) (fun m hm => FsA.cons (sz := 1) rfl rfl (by kernel_rfl) rfl (at22 m)
    (FsA.cons (sz := 1) rfl rfl (by kernel_rfl) rfl (AtA.slice (B := 24) (sz := 1) Try.underlying23 (by kernel_rfl) (by kernel_rfl) (by kernel_rfl) (by omega) (fun k hk => at22 k))
    (FsA.cons (sz := 1) rfl rfl (by kernel_rfl) rfl (AtA.int Try.underlying3 (by kernel_rfl)) FsA.nil)))
set_option maxRecDepth 100000 in
theorem lifted (os : Os) (started : os.Started) (H : Type) (enc : TypeId × Value → H) :
    ReturnsInHanded {} Try.checked os 3 .any (Rows.weaveThenSpec.pre6 enc Try.prog Try.f3 Rows.weaveThenRow.domain false) (Rows.weaveThenSpec.post enc Try.prog Try.f3 false true false false) := by
  refine returnsInHanded_of_change_sized (C := Try.checked) own started (by kernel_rfl) Try.func3
    (ChangeSpec.witness6 (enc := enc) (C := Try.checked) false ⟨#[], #[.agg #[.slice none 0 0, .slice none 0 0, .int .i64 0]], []⟩ 8 (by kernel_rfl) (by kernel_rfl) (by kernel_rfl) (by kernel_rfl)) ?_
  intro W base args ds gs before hval0 hW hcnd hsz0 _
  have hsz : (DataW.weightsEach Try.prog (Try.f3.params.toList ++ Rows.weaveThenSpec.plain.varTypes Try.prog) (ds ++ gs)).all (· ≤ reachBytes) = true := hsz0
  have hval : ∀ (j : Nat) t v, Try.f3.params[j]? = some t → args[j]? = some v → Value.okWide Try.prog W .any base t v := hval0
  have hW' := hW
  obtain ⟨p, q, hA0, hV, rfl, hfz, hnd⟩ := hW
  have hA : DataW.TrodAll enc Try.prog W 0 (fun _ => true) true Try.f3.params.toList args.toList ds p := hA0
  rw [Try.params3] at hA hval hsz
  obtain ⟨v0, vs0, d0, ds0, p0, q0, hargs, rfl, rfl, h0, r0⟩ := trodAll_cons hA
  obtain ⟨rfl, rfl, rfl⟩ := trodAll_nil r0
  obtain rfl : args = #[v0] := by cases args; simp_all
  obtain ⟨rfl, rfl⟩ := trodVars_none hV
  have k0 := h0
  have lt0 : ∀ x ∈ p0, x.block < W.heap.size := by obtain ⟨m, hm⟩ := k0; exact DataW.trod_lt m _ _ _ hm
  obtain ⟨ys, hv, y1, _, rfl, ⟨l1, rfl, b1⟩, y2, _, rfl, ⟨zs, rfl, b4, b5, b6⟩, y3, _, rfl, ⟨n, rfl, _⟩, rfl⟩ := AtA.arg at25 Try.underlying25 (hval 0 25 v0 rfl rfl) h0 (Ab.sized_at hsz (j := 0) (t := 25) rfl rfl)
  obtain ⟨ls, rfl, hls⟩ := list_of (f := lsA) (p := fun l => l.length < 1000000000000000) b6
  clear hA0 hval0 hsz0 hsz
  have hpf := fn_law l1 ls n (by simp at b4; omega) b1
  refine (call_true (v := v0) (W := W) hpf (fun sz xs e => by cases e) (by simpa [flat, AV.cells, lsA] using hv)).mono fun e W' ⟨he, bel⟩ => ?_
  subst he
  exact ⟨_, rfl, _, _, _, [], _, [], hW', trodAll_mk1 (shut_bool Try.underlying4 _), (trodAll_cons_mk (Below.trod laidOut (by kernel_rfl) (of_decide_eq_true (by kernel_rfl)) k0 bel lt0) trodAll_mk0), rfl, bel.frame _, fun h => by cases h⟩
theorem over : Rows.weaveThenRow.holds Try.pinned (OpenSpec.ofChange Rows.weaveThenSpec) :=
  OpenClaim.holds_of_wide 3 Try.f3 rfl rfl rfl rfl rfl rfl rfl ⟨rfl, rfl, rfl, rfl, rfl⟩ rfl rfl rfl rfl rfl (by kernel_rfl) Try.func3 (by kernel_rfl)
    (of_decide_eq_true (by kernel_rfl)) (by unfold Func.isWrapper; first | (rw [if_pos (by decide +kernel)]; kernel_rfl) | (rw [if_neg (by decide +kernel)]; exact ⟨rfl, rfl⟩))
    (fun os started H enc _ => lifted os started H enc)
theorem proved : Rows.WeaveThenSaid := over
#print axioms proved
end Go.Proofs.Ytcfjllbibgadfaa.weaveThen
namespace Go.Proofs.Ytcfjllbibgadfaa
/-- The row, under a short name, for the claim. -/
theorem weaveThen_holds : Rows.WeaveThenSaid := weaveThen.proved
end Go.Proofs.Ytcfjllbibgadfaa
