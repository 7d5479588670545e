/- The statement WireFrames, for every input: the law's walk, the arguments read as plain data. Conditions: none beyond the given row's own. -/
import Derived.Test.YthaoooohomfkcaaRows
import Derived.Test.YthaoooohomfkcaaWiB
import Derived.Test.YthaoooohomfkcaaAb27
import Derived.WalkKit
import Derived.ProofKit
import Derived.OpenShut
import Derived.ShutString
import Derived.ChangeOld
namespace Go.Proofs.Ythaoooohomfkcaa.wireFrames
open Go.ChangeShapes Go.WideShapes Go.ChangeAt Go.RowKit Go.Proofs.Ythaoooohomfkcaa.Ab
set_option linter.unusedVariables false
theorem own : ownKnob Try.prog.godebug = none := by kernel_rfl
theorem laidOut : laidOutB Try.prog = true := by kernel_rfl
def GT (y : AV) : Prop := ∃ t : T, y = t.av ∧ (t.ok ∧ t.fit)
theorem at31 : ∀ n, AtA Try.prog n 31 GT := by
  intro n
  induction n using Nat.strongRecOn with
  | _ n ih =>
  refine (AtA.struct Try.underlying31 (by kernel_rfl) (fun m hm => FsA.cons (sz := 1) rfl rfl (by kernel_rfl) rfl (AtA.int Try.underlying3 (by kernel_rfl)) (FsA.cons (sz := 1) rfl rfl (by kernel_rfl) rfl (AtA.string Try.underlying9 (by kernel_rfl))
    (FsA.cons (sz := 1) rfl rfl (by kernel_rfl) rfl (AtA.int Try.underlying3 (by kernel_rfl)) (FsA.cons (sz := 1) rfl rfl (by kernel_rfl) rfl (AtA.slice (B := 56) (sz := 4) Try.underlying22 (by kernel_rfl) (by kernel_rfl) (by kernel_rfl) (by omega) (fun k hk => ih k (by omega))) FsA.nil))))).imp ?_
  rintro y ⟨ys, rfl, y1, _, rfl, ⟨k, rfl, hk⟩, y2, _, rfl, ⟨s, rfl, hs⟩, y3, _, rfl, ⟨v, rfl, hv⟩, y4, _, rfl, ⟨xs, rfl, hx1, hx2, hx3⟩, rfl⟩
  obtain ⟨ts, rfl, hts⟩ := list_of hx3
  refine ⟨.mk k s v ts, ?_, ?_⟩
  · rw [av_mk]; simp [flat, AV.cells]
  · rw [ok_mk, fit_mk]; simp at hx1; exact ⟨⟨by omega, by omega, fun t h => (hts t h).1⟩, by omega, fun t h => (hts t h).2⟩
theorem at25 : ∀ n, AtA Try.prog n 25 (fun y => ∃ ys, y = .agg (flat ys) ∧ ∃ y1 zs, ys = y1 :: zs ∧ GSl 4 56 GT y1 ∧ ∃ y2 zs', zs = y2 :: zs' ∧ GSl 1 16 GStr y2 ∧ zs' = []) := fun n =>
  AtA.struct Try.underlying25 (by kernel_rfl) (fun m hm => FsA.cons (sz := 1) rfl rfl (by kernel_rfl) rfl (AtA.slice (B := 56) (sz := 4) Try.underlying22 (by kernel_rfl) (by kernel_rfl) (by kernel_rfl) (by omega) (fun k hk => at31 k))
    (FsA.cons (sz := 1) rfl rfl (by kernel_rfl) rfl (AtA.slice (B := 16) (sz := 1) Try.underlying23 (by kernel_rfl) (by kernel_rfl) (by kernel_rfl) (by omega) (fun k hk => AtA.string Try.underlying9 (by kernel_rfl))) FsA.nil))
theorem at54 : ∀ n, AtA Try.prog n 54 (GSl 1 8 (GInt .i64)) := fun n => AtA.slice (B := 8) (sz := 1) Try.underlying54 (by kernel_rfl) (by kernel_rfl) (by kernel_rfl) (by omega) (fun k hk => AtA.int Try.underlying3 (by kernel_rfl))
def GF (y : AV) : Prop := ∃ f : Fr, y = f.av ∧ (f.t.ok ∧ f.t.fit)
theorem at75 : ∀ n, AtA Try.prog n 75 (fun y => ∃ a b : Int, y = .agg [.int .i64 a, .int .i64 b]) := fun n =>
  (AtA.struct Try.underlying75 (by kernel_rfl) (fun m hm => FsA.cons (sz := 1) rfl rfl (by kernel_rfl) rfl (AtA.int Try.underlying3 (by kernel_rfl)) (FsA.cons (sz := 1) rfl rfl (by kernel_rfl) rfl (AtA.int Try.underlying3 (by kernel_rfl)) FsA.nil))).imp (by
    rintro y ⟨ys, rfl, y1, _, rfl, ⟨a, rfl, ha⟩, y2, _, rfl, ⟨b, rfl, hb⟩, rfl⟩
    exact ⟨a, b, by simp [flat, AV.cells]⟩)
theorem at77 : ∀ n, AtA Try.prog n 77 (fun y => ∃ (t : T) (a b : Int), (t.ok ∧ t.fit) ∧ y = .agg (t.av.cells ++ [.int .i64 a, .int .i64 b])) := fun n =>
  (AtA.struct Try.underlying77 (by kernel_rfl) (fun m hm => FsA.cons (sz := 4) rfl rfl (by kernel_rfl) rfl (at31 m) (FsA.cons (sz := 2) rfl rfl (by kernel_rfl) rfl (at75 m) FsA.nil))).imp (by
    rintro y ⟨ys, rfl, y1, _, rfl, ⟨t, rfl, ht⟩, y2, _, rfl, ⟨a, b, rfl⟩, rfl⟩
    exact ⟨t, a, b, ht, by simp [flat, AV.cells]⟩)
theorem at79 : ∀ n, AtA Try.prog n 79 GF := fun n =>
  (AtA.struct Try.underlying79 (by kernel_rfl) (fun m hm => FsA.cons (sz := 1) rfl rfl (by kernel_rfl) rfl (AtA.int Try.underlying3 (by kernel_rfl)) (FsA.cons (sz := 6) rfl rfl (by kernel_rfl) rfl (at77 m) (FsA.cons (sz := 1) rfl rfl (by kernel_rfl) rfl (AtA.int Try.underlying3 (by kernel_rfl)) FsA.nil)))).imp (by
    rintro y ⟨ys, rfl, y1, _, rfl, ⟨k, rfl, hk⟩, y2, _, rfl, ⟨t, a, b, ht, rfl⟩, y3, _, rfl, ⟨n, rfl, hn⟩, rfl⟩
    refine ⟨⟨k, t, a, b, n⟩, ?_, ht⟩
    cases t
    rw [av_mk]
    simp [flat, AV.cells, Fr.av])
def GAsk (y : AV) : Prop := ∃ (l : List T) (s : List (List UInt8)) (ns : List Int) (fs : List Fr), y = ask20 l s ns fs ∧ l.length * 56 ≤ 140737488351232 ∧ (∀ t ∈ l, t.ok) ∧ s.length * 16 ≤ 140737488351232 ∧ (∀ x ∈ s, x.length ≤ 140737488351232) ∧ ns.length * 8 ≤ 140737488351232 ∧ (∀ x ∈ ns, (Lit.int .i64 x).wf = true) ∧ fs.length * 88 ≤ 140737488351232 ∧ (∀ f ∈ fs, f.t.ok)
theorem at57 : ∀ n, AtA Try.prog n 57 (fun y => ∃ ys, y = .agg (flat ys) ∧ ∃ y1 zs, ys = y1 :: zs ∧ (∃ ys, y1 = .agg (flat ys) ∧ ∃ y1 zs, ys = y1 :: zs ∧ GSl 4 56 GT y1 ∧ ∃ y2 zs', zs = y2 :: zs' ∧ GSl 1 16 GStr y2 ∧ zs' = []) ∧ ∃ y2 zs', zs = y2 :: zs' ∧ GSl 1 8 (GInt .i64) y2 ∧ ∃ y3 zs'', zs' = y3 :: zs'' ∧ GSl 8 88 GF y3 ∧ zs'' = []) := fun n =>
  AtA.struct Try.underlying57 (by kernel_rfl) (fun m hm => FsA.cons (sz := 2) rfl rfl (by kernel_rfl) rfl (at25 m) (FsA.cons (sz := 1) rfl rfl (by kernel_rfl) rfl (at54 m) (FsA.cons (sz := 1) rfl rfl (by kernel_rfl) rfl (AtA.slice (B := 88) (sz := 8) Try.underlying55 (by kernel_rfl) (by kernel_rfl) (by kernel_rfl) (by omega) (fun k hk => at79 k)) FsA.nil)))
set_option maxRecDepth 100000 in
theorem lifted (os : Os) (started : os.Started) (H : Type) (enc : TypeId × Value → H) :
    ReturnsInHanded {} Try.checked os 10 .any (Rows.wireFramesSpec.pre6 enc Try.prog Try.f10 Rows.wireFramesRow.domain false) (Rows.wireFramesSpec.post enc Try.prog Try.f10 false true false false) := by
  refine returnsInHanded_of_change_sized (C := Try.checked) own started (by kernel_rfl) Try.func10
    (ChangeSpec.witness6 (enc := enc) (C := Try.checked) false ⟨#[], #[.agg #[.slice none 0 0, .slice none 0 0, .slice none 0 0, .slice none 0 0]], []⟩ 8 (by kernel_rfl) (by kernel_rfl) (by kernel_rfl) (by kernel_rfl)) ?_
  intro W base args ds gs before hval0 hW hcnd hsz0 _
  have hsz : (DataW.weightsEach Try.prog (Try.f10.params.toList ++ Rows.wireFramesSpec.plain.varTypes Try.prog) (ds ++ gs)).all (· ≤ reachBytes) = true := hsz0
  have hval : ∀ (j : Nat) t v, Try.f10.params[j]? = some t → args[j]? = some v → Value.okWide Try.prog W .any base t v := hval0
  have hW' := hW
  obtain ⟨p, q, hA0, hV, rfl, hfz, hnd⟩ := hW
  have hA : DataW.TrodAll enc Try.prog W 0 (fun _ => true) true Try.f10.params.toList args.toList ds p := hA0
  rw [Try.params10] at hA hval hsz
  obtain ⟨v0, vs0, d0, ds0, p0, q0, hargs, rfl, rfl, h0, r0⟩ := trodAll_cons hA
  obtain ⟨rfl, rfl, rfl⟩ := trodAll_nil r0
  obtain rfl : args = #[v0] := by cases args; simp_all
  obtain ⟨rfl, rfl⟩ := trodVars_none hV
  have k0 := h0
  have lt0 : ∀ x ∈ p0, x.block < W.heap.size := by obtain ⟨m, hm⟩ := k0; exact DataW.trod_lt m _ _ _ hm
  obtain ⟨ys, hv, y1, _, rfl, ⟨ys1, rfl, z1, _, rfl, ⟨xs, rfl, b1, b2, b3⟩, z2, _, rfl, ⟨zs, rfl, b4, b5, b6⟩, rfl⟩, y2, _, rfl, ⟨is, rfl, b7, b8, b9⟩, y3, _, rfl, ⟨us, rfl, b10, b11, b12⟩, rfl⟩ := AtA.arg at57 Try.underlying57 (hval 0 57 v0 rfl rfl) h0 (Ab.sized_at hsz (j := 0) (t := 57) rfl rfl)
  obtain ⟨ts, rfl, hts⟩ := list_of b3
  obtain ⟨ss, rfl, hss⟩ := list_of (f := AV.str) (p := fun s => s.length ≤ 140737488351232) b6
  obtain ⟨ns, rfl, hns⟩ := list_of (f := AV.int .i64) (p := fun n => (Lit.int .i64 n).wf = true) b9
  obtain ⟨fs, rfl, hfs⟩ := list_of b12
  clear hA0 hval0 hsz0 hsz
  simp only [List.length_map] at b1 b4 b7 b10
  have hpf := fn_WireFrames ts ss ns fs (by omega) (fun t h => (hts t h).1) (by omega) (by omega) hfs (by omega) (by omega) hss
  refine (call_true (v := v0) (W := W) hpf (fun sz xs e => by cases e) (by simpa [ask20, flat, AV.cells] using hv)).mono fun e W' ⟨he, bel⟩ => ?_
  subst he
  exact ⟨_, rfl, _, _, _, [], _, [], hW', trodAll_mk1 (shut_bool Try.underlying4 _), (trodAll_cons_mk (Below.trod laidOut (by kernel_rfl) (of_decide_eq_true (by kernel_rfl)) k0 bel lt0) trodAll_mk0), rfl, bel.frame _, fun h => by cases h⟩
theorem over : Rows.wireFramesRow.holds Try.pinned (OpenSpec.ofChange Rows.wireFramesSpec) :=
  OpenClaim.holds_of_wide 10 Try.f10 rfl rfl rfl rfl rfl rfl rfl ⟨rfl, rfl, rfl, rfl, rfl⟩ rfl rfl rfl rfl rfl (by kernel_rfl) Try.func10 (by kernel_rfl)
    (of_decide_eq_true (by kernel_rfl)) (by unfold Func.isWrapper; first | (rw [if_pos (by decide +kernel)]; kernel_rfl) | (rw [if_neg (by decide +kernel)]; exact ⟨rfl, rfl⟩))
    (fun os started H enc _ => lifted os started H enc)
theorem proved : Rows.WireFramesSaid := over
#print axioms proved
end Go.Proofs.Ythaoooohomfkcaa.wireFrames
namespace Go.Proofs.Ythaoooohomfkcaa
/-- The row, under a short name, for the claim. -/
theorem wireFrames_holds : Rows.WireFramesSaid := wireFrames.proved
end Go.Proofs.Ythaoooohomfkcaa
