/- The elder contracts of weave, over abstract values. -/
import Derived.Test.YtcfjllbibgadfaaWvEq
import Derived.Test.YtcfjllbibgadfaaAb28
namespace Go.Proofs.Ytcfjllbibgadfaa.Ab
set_option linter.unusedVariables false
set_option linter.unusedSimpArgs false
open Go.RowKit Go.Proofs.Ytcfjllbibgadfaa.B
def rThen (a b : Int) : Int × Int := if isB a = true then (if isB b = true then (thenF tabF a b, 0) else (0, 1)) else (0, 1)
def tabI : List Int := (List.range 196).map fun j => tabF ((j / 14 : Nat) : Int) ((j % 14 : Nat) : Int)
def tabA : AV := .agg (tabI.map (AV.int .i64))
theorem arr_tab : arrL tabF = tabI.map (Value.int .i64) := by unfold arrL tabI; rw [List.map_map]; rfl
theorem pf_Then (a b : Int) : PFn Try.prog 22 [.int .i64 a, .int .i64 b] (.tup [.int .i64 (rThen a b).1, .int .i64 (rThen a b).2]) := by
  refine pfn_below (by kernel_rfl) (tup_no _) fun vs w g hl hv => ⟨.tuple #[.int .i64 (rThen a b).1, .int .i64 (rThen a b).2], fun w' => .tup _ [_, _] (.cons _ _ _ _ (.int _ _) (.cons _ _ _ _ (.int _ _) .nil)), ?_⟩
  rw [two_vals hl, int_val (hv 0), int_val (hv 1)]
  refine weave_Then.calls a b _ _ w ?_
  unfold weave_Then.f rThen
  split
  · split <;> rfl
  · rfl
theorem pf_Table : PFn Try.prog 21 [] tabA := by
  refine pfn_below (by kernel_rfl) (agg_no _) fun vs w g hl hv => ⟨.agg (arrL tabF).toArray, fun w' => ?_, ?_⟩
  · rw [arr_tab]
    exact .agg _ _ (CL_intsMk .i64 tabI)
  · obtain rfl : vs = [] := List.eq_nil_of_length_eq_zero hl
    exact almagestref7_Table_calls w
theorem pf_RThen (a b : Int) (ha0 : 0 ≤ a) (ha1 : a ≤ 8191) (hb0 : 0 ≤ b) (hb1 : b ≤ 8191) : PFn Try.prog 25 [tabA, .int .i64 a, .int .i64 b] (.int .i64 (thenF tabF a b)) := by
  refine pfn_below (by kernel_rfl) (int_no _ _) fun vs w g hl hv => ⟨.int .i64 (thenF tabF a b), fun w' => .int _ _, ?_⟩
  have h0 : VR g w tabA (argsV vs 0) := hv 0
  have e0 : argsV vs 0 = .agg (arrL tabF).toArray := by
    unfold tabA at h0
    generalize argsV vs 0 = v at h0
    cases h0 with
    | agg cs us hc => rw [CL_intsOf hc, arr_tab]
  rw [vals3 hl, e0, int_val (hv 1), int_val (hv 2), ← then_eq ha0 ha1 hb0 hb1]
  exact almagestref7_Then_calls tabF a b w ha0 ha1 hb0 hb1
end Go.Proofs.Ytcfjllbibgadfaa.Ab
