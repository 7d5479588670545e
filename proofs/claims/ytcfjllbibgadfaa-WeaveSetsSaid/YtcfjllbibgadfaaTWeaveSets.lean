/- The law WeaveSets's types, read as Lean values: each opener is a plain lemma; no condition. -/
import Derived.Test.YtcfjllbibgadfaaRows
import Derived.Test.YtcfjllbibgadfaaPWeaveSetsx0
import Derived.Test.YtcfjllbibgadfaaPWeaveSetsx3
import Derived.Test.YtcfjllbibgadfaaOpen
import Derived.KernelRfl
namespace Go.Proofs.Ytcfjllbibgadfaa.PWeaveSets
open Go.RowKit Go.Proofs.Ytcfjllbibgadfaa.Open Go.Proofs.YtcfjllbibgadfaaW.PrintWords
set_option linter.unusedVariables false
def gs25_2 (p : (Int)) : Prop := (Num .i64) p
def gs25_1 (p : (List (List (Int))) × (Int)) : Prop := (Row 24 (Row 8 (Num .i64))) p.1 ∧ gs25_2 p.2
def gs25_0 (p : (List (Int)) × (List (List (Int))) × (Int)) : Prop := (Row 8 (Num .i64)) p.1 ∧ gs25_1 p.2
def g25 (p : (List (Int)) × (List (List (Int))) × (Int)) : Prop := gs25_0 p
theorem at25 (n : Nat) : At Try.prog n 25 (Kd.pair (Kd.slice 3 (Kd.int .i64)) (Kd.pair (Kd.slice 22 (Kd.slice 3 (Kd.int .i64))) (Kd.int .i64))) g25 := At.fields (G := gs25_0) Try.underlying25 (by kernel_rfl) (fun m _ => (Fs.cons' (G := (Row 8 (Num .i64))) (G' := gs25_1) rfl rfl rfl (At.slice Try.underlying22 (by kernel_rfl) (by kernel_rfl) (fun m _ => (At.int Try.underlying3 (by kernel_rfl)))) (Fs.cons' (G := (Row 24 (Row 8 (Num .i64)))) (G' := gs25_2) rfl rfl rfl (At.slice Try.underlying23 (by kernel_rfl) (by kernel_rfl) (fun m _ => (At.slice Try.underlying22 (by kernel_rfl) (by kernel_rfl) (fun m _ => (At.int Try.underlying3 (by kernel_rfl)))))) (Fs.one' (G := gs25_2) rfl rfl (At.int Try.underlying3 (by kernel_rfl))))))
/-- The pure statement. -/
def PureWeaveSets : Prop := ∀ (l0_0 : List (Int)) (l0_1 : List (List (Int))) (a0_2 : Int), (Row 8 (Num .i64)) l0_0 → (Row 24 (Row 8 (Num .i64))) l0_1 → (Num .i64) a0_2 → ∃ k, almagestlaw8_WeaveSets.f k l0_0 l0_1 a0_2 = some true
end Go.Proofs.Ytcfjllbibgadfaa.PWeaveSets
