/- The pure side: how heavy a script is, is told. No condition beyond the reading's own bounds. -/
import Derived.Test.YtcfjllbibgadfaaHWeaveAfter
import Derived.Test.YtcfjllbibgadfaaTWeaveAfter
import Derived.Test.YtcfjllbibgadfaaEvLib
namespace Go.Proofs.Ytcfjllbibgadfaa.PureWeaveAfter
open Go.RowKit Go.Proofs.Ytcfjllbibgadfaa.B Go.Proofs.Ytcfjllbibgadfaa.Open Go.Proofs.YtcfjllbibgadfaaW.PrintWords Go.Proofs.YtcfjllbibgadfaaW.PrintLast Go.Proofs.Ytcfjllbibgadfaa.EvLib
set_option linter.unusedVariables false
theorem heavy_l0 (a : List Int) (l : List (List Int)) (n : Int) (hl : l.length ≤ 9223372036854775807) (d : Nat) : ∀ (x i : Int), 0 ≤ i → i ≤ l.length → (l.length : Int) - i = d → ∃ r, Ev (fun k => almagestlaw8_Heavy.l0 k x i a l n) r := by
  induction d with
  | zero =>
    intro x i h0 h1 hd
    exact ⟨_, Ev.step (fun k => rfl) (Ev.ite_neg (by omega) (Ev.now _))⟩
  | succ d ih =>
    intro x i h0 h1 hd
    have hlt : i < (l.length : Int) := by omega
    by_cases hx : x < 1048576
    · obtain ⟨r, hr⟩ := ih (wrap64 (x + ((rd_L1 l i).length : Int))) (i + 1) (by omega) (by omega) (by omega)
      refine ⟨r, Ev.step (fun k => rfl) (Ev.ite_pos hlt (Ev.ite_pos hx (Ev.ite_pos h0 ?_)))⟩
      rw [wrap_succ h0 (by omega)]
      exact hr
    · exact ⟨_, Ev.step (fun k => rfl) (Ev.ite_pos hlt (Ev.ite_neg hx (Ev.now _)))⟩
theorem WeaveAfter : PureWeaveAfter := by
  intro a l n _ hl _
  obtain ⟨r, hr⟩ := heavy_l0 a l n hl.2.1 l.length (wrap64 ((a.length : Int) + (l.length : Int))) 0 (by omega) (by omega) (by omega)
  have h : Ev (fun k => almagestlaw8_WeaveAfter.f k a l n) true := by
    unfold almagestlaw8_WeaveAfter.f almagestlaw8_Heavy.f
    exact Ev.bind hr (Ev.now _)
  exact h.rounds
end Go.Proofs.Ytcfjllbibgadfaa.PureWeaveAfter
