/- What comes of two single relations is the table's own entry. Plain law; no condition. -/
import Derived.Test.YtcfjllbibgadfaaWvRow
namespace Go.Proofs.Ytcfjllbibgadfaa.B
open Go Go.RowKit
open Go.Proofs.YtcfjllbibgadfaaW.PrintWords Go.Proofs.YtcfjllbibgadfaaW.PrintLast Go.Proofs.YtcfjllbibgadfaaW.PrintMore Go.Proofs.Ytcfjllbibgadfaa.EvLib
set_option linter.unusedVariables false
set_option linter.unusedSimpArgs false
theorem of_pow : ∀ r : Fin 13, ofF (((2 ^ r.val : Nat) : Int)) = [((r.val : Nat) : Int) + 1] := by decide +kernel
def Pm (m : Int → Int → Int) : Prop := ∀ r q, 0 ≤ m r q ∧ m r q < 8192
theorem step_P {m : Int → Int → Int} {a b c : S53} (ha : a ∈ sp) (hc : c ∈ sp) (h : Pm m) : Pm (stepT m a b c) := by
  intro r q
  have h1 := h (onlyF a b) (onlyF b c)
  obtain ⟨_, rg⟩ := only_ok ha hc
  obtain ⟨_, _, b0, b1⟩ := bit_ok rg
  have h2 := h r q
  rw [stepT_eq]
  unfold upd
  split
  · obtain ⟨x, hx⟩ := Int.eq_ofNat_of_zero_le h1.1
    obtain ⟨y, hy⟩ := Int.eq_ofNat_of_zero_le b0
    rw [hx, hy, or_nat x y (by omega) (by omega)]
    have := Nat.or_lt_two_pow (n := 13) (show x < 2 ^ 13 by omega) (show y < 2 ^ 13 by omega)
    generalize x ||| y = z at *
    omega
  · exact h2
theorem fold_P {f : (Int → Int → Int) → S53 → (Int → Int → Int)} (hf : ∀ m c, c ∈ sp → Pm m → Pm (f m c)) : ∀ (l : List S53) (m : Int → Int → Int), (∀ c ∈ l, c ∈ sp) → Pm m → Pm (l.foldl f m) := by
  intro l
  induction l with
  | nil => intro m _ h; exact h
  | cons c l ih => intro m hl h; exact ih _ (fun x hx => hl x (List.mem_cons_of_mem _ hx)) (hf m c (hl c (List.mem_cons_self)) h)
theorem tab_P : Pm tabF := by
  have zero : Pm (fun _ _ => 0) := fun _ _ => ⟨Int.le_refl 0, show (0 : Int) < 8192 by decide⟩
  refine fold_P (fun m a ha h => ?_) _ _ (fun c hc => List.mem_of_mem_take hc) zero
  refine fold_P (fun m b hb h => ?_) _ _ (fun c hc => List.mem_of_mem_take hc) h
  exact fold_P (fun m c hc h => step_P ha hc h) _ _ (fun c hc => List.mem_of_mem_take hc) h
theorem then_pow {r s : Nat} (hr : r < 13) (hs : s < 13) : thenF tabF ((2 ^ r : Nat) : Int) ((2 ^ s : Nat) : Int) = tabF ((r : Int) + 1) ((s : Int) + 1) := by
  unfold thenF
  rw [of_pow ⟨r, hr⟩, of_pow ⟨s, hs⟩]
  simp only [thenL, thenR, List.foldl_cons, List.foldl_nil]
  obtain ⟨h0, h1⟩ := tab_P ((r : Int) + 1) ((s : Int) + 1)
  generalize tabF ((r : Int) + 1) ((s : Int) + 1) = t at *
  obtain ⟨x, rfl⟩ := Int.eq_ofNat_of_zero_le h0
  have := or_nat 0 x (by omega) (by omega)
  simpa using this
end Go.Proofs.Ytcfjllbibgadfaa.B
