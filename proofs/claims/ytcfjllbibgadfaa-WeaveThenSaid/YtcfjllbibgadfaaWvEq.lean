/- The two answers to what follows from two sets are alike, of all sets. Plain law; no condition beyond the bounds. -/
import Derived.Test.YtcfjllbibgadfaaWvRefThen
import Derived.Laws.BitsLemmas
namespace Go.Proofs.Ytcfjllbibgadfaa.B
open Go Go.RowKit
open Go.Proofs.YtcfjllbibgadfaaW.PrintWords Go.Proofs.YtcfjllbibgadfaaW.PrintLast Go.Proofs.YtcfjllbibgadfaaW.PrintMore Go.Proofs.Ytcfjllbibgadfaa.EvLib
set_option linter.unusedVariables false

theorem bitF_pow {i : Nat} (h1 : 1 ≤ i) (h2 : i ≤ 13) : bitF (i : Int) = ((2 ^ (i - 1) : Nat) : Int) := by
  have h : i = 1 ∨ i = 2 ∨ i = 3 ∨ i = 4 ∨ i = 5 ∨ i = 6 ∨ i = 7 ∨ i = 8 ∨ i = 9 ∨ i = 10 ∨ i = 11 ∨ i = 12 ∨ i = 13 := by omega
  rcases h with rfl | rfl | rfl | rfl | rfl | rfl | rfl | rfl | rfl | rfl | rfl | rfl | rfl <;> decide +kernel
theorem wraps_i64 (n : Int) (h₀ : 0 ≤ n) (h₁ : n < 2 ^ 62) : IntKind.i64.wrap n = n := by rw [IntKind.wrap_i64]; omega
theorem and_nat (a b : Nat) (ha : a < 2 ^ 62) (hb : b < 2 ^ 62) : Go.bits .and .i64 (a : Int) (b : Int) = ((a &&& b : Nat) : Int) := (bits_nat .i64 62 (by decide) wraps_i64 a b ha hb).1
theorem two_le {i : Nat} (h : i ≤ 13) : 2 ^ (i - 1) < 2 ^ 62 := Nat.pow_lt_pow_right (by omega) (by omega)
theorem inS_test {s i : Nat} (hs : s < 2 ^ 62) (h1 : 1 ≤ i) (h2 : i ≤ 13) : inS (s : Int) (i : Int) = s.testBit (i - 1) := by
  unfold inS
  rw [bitF_pow h1 h2, and_nat s (2 ^ (i - 1)) hs (two_le h2)]
  cases h : s.testBit (i - 1) with
  | false =>
    have e : s &&& 2 ^ (i - 1) = 0 := by
      apply Nat.eq_of_testBit_eq
      intro j
      rw [Nat.testBit_and, Nat.testBit_two_pow, Nat.zero_testBit]
      by_cases hj : i - 1 = j
      · rw [← hj, h]; rfl
      · simp [hj]
    rw [e]; rfl
  | true =>
    have e : s &&& 2 ^ (i - 1) ≠ 0 := by
      intro e
      have := congrArg (fun n => n.testBit (i - 1)) e
      simp only [Nat.testBit_and, h, Nat.testBit_two_pow_self, Nat.zero_testBit] at this
      cases this
    rw [beq_eq_false_iff_ne.2 (by omega)]
    rfl
theorem inQ_test {s i : Nat} (hs : s < 2 ^ 62) : inQ (s : Int) i = s.testBit (i - 1) := by
  unfold inQ
  have e : ((s : Int) / 2 ^ (i - 1)) = ((s / 2 ^ (i - 1) : Nat) : Int) := by
    rw [Int.natCast_ediv, Int.natCast_pow]; rfl
  rw [e, show (1 : Int) = ((1 : Nat) : Int) from rfl, and_nat _ 1 (Nat.lt_of_le_of_lt (Nat.div_le_self _ _) hs) (by decide), Nat.and_one_is_mod, Nat.testBit_eq_decide_div_mod_eq]
  by_cases h : s / 2 ^ (i - 1) % 2 = 1
  · rw [h]; simp
  · have h0 : s / 2 ^ (i - 1) % 2 = 0 := by omega
    rw [h0]; rfl
theorem inQ_inS {s : Int} {i : Nat} (h0 : 0 ≤ s) (h1 : s ≤ 8191) (hi1 : 1 ≤ i) (hi : i ≤ 13) : inQ s i = inS s (i : Int) := by
  obtain ⟨n, rfl⟩ := Int.eq_ofNat_of_zero_le h0
  rw [inQ_test (by omega), inS_test (by omega) hi1 hi]

/-- The relations of a set, from the first on. -/
def ofTo (s : Int) : Nat → List Int
  | 0 => []
  | n + 1 => ofTo s n ++ (if inS s ((n + 1 : Nat) : Int) = true then [((n + 1 : Nat) : Int)] else [])
theorem ofFrom_to (s : Int) : ∀ n k : Nat, ofTo s k ++ ofFrom s n ((k + 1 : Nat) : Int) = ofTo s (k + n) := by
  intro n
  induction n with
  | zero => intro k; simp [ofFrom]
  | succ n ih =>
    intro k
    have := ih (k + 1)
    rw [show k + (n + 1) = k + 1 + n by omega, ← this]
    simp only [ofFrom, ofTo, List.append_assoc]
    rfl
theorem ofF_to (s : Int) : ofF s = ofTo s 13 := by
  have := ofFrom_to s 13 0
  rw [show ofTo s 0 = [] from rfl, List.nil_append] at this
  exact this

theorem refI_eq (m : Int → Int → Int) {a b : Int} (hb0 : 0 ≤ b) (hb1 : b ≤ 8191) (i : Nat) (x : Int) (h : inQ a i = true) : ∀ n, n ≤ 13 → refI m a b i x n = thenR m x (i : Int) (ofTo b n) := by
  intro n
  induction n with
  | zero => intro _; rfl
  | succ n ih =>
    intro hn
    simp only [refI, ofTo, stepQ]
    rw [ih (by omega), if_pos h, inQ_inS hb0 hb1 (by omega) hn]
    unfold thenR
    by_cases e : inS b ((n + 1 : Nat) : Int) = true
    · rw [if_pos e, if_pos e, List.foldl_append]; rfl
    · rw [if_neg e, if_neg e, List.append_nil]
theorem refI_no (m : Int → Int → Int) {a b : Int} (i : Nat) (x : Int) (h : ¬ inQ a i = true) : ∀ n, refI m a b i x n = x := by
  intro n
  induction n with
  | zero => rfl
  | succ n ih => simp only [refI, stepQ]; rw [if_neg h, ih]
theorem refO_eq (m : Int → Int → Int) {a b : Int} (ha0 : 0 ≤ a) (ha1 : a ≤ 8191) (hb0 : 0 ≤ b) (hb1 : b ≤ 8191) : ∀ n, n ≤ 13 → refO m a b n = thenL m 0 (ofTo a n) (ofF b) := by
  intro n
  induction n with
  | zero => intro _; rfl
  | succ n ih =>
    intro hn
    simp only [refO, ofTo]
    rw [ih (by omega)]
    by_cases h : inQ a (n + 1) = true
    · have e : inS a ((n + 1 : Nat) : Int) = true := by rw [← inQ_inS ha0 ha1 (by omega) hn]; exact h
      rw [refI_eq m hb0 hb1 _ _ h 13 (by omega), if_pos e]
      unfold thenL
      rw [List.foldl_append, ← ofF_to]; rfl
    · have e : ¬ inS a ((n + 1 : Nat) : Int) = true := by rw [← inQ_inS ha0 ha1 (by omega) hn]; exact h
      rw [refI_no m _ _ h, if_neg e, List.append_nil]
theorem then_eq {a b : Int} (ha0 : 0 ≤ a) (ha1 : a ≤ 8191) (hb0 : 0 ≤ b) (hb1 : b ≤ 8191) : refO tabF a b 13 = thenF tabF a b := by
  rw [refO_eq tabF ha0 ha1 hb0 hb1 13 (by omega)]
  unfold thenF
  rw [← ofF_to]
theorem then_one : thenF tabF 1 1 = 1 := by decide +kernel
end Go.Proofs.Ytcfjllbibgadfaa.B
