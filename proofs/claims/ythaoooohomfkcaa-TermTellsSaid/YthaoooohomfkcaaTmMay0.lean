/- Whether a term may be: plain words. No condition. -/
import Derived.Test.YthaoooohomfkcaaA1
import Derived.Test.YthaoooohomfkcaaA2
namespace Go.Proofs.Ythaoooohomfkcaa.A
open Go Go.RowKit
open Go.Proofs.YthaoooohomfkcaaW.PrintWords Go.Proofs.YthaoooohomfkcaaW.PrintLast Go.Proofs.YthaoooohomfkcaaW.PrintMore
set_option linter.unusedVariables false
set_option linter.unusedSimpArgs false

/-- As many as are left: each of a list, from the first on, as long as all may be. -/
def allF (f : Int → S31 → Bool × Int) : Int → List S31 → Bool × Int
  | l, [] => (true, l)
  | l, x :: xs => if (f l x).1 = true then allF f (f l x).2 xs else (false, (f l x).2)
def varB (s : ByteArray) : Bool := (term_Var.f 40 s).getD false
def nameB (s : ByteArray) : Bool := (term_Name.f 40 s).getD false
def numB (n : Int) : Bool := decide (n ≥ -1073741824) && decide (n ≤ 1073741824)
def mayF : Nat → Int → S31 → Bool × Int
  | 0, l, _ => (false, l - 1)
  | d + 1, l, x =>
    if l - 1 < 0 then (false, l - 1)
    else if x.f0 = 1 then (varB x.f1 && (decide (x.f2 = 0) && decide (x.f3.length = 0)), l - 1)
    else if x.f0 = 2 then (numB x.f2 && (decide (x.f1.toList = []) && decide (x.f3.length = 0)), l - 1)
    else if x.f0 = 3 then (if (nameB x.f1 && (decide (x.f2 = 0) && decide (x.f3.length ≤ 4))) = true then allF (mayF d) (l - 1) x.f3 else (false, l - 1))
    else (false, l - 1)
def mayB (x : S31) : Bool := (mayF 5 24 x).1
theorem wrap_next {i : Int} {n : Nat} (h0 : 0 ≤ i) (h : i < (n : Int)) (hn : n ≤ 16) : wrap64 (i + 1) = i + 1 := by
  unfold wrap64; omega
theorem small_tot (c : Int) : ∃ b, term_small.f c = some b := by unfold term_small.f; split <;> exact ⟨_, rfl⟩
theorem great_tot (c : Int) : ∃ b, term_great.f c = some b := by unfold term_great.f; split <;> exact ⟨_, rfl⟩
theorem digit_tot (c : Int) : ∃ b, term_digit.f c = some b := by unfold term_digit.f; split <;> exact ⟨_, rfl⟩
theorem inner_tot (c : Int) : ∃ b, term_Inner.f c = some b := by
  obtain ⟨b1, h1⟩ := small_tot c
  obtain ⟨b2, h2⟩ := great_tot c
  obtain ⟨b3, h3⟩ := digit_tot c
  unfold term_Inner.f
  rw [h1, h2, h3]
  simp only [Option.bind_some]
  cases b1 <;> cases b2 <;> cases b3 <;> exact ⟨_, rfl⟩
theorem words_l (s : ByteArray) (hn : s.size ≤ 16) (d : Nat) : ∀ (k : Nat) (i : Int), 0 ≤ i → i ≤ s.size → (s.size : Int) - i = d → d < k → ∃ b, term_word_at_term_small.l0 k s (s.size : Int) i = some b := by
  induction d with
  | zero =>
    intro k i h0 h1 hd hk
    obtain ⟨k, rfl⟩ : ∃ m, k = m + 1 := ⟨k - 1, by omega⟩
    simp only [term_word_at_term_small.l0]
    rw [if_neg (by omega)]
    exact ⟨_, rfl⟩
  | succ d ih =>
    intro k i h0 h1 hd hk
    obtain ⟨k, rfl⟩ : ∃ m, k = m + 1 := ⟨k - 1, by omega⟩
    have hlt : i < (s.size : Int) := by omega
    simp only [term_word_at_term_small.l0]
    rw [if_pos hlt, if_pos h0, if_pos hlt]
    obtain ⟨b, hb⟩ := inner_tot (bt s i)
    rw [hb, wrap_next h0 hlt hn]
    simp only [Option.bind_some]
    split
    · exact ih k (i + 1) (by omega) (by omega) (by omega) (by omega)
    · exact ⟨_, rfl⟩
theorem wordg_l (s : ByteArray) (hn : s.size ≤ 16) (d : Nat) : ∀ (k : Nat) (i : Int), 0 ≤ i → i ≤ s.size → (s.size : Int) - i = d → d < k → ∃ b, term_word_at_term_great.l0 k s (s.size : Int) i = some b := by
  induction d with
  | zero =>
    intro k i h0 h1 hd hk
    obtain ⟨k, rfl⟩ : ∃ m, k = m + 1 := ⟨k - 1, by omega⟩
    simp only [term_word_at_term_great.l0]
    rw [if_neg (by omega)]
    exact ⟨_, rfl⟩
  | succ d ih =>
    intro k i h0 h1 hd hk
    obtain ⟨k, rfl⟩ : ∃ m, k = m + 1 := ⟨k - 1, by omega⟩
    have hlt : i < (s.size : Int) := by omega
    simp only [term_word_at_term_great.l0]
    rw [if_pos hlt, if_pos h0, if_pos hlt]
    obtain ⟨b, hb⟩ := inner_tot (bt s i)
    rw [hb, wrap_next h0 hlt hn]
    simp only [Option.bind_some]
    split
    · exact ih k (i + 1) (by omega) (by omega) (by omega) (by omega)
    · exact ⟨_, rfl⟩
theorem size0 {s : ByteArray} (h : ¬ s.toList = ([] : List UInt8)) : 0 < s.size := by
  rcases Nat.eq_zero_or_pos s.size with e | e
  · exfalso
    apply h
    obtain ⟨a⟩ := s
    simp only [ByteArray.size] at e
    have : a = #[] := Array.eq_empty_of_size_eq_zero e
    subst this
    decide +kernel
  · exact e
theorem name_ok (s : ByteArray) : term_Name.f 40 s = some (nameB s) := by
  have h : ∃ b, term_Name.f 40 s = some b := by
    unfold term_Name.f term_word_at_term_small.f
    have hj : ∀ b, (∃ q, term_word_at_term_small.l0 39 s (s.size : Int) 0 = some q) → ∃ q, term_word_at_term_small.j0 40 s b = some q := by
      intro b h
      simp only [term_word_at_term_small.j0]
      split
      · exact ⟨_, rfl⟩
      · exact h
    have hj1 : term_word_at_term_small.j0 40 s true = some false := by simp [term_word_at_term_small.j0]
    split
    · rw [hj1]; exact ⟨_, rfl⟩
    · rename_i h1
      split
      · rw [hj1]; exact ⟨_, rfl⟩
      · rename_i h2
        rw [if_pos (by have := size0 h1; omega)]
        obtain ⟨b, hb⟩ := small_tot (bt s 0)
        rw [hb]
        simp only [Option.bind_some]
        obtain ⟨q, hq⟩ := hj (!b) (words_l s (by omega) s.size 39 0 (by omega) (by omega) (by omega) (by omega))
        rw [hq]; exact ⟨_, rfl⟩
  obtain ⟨b, hb⟩ := h
  unfold nameB
  rw [hb]; rfl
theorem var_ok (s : ByteArray) : term_Var.f 40 s = some (varB s) := by
  have h : ∃ b, term_Var.f 40 s = some b := by
    unfold term_Var.f term_word_at_term_great.f
    have hj : ∀ b, (∃ q, term_word_at_term_great.l0 39 s (s.size : Int) 0 = some q) → ∃ q, term_word_at_term_great.j0 40 s b = some q := by
      intro b h
      simp only [term_word_at_term_great.j0]
      split
      · exact ⟨_, rfl⟩
      · exact h
    have hj1 : term_word_at_term_great.j0 40 s true = some false := by simp [term_word_at_term_great.j0]
    split
    · rw [hj1]; exact ⟨_, rfl⟩
    · rename_i h1
      split
      · rw [hj1]; exact ⟨_, rfl⟩
      · rename_i h2
        rw [if_pos (by have := size0 h1; omega)]
        obtain ⟨b, hb⟩ := great_tot (bt s 0)
        rw [hb]
        simp only [Option.bind_some]
        obtain ⟨q, hq⟩ := hj (!b) (wordg_l s (by omega) s.size 39 0 (by omega) (by omega) (by omega) (by omega))
        rw [hq]; exact ⟨_, rfl⟩
  obtain ⟨b, hb⟩ := h
  unfold varB
  rw [hb]; rfl
theorem num_ok (n : Int) : term_Number.f n = some (numB n) := by
  unfold term_Number.f numB
  by_cases h : n ≥ -1073741824
  · rw [if_pos h, decide_eq_true h]; simp
  · rw [if_neg h, decide_eq_false h]; simp
/-- What is left goes down by one at the least, and never below one less than nothing. -/
theorem all_range {f : Int → S31 → Bool × Int} (hf : ∀ l x, 0 ≤ l → -1 ≤ (f l x).2 ∧ (f l x).2 ≤ l ∧ ((f l x).1 = true → 0 ≤ (f l x).2)) : ∀ (xs : List S31) (l : Int), 0 ≤ l → -1 ≤ (allF f l xs).2 ∧ (allF f l xs).2 ≤ l ∧ ((allF f l xs).1 = true → 0 ≤ (allF f l xs).2) := by
  intro xs
  induction xs with
  | nil => intro l h; simp only [allF]; exact ⟨by omega, by omega, fun _ => h⟩
  | cons x xs ih =>
    intro l h
    obtain ⟨h1, h2, h3⟩ := hf l x h
    simp only [allF]
    split
    · rename_i e
      obtain ⟨h4, h5, h6⟩ := ih _ (h3 e)
      exact ⟨h4, by omega, h6⟩
    · exact ⟨h1, h2, fun e => by simp at e⟩
theorem may_range : ∀ (d : Nat) (l : Int) (x : S31), 0 ≤ l → -1 ≤ (mayF d l x).2 ∧ (mayF d l x).2 ≤ l ∧ ((mayF d l x).1 = true → 0 ≤ (mayF d l x).2) := by
  intro d
  induction d with
  | zero => intro l x h; simp only [mayF]; exact ⟨by omega, by omega, fun e => by simp at e⟩
  | succ d ih =>
    intro l x h
    simp only [mayF]
    by_cases h1 : l - 1 < 0
    · rw [if_pos h1]; exact ⟨by omega, by omega, fun e => by simp at e⟩
    · rw [if_neg h1]
      by_cases h2 : x.f0 = 1
      · rw [if_pos h2]; exact ⟨by simp only []; omega, by simp only []; omega, fun _ => by simp only []; omega⟩
      rw [if_neg h2]
      by_cases h3 : x.f0 = 2
      · rw [if_pos h3]; exact ⟨by simp only []; omega, by simp only []; omega, fun _ => by simp only []; omega⟩
      rw [if_neg h3]
      by_cases h4 : x.f0 = 3
      · rw [if_pos h4]
        split
        · obtain ⟨h5, h6, h7⟩ := all_range (f := mayF d) (fun l x h => ih l x h) x.f3 (l - 1) (by omega)
          exact ⟨h5, by omega, h7⟩
        · exact ⟨by simp only []; omega, by simp only []; omega, fun e => by simp at e⟩
      rw [if_neg h4]
      exact ⟨by simp only []; omega, by simp only []; omega, fun e => by simp at e⟩
end Go.Proofs.Ythaoooohomfkcaa.A
