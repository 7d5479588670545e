/- The pure side: sets made of relations, relations told of sets, and sets turned, are the page's. No condition beyond the reading's own bounds. -/
import Derived.Test.YtcfjllbibgadfaaPWeaveSetsx3
import Derived.Test.YtcfjllbibgadfaaTWeaveSets
import Derived.Test.YtcfjllbibgadfaaEvLib
import Derived.Test.YtcfjllbibgadfaaWvEq
namespace Go.Proofs.Ytcfjllbibgadfaa.PureWeaveSets
open Go Go.RowKit Go.Proofs.Ytcfjllbibgadfaa.PWeaveSets Go.Proofs.Ytcfjllbibgadfaa.Open Go.Proofs.YtcfjllbibgadfaaW.PrintWords Go.Proofs.YtcfjllbibgadfaaW.PrintLast Go.Proofs.YtcfjllbibgadfaaW.PrintMore Go.Proofs.Ytcfjllbibgadfaa.EvLib
set_option linter.unusedVariables false
set_option linter.unusedSimpArgs false

/-! Bits -/
theorem bit_of {r : Int} (h : B.Rg r) : weave_bit.f r = some (B.bitF r) := (B.bit_ok h).1
theorem shl_of {r : Int} (h : B.Rg r) : shl .i64 1 (wrap64 (r - 1)) = B.bitF r := by
  have := B.bit_shl h
  rw [wrap_id (by have := h.1; have := h.2; omega) (by have := h.1; have := h.2; omega)]
  exact this
theorem wrap_ge {r : Int} (h : B.Rg r) : 0 ≤ wrap64 (r - 1) := by
  have := h.1; have := h.2
  rw [wrap_id (by omega) (by omega)]; omega
def relB (r : Int) : Bool := decide (1 ≤ r) && decide (r ≤ 13)
theorem relB_yes {r : Int} (h : relB r = true) : B.Rg r := by
  simp only [relB, Bool.and_eq_true, decide_eq_true_eq] at h
  exact h
theorem rel1 (r : Int) : span_Rel.f r = some (relB r) := by
  unfold span_Rel.f relB
  by_cases h : r ≥ 1
  · rw [if_pos h]; simp [show (1 : Int) ≤ r from h]
  · rw [if_neg h]; simp [show ¬ (1 : Int) ≤ r from h]
theorem rel2 (r : Int) : almagestref7_Rel.f r = some (relB r) := by
  unfold almagestref7_Rel.f almagestref0_Between.f relB
  by_cases h : r ≥ 1
  · rw [if_pos h]; simp [show (1 : Int) ≤ r from h]
  · rw [if_neg h]; simp [show ¬ (1 : Int) ≤ r from h]
/-! Sets of relations -/
def setA (acc : Int) : List Int → Int × Int
  | [] => (acc, 0)
  | r :: t => if relB r = true then setA (Go.bits .or .i64 acc (B.bitF r)) t else (0, 1)
def setB (bad want : Int) : List Int → Int × Int
  | [] => (bad, want)
  | r :: t => if relB r = true then setB bad (Go.bits .or .i64 want (B.bitF r)) t else setB 1 want t
theorem setB_one (l : List Int) : ∀ w, (setB 1 w l).1 = 1 := by
  induction l with
  | nil => intro w; rfl
  | cons r t ih => intro w; simp only [setB]; split <;> exact ih _
theorem setAB (l : List Int) : ∀ w, ((setB 0 w l).1 = 0 ∧ setA w l = ((setB 0 w l).2, 0)) ∨ ((setB 0 w l).1 = 1 ∧ setA w l = (0, 1)) := by
  induction l with
  | nil => intro w; exact Or.inl ⟨rfl, rfl⟩
  | cons r t ih =>
    intro w
    simp only [setA, setB]
    by_cases h : relB r = true
    · rw [if_pos h, if_pos h]; exact ih _
    · rw [if_neg h, if_neg h]; exact Or.inr ⟨setB_one _ _, rfl⟩
theorem rd_mid (p : List Int) (r : Int) (t : List Int) : rd (p ++ r :: t) (p.length : Int) = r := by
  unfold rd
  rw [Int.toNat_natCast, List.getD_eq_getElem?_getD, List.getElem?_append_right (Nat.le_refl _)]
  simp
theorem set_l0 (t : List Int) : ∀ (p : List Int) (acc : Int), (p ++ t).length ≤ 9223372036854775807 → Ev (fun k => weave_Set.l0 k acc (p ++ t) ((p ++ t).length : Int) (p.length : Int)) (setA acc t) := by
  induction t with
  | nil =>
    intro p acc h
    exact Ev.step (fun k => rfl) (Ev.ite_neg (by simp) (Ev.now _))
  | cons r t ih =>
    intro p acc h
    have h1 : (p.length : Int) < ((p ++ r :: t).length : Int) := by simp only [List.length_append, List.length_cons] at h ⊢; omega
    refine Ev.step (fun k => rfl) (Ev.ite_pos h1 (Ev.ite_pos (by omega) (Ev.ite_pos h1 ?_)))
    simp only [rd_mid]
    refine Ev.bindc (rel1 r) ?_
    simp only [setA]
    by_cases hr : relB r = true
    · rw [if_pos hr]
      refine Ev.ite_pos hr (Ev.bindc (bit_of (relB_yes hr)) ?_)
      have := ih (p ++ [r]) (Go.bits .or .i64 acc (B.bitF r)) (by simpa using h)
      simp only [List.append_assoc, List.singleton_append, List.length_append, List.length_cons, List.length_nil, Nat.zero_add] at this
      simp only [List.length_append, List.length_cons] at h ⊢
      rw [wrap_succ (by omega) (by omega)]
      exact this
    · rw [if_neg hr]
      exact Ev.ite_neg hr (Ev.now _)
/-! The relations of a set -/
theorem of_same : ∀ (k : Nat) (s : Int), weave_of.f k s = B.weave_of.f k s := by
  have h : ∀ (k : Nat) (s : Int) (x : List Int) (r : Int), weave_of.l0 k s x r = B.weave_of.l0 k s x r := by
    intro k
    induction k with
    | zero => intro s x r; rfl
    | succ k ih =>
      intro s x r
      simp only [weave_of.l0, B.weave_of.l0, ih]
      rfl
  intro k s
  exact h k s _ _
theorem of_ev (s : Int) : Ev (fun k => weave_of.f k s) (B.ofF s) := Ev.of (weave_of.mono s) (k := 14) (by rw [of_same]; exact B.of_ok s)
theorem is_of (s : Int) : weave_is.f s = some (B.isB s) := B.is_ok s
theorem set_of (s : Int) : almagestlaw8_set.f s = some (B.isB s) := by
  unfold almagestlaw8_set.f almagestref0_Num.f B.isB
  by_cases h : s ≥ 0
  · rw [if_pos h]; simp [show (0 : Int) ≤ s from h]
  · rw [if_neg h]; simp [show ¬ (0 : Int) ≤ s from h]
theorem list_ev (s : Int) : Ev (fun k => weave_List.f k s) (if B.isB s = true then (B.ofF s, 0) else ([], 1)) := by
  refine Ev.bindc (is_of s) ?_
  by_cases h : B.isB s = true
  · rw [if_pos h]; exact Ev.ite_pos h (Ev.bind (of_ev s) (Ev.now _))
  · rw [if_neg h]; exact Ev.ite_neg h (Ev.now _)
/-! A set turned -/
def turnL (acc : Int) (l : List Int) : Int := l.foldl (fun n r => Go.bits .or .i64 n (B.bitF (14 - r))) acc
theorem turn_rg {r : Int} (h : B.Rg r) : B.Rg (14 - r) := by obtain ⟨h1, h2⟩ := h; exact ⟨by omega, by omega⟩
theorem turn1 {r : Int} (h : B.Rg r) : span_Turn.f r = some (14 - r, 0) := by
  unfold span_Turn.f
  have h1 : relB r = true := by obtain ⟨h1, h2⟩ := h; simp [relB, h1, h2]
  rw [rel1, h1]
  simp only [Option.bind_some, if_true, span_turn.f]
  rw [wrap_id (by have := h.1; have := h.2; omega) (by have := h.1; have := h.2; omega)]
theorem turned_l0 (t : List Int) : ∀ (p : List Int) (acc : Int), (∀ r ∈ t, B.Rg r) → (p ++ t).length ≤ 9223372036854775807 → Ev (fun k => weave_turned.l0 k acc (p ++ t) ((p ++ t).length : Int) (p.length : Int)) (turnL acc t) := by
  induction t with
  | nil =>
    intro p acc _ h
    exact Ev.step (fun k => rfl) (Ev.ite_neg (by simp) (Ev.now _))
  | cons r t ih =>
    intro p acc hg h
    have h1 : (p.length : Int) < ((p ++ r :: t).length : Int) := by simp only [List.length_append, List.length_cons] at h ⊢; omega
    have gr := hg r (List.mem_cons_self)
    refine Ev.step (fun k => rfl) (Ev.ite_pos h1 (Ev.ite_pos (by omega) (Ev.ite_pos h1 ?_)))
    simp only [rd_mid]
    refine Ev.bindc (turn1 gr) (Ev.bindc (bit_of (turn_rg gr)) ?_)
    have := ih (p ++ [r]) (Go.bits .or .i64 acc (B.bitF (14 - r))) (fun x hx => hg x (List.mem_cons_of_mem _ hx)) (by simpa using h)
    simp only [List.append_assoc, List.singleton_append, List.length_append, List.length_cons, List.length_nil, Nat.zero_add] at this
    simp only [List.length_append, List.length_cons] at h ⊢
    rw [wrap_succ (by omega) (by omega)]
    exact this
theorem turned_ev (s : Int) (l : List Int) (h : Ev (fun k => weave_of.f k s) l) (hg : ∀ r ∈ l, B.Rg r) (hl : l.length ≤ 9223372036854775807) : Ev (fun k => weave_turned.f k s) (turnL 0 l) := by
  refine Ev.bind h ?_
  exact turned_l0 l [] 0 hg hl
theorem turn_ev (s : Int) : Ev (fun k => weave_Turn.f k s) (if B.isB s = true then (turnL 0 (B.ofF s), 0) else (0, 1)) := by
  have h0 := turned_ev s (B.ofF s) (of_ev s) (B.of_rg s) (by have := B.of_len s; omega)
  generalize turnL 0 (B.ofF s) = y at *
  have h1 : Ev (fun k => (weave_turned.f k s).bind fun t129 => some (t129, (0 : Int))) (y, 0) := Ev.bind h0 (Ev.now _)
  refine Ev.bindc (is_of s) ?_
  by_cases h : B.isB s = true
  · rw [if_pos h]
    exact Ev.ite_pos h h1
  · rw [if_neg h]; exact Ev.ite_neg h (Ev.now _)
/-! The page's -/
theorem test_of {s r : Int} (h0 : 0 ≤ s) (h1 : s ≤ 8191) (hr : B.Rg r) : (Go.bits .and .i64 (shr .i64 s (wrap64 (r - 1))) 1 = 1) ↔ B.inS s r = true := by
  obtain ⟨a, b⟩ := hr
  obtain ⟨i, rfl⟩ := Int.eq_ofNat_of_zero_le (show 0 ≤ r by omega)
  rw [← B.inQ_inS h0 h1 (i := i) (by omega) (by omega)]
  unfold B.inQ shr
  rw [wrap_id (by omega) (by omega), show ((i : Int) - 1).toNat = i - 1 by omega, Nat.min_eq_left (by simp [IntKind.bits]; omega)]
  simp
theorem tset_l0 {s : Int} (h0 : 0 ≤ s) (h1 : s ≤ 8191) (n : Nat) : ∀ (r acc : Int), (14 : Int) - r = n → 1 ≤ r → Ev (fun k => almagestref7_TurnSet.l0 k s acc r) (turnL acc (B.ofFrom s n r)) := by
  induction n with
  | zero =>
    intro r acc h hr
    exact Ev.step (fun k => rfl) (Ev.ite_neg (by omega) (Ev.now _))
  | succ n ih =>
    intro r acc h hr
    have gr : B.Rg r := ⟨hr, by omega⟩
    refine Ev.step (fun k => rfl) (Ev.ite_pos (by omega) (Ev.ite_pos (wrap_ge gr) ?_))
    have hn : ∀ a, Ev (fun k => almagestref7_TurnSet.l0 k s a (wrap64 (r + 1))) (turnL a (B.ofFrom s n (r + 1))) := fun a => by
      rw [wrap_succ (by omega) (by omega)]; exact ih (r + 1) a (by omega) (by omega)
    simp only [B.ofFrom]
    by_cases ht : B.inS s r = true
    · rw [if_pos ht]
      refine Ev.ite_pos ((test_of h0 h1 gr).2 ht) ?_
      have e : almagestref7_Turn.f r = some (14 - r) := by unfold almagestref7_Turn.f; rw [wrap_id (by omega) (by omega)]
      refine Ev.bindc e (Ev.ite_pos (wrap_ge (turn_rg gr)) ?_)
      rw [shl_of (turn_rg gr)]
      exact hn _
    · rw [if_neg ht]
      exact Ev.ite_neg (fun e => ht ((test_of h0 h1 gr).1 e)) (hn _)
theorem tset_ev {s : Int} (h0 : 0 ≤ s) (h1 : s ≤ 8191) : Ev (fun k => almagestref7_TurnSet.f k s) (turnL 0 (B.ofF s)) := tset_l0 h0 h1 13 1 0 (by omega) (by omega)
theorem eq_l0 (t : List Int) : ∀ (p : List Int), (p ++ t).length ≤ 9223372036854775807 → Ev (fun k => almagestref0_EqNumbers.l0 k (p ++ t) (p ++ t) (p.length : Int)) true := by
  induction t with
  | nil =>
    intro p h
    exact Ev.step (fun k => rfl) (Ev.ite_neg (by simp) (Ev.now _))
  | cons r t ih =>
    intro p h
    have h1 : (p.length : Int) < ((p ++ r :: t).length : Int) := by simp only [List.length_append, List.length_cons] at h ⊢; omega
    refine Ev.step (fun k => rfl) (Ev.ite_pos h1 (Ev.ite_pos (by omega) (Ev.ite_pos h1 (Ev.ite_pos rfl ?_))))
    have := ih (p ++ [r]) (by simpa using h)
    simp only [List.append_assoc, List.singleton_append, List.length_append, List.length_cons, List.length_nil, Nat.zero_add] at this
    simp only [List.length_append, List.length_cons] at h
    rw [wrap_succ (by omega) (by omega)]
    exact this
theorem eq_ev (l : List Int) (h : l.length ≤ 9223372036854775807) : Ev (fun k => almagestref0_EqNumbers.f k l l) true := Ev.ite_pos rfl (eq_l0 l [] h)
/-! The law -/
section
variable {a : List Int} {l : List (List Int)} {n : Int} (ha : a.length ≤ 9223372036854775807) (hl : l.length ≤ 9223372036854775807) (hr : ∀ x ∈ l, x.length ≤ 9223372036854775807)
include ha in
theorem j6_ok (i : Int) (x : List Int) (t e : Int) (hx : x.length ≤ 9223372036854775807) (h0 : 0 ≤ i) (hi : i < (a.length : Int)) (h : Ev (fun k => almagestlaw8_WeaveSets.l2 k (i + 1) a l n) true) : Ev (fun k => almagestlaw8_WeaveSets.j6 k i x e t e e t x a l n) true := by
  refine Ev.step (fun k => rfl) (Ev.bindc rfl (Ev.ite_pos rfl (Ev.bindc rfl (Ev.ite_pos rfl (Ev.bind (eq_ev x hx) (Ev.ite_pos rfl (Ev.ite_pos rfl ?_)))))))
  rw [wrap_succ h0 (by omega)]
  exact h
theorem l3_ok {i : Int} (h0 : 0 ≤ i) (hi : i < (a.length : Int)) (s0 : 0 ≤ rd a i) (s1 : rd a i ≤ 8191) (x10 : List Int) (x11 x12 x13 x14 x15 : Int) (m : Nat) : ∀ (x : List Int) (r : Int), (14 : Int) - r = m → 1 ≤ r → x.length + m ≤ 100 →
    Ev (fun k => almagestlaw8_WeaveSets.j6 k i x10 x11 x12 x13 x14 x15 (x ++ B.ofFrom (rd a i) m r) a l n) true → Ev (fun k => almagestlaw8_WeaveSets.l3 k i x10 x11 x12 x13 x14 x15 x r a l n) true := by
  induction m with
  | zero =>
    intro x r h hr hx hj
    simp only [B.ofFrom, List.append_nil] at hj
    exact Ev.step (fun k => rfl) (Ev.ite_neg (by omega) hj)
  | succ m ih =>
    intro x r h hr hx hj
    have gr : B.Rg r := ⟨hr, by omega⟩
    refine Ev.step (fun k => rfl) (Ev.ite_pos (by omega) (Ev.ite_pos h0 (Ev.ite_pos hi (Ev.ite_pos (wrap_ge gr) ?_))))
    simp only [B.ofFrom] at hj
    by_cases ht : B.inS (rd a i) r = true
    · rw [if_pos ht] at hj
      refine Ev.ite_pos ((test_of s0 s1 gr).2 ht) (Ev.ite_pos (by omega) ?_)
      rw [wrap_succ (by omega) (by omega)]
      exact ih (x ++ [r]) (r + 1) (by omega) (by omega) (by simp; omega) (by rw [List.append_assoc]; exact hj)
    · rw [if_neg ht, List.nil_append] at hj
      refine Ev.ite_neg (fun e => ht ((test_of s0 s1 gr).1 e)) ?_
      rw [wrap_succ (by omega) (by omega)]
      exact ih x (r + 1) (by omega) (by omega) (by omega) hj
include ha in
theorem l2_ok (d : Nat) : ∀ (i : Int), 0 ≤ i → i ≤ (a.length : Int) → (a.length : Int) - i = d → Ev (fun k => almagestlaw8_WeaveSets.l2 k i a l n) true := by
  have hend : ∀ i : Int, Ev (fun k => almagestlaw8_WeaveSets.j4 k i false a l n) true := fun i => Ev.step (fun k => rfl) (Ev.bindc rfl (Ev.now _))
  induction d with
  | zero =>
    intro i h0 h1 hd
    exact Ev.step (fun k => rfl) (Ev.ite_neg (by omega) (hend i))
  | succ d ih =>
    intro i h0 h1 hd
    have hi : i < (a.length : Int) := by omega
    refine Ev.step (fun k => rfl) (Ev.ite_pos hi ?_)
    by_cases h8 : i < 8
    · rw [decide_eq_true h8]
      refine Ev.step (fun k => rfl) (Ev.ite_pos h0 (Ev.ite_pos hi (Ev.bind (list_ev _) (Ev.bind (turn_ev _) (Ev.bindc (set_of _) ?_)))))
      have hnext := ih (i + 1) (by omega) (by omega) (by omega)
      by_cases hs : B.isB (rd a i) = true
      · rw [if_pos hs, if_pos hs]
        have hs' := hs
        simp only [B.isB, Bool.and_eq_true, decide_eq_true_eq] at hs'
        refine Ev.ite_pos hs (Ev.bind (tset_ev hs'.1 hs'.2) ?_)
        refine l3_ok h0 hi hs'.1 hs'.2 _ _ _ _ _ _ 13 [] 1 (by omega) (by omega) (by simp) ?_
        rw [List.nil_append]
        exact j6_ok ha i (B.ofF (rd a i)) _ 0 (by have := B.of_len (rd a i); omega) h0 hi hnext
      · rw [if_neg hs, if_neg hs]
        exact Ev.ite_neg hs (j6_ok ha i [] 0 1 (by simp) h0 hi hnext)
    · rw [decide_eq_false h8]
      exact hend i
include hl in
theorem l1_ok {i : Int} (h0 : 0 ≤ i) (hi : i < (l.length : Int)) (x4 x5 : Int) (hnext : Ev (fun k => almagestlaw8_WeaveSets.l0 k (i + 1) a l n) true) (t : List Int) : ∀ (p : List Int) (bad want : Int), rd_L1 l i = p ++ t → (p ++ t).length ≤ 9223372036854775807 →
    (((setB bad want t).1 = 0 ∧ x5 = 0 ∧ x4 = (setB bad want t).2) ∨ ((setB bad want t).1 = 1 ∧ x5 = 1 ∧ x4 = 0)) → Ev (fun k => almagestlaw8_WeaveSets.l1 k i x4 x5 bad want (p.length : Int) a l n) true := by
  induction t with
  | nil =>
    intro p bad want hp hle hc
    refine Ev.step (fun k => rfl) (Ev.ite_pos h0 (Ev.ite_pos hi (Ev.ite_neg (by rw [hp]; simp) ?_)))
    simp only [setB] at hc
    have e : wrap64 (i + 1) = i + 1 := wrap_succ h0 (by omega)
    rcases hc with ⟨rfl, rfl, rfl⟩ | ⟨rfl, rfl, rfl⟩
    · refine Ev.ite_pos rfl (Ev.bindc rfl (Ev.ite_pos rfl (Ev.ite_pos rfl ?_)))
      rw [e]; exact hnext
    · refine Ev.ite_neg (by decide) (Ev.bindc rfl (Ev.ite_pos rfl (Ev.ite_pos rfl ?_)))
      rw [e]; exact hnext
  | cons r t ih =>
    intro p bad want hp hle hc
    have h1 : (p.length : Int) < ((rd_L1 l i).length : Int) := by rw [hp]; simp only [List.length_append, List.length_cons]; omega
    refine Ev.step (fun k => rfl) (Ev.ite_pos h0 (Ev.ite_pos hi (Ev.ite_pos h1 (Ev.ite_pos (by omega) ?_))))
    have er : rd (rd_L1 l i) (p.length : Int) = r := by rw [hp, rd_mid]
    rw [er]
    refine Ev.bindc (rel2 r) ?_
    have hn : ∀ b w, (((setB b w t).1 = 0 ∧ x5 = 0 ∧ x4 = (setB b w t).2) ∨ ((setB b w t).1 = 1 ∧ x5 = 1 ∧ x4 = 0)) → Ev (fun k => almagestlaw8_WeaveSets.l1 k i x4 x5 b w (wrap64 ((p.length : Int) + 1)) a l n) true := by
      intro b w hcc
      have := ih (p ++ [r]) b w (by rw [hp]; simp) (by simpa using hle) hcc
      simp only [List.length_append, List.length_cons, List.length_nil, Nat.zero_add] at this hle
      rw [wrap_succ (by omega) (by omega)]
      exact this
    simp only [setB] at hc
    by_cases hr : relB r = true
    · rw [if_pos hr] at hc
      refine Ev.ite_pos hr (Ev.ite_pos (wrap_ge (relB_yes hr)) ?_)
      rw [shl_of (relB_yes hr)]
      exact hn _ _ hc
    · rw [if_neg hr] at hc
      exact Ev.ite_neg hr (hn _ _ hc)
include ha hl hr in
theorem l0_ok (d : Nat) : ∀ (i : Int), 0 ≤ i → i ≤ (l.length : Int) → (l.length : Int) - i = d → Ev (fun k => almagestlaw8_WeaveSets.l0 k i a l n) true := by
  have hend : ∀ i : Int, Ev (fun k => almagestlaw8_WeaveSets.j1 k i false a l n) true := fun i => Ev.step (fun k => rfl) (l2_ok ha a.length 0 (by omega) (by omega) (by omega))
  induction d with
  | zero =>
    intro i h0 h1 hd
    exact Ev.step (fun k => rfl) (Ev.ite_neg (by omega) (hend i))
  | succ d ih =>
    intro i h0 h1 hd
    have hi : i < (l.length : Int) := by omega
    refine Ev.step (fun k => rfl) (Ev.ite_pos hi ?_)
    by_cases h8 : i < 8
    · rw [decide_eq_true h8]
      have hlen : (rd_L1 l i).length ≤ 9223372036854775807 := by
        have hm : rd_L1 l i ∈ l := by
          unfold rd_L1
          rw [List.getD_eq_getElem?_getD, List.getElem?_eq_getElem (show i.toNat < l.length by omega)]
          exact List.getElem_mem _
        exact hr _ hm
      refine Ev.step (fun k => rfl) (Ev.ite_pos h0 (Ev.ite_pos hi (Ev.bind (set_l0 (rd_L1 l i) [] 0 hlen) ?_)))
      refine l1_ok hl h0 hi _ _ (ih (i + 1) (by omega) (by omega) (by omega)) (rd_L1 l i) [] 0 0 rfl hlen ?_
      rcases setAB (rd_L1 l i) 0 with ⟨e1, e2⟩ | ⟨e1, e2⟩
      · exact Or.inl ⟨e1, by rw [e2], by rw [e2]⟩
      · exact Or.inr ⟨e1, by rw [e2], by rw [e2]⟩
    · rw [decide_eq_false h8]
      exact hend i
end
theorem heavy_l0 (a : List Int) (l : List (List Int)) (n : Int) (hl : l.length ≤ 9223372036854775807) (d : Nat) : ∀ (x i : Int), 0 ≤ i → i ≤ l.length → (l.length : Int) - i = d → ∃ r, Ev (fun k => almagestlaw8_Heavy.l0 k x i a l n) r := by
  induction d with
  | zero =>
    intro x i h0 h1 hd
    exact ⟨_, Ev.step (fun k => rfl) (Ev.ite_neg (by omega) (Ev.now _))⟩
  | succ d ih =>
    intro x i h0 h1 hd
    have hlt : i < (l.length : Int) := by omega
    by_cases hx : x < 1048576
    · obtain ⟨r, hr⟩ := ih (wrap64 (x + ((rd_L1 l i).length : Int))) (i + 1) (by omega) (by omega) (by omega)
      refine ⟨r, Ev.step (fun k => rfl) (Ev.ite_pos hlt (Ev.ite_pos hx (Ev.ite_pos h0 ?_)))⟩
      rw [wrap_succ h0 (by omega)]
      exact hr
    · exact ⟨_, Ev.step (fun k => rfl) (Ev.ite_pos hlt (Ev.ite_neg hx (Ev.now _)))⟩
theorem WeaveSets : PureWeaveSets := by
  intro a l n ha hl _
  obtain ⟨r, hr⟩ := heavy_l0 a l n hl.2.1 l.length (wrap64 ((a.length : Int) + (l.length : Int))) 0 (by omega) (by omega) (by omega)
  have h : Ev (fun k => almagestlaw8_WeaveSets.f k a l n) true := by
    unfold almagestlaw8_WeaveSets.f almagestlaw8_Heavy.f
    refine Ev.bind hr ?_
    refine Ev.ite (fun _ => Ev.now _) (fun _ => ?_)
    exact l0_ok ha.2.1 hl.2.1 (fun x hx => (hl.2.2 x hx).2.1) l.length 0 (by omega) (by omega) (by omega)
  exact h.rounds
end Go.Proofs.Ytcfjllbibgadfaa.PureWeaveSets
