/- The pure side of the law: for every script of spans the printed function answers true with enough rounds. No condition beyond the reading's own bounds. -/
import Derived.Test.YtkpbhkejfaejhaaPSpanAfterx5
import Derived.Test.YtkpbhkejfaejhaaTSpanAfter
namespace Go.Proofs.Ytkpbhkejfaejhaa.PureSpanAfter
open Go.RowKit Go.Proofs.Ytkpbhkejfaejhaa.PSpanAfter Go.Proofs.YtkpbhkejfaejhaaW.PrintWords Go.Proofs.YtkpbhkejfaejhaaW.PrintLast
set_option linter.unusedVariables false

theorem Ev.ite_pos {α : Type} {c : Prop} [Decidable c] {f g : Nat → Option α} {r : α} (h : c) (k : Ev f r) : Ev (fun n => if c then f n else g n) r := by
  obtain ⟨K, hK⟩ := k
  exact ⟨K, fun n hn => by show (if c then f n else g n) = some r; rw [if_pos h]; exact hK n hn⟩
theorem Ev.ite_neg {α : Type} {c : Prop} [Decidable c] {f g : Nat → Option α} {r : α} (h : ¬ c) (k : Ev g r) : Ev (fun n => if c then f n else g n) r := by
  obtain ⟨K, hK⟩ := k
  exact ⟨K, fun n hn => by show (if c then f n else g n) = some r; rw [if_neg h]; exact hK n hn⟩
theorem Ev.skip {α : Type} {f g : Nat → Option α} {r : α} (m : Nat) (h : ∀ k, g (k + m) = f k) (k : Ev f r) : Ev g r := by
  obtain ⟨K, hK⟩ := k
  refine ⟨K + m, fun n hn => ?_⟩
  obtain ⟨q, rfl⟩ : ∃ q, n = q + m := ⟨n - m, by omega⟩
  rw [h]; exact hK q (by omega)

theorem Ev.succ {α : Type} {g : Nat → Option α} {r : α} (k : Ev (fun n => g (n + 1)) r) : Ev g r := Ev.step (fun _ => rfl) k

theorem wrap_succ {i : Int} (h0 : 0 ≤ i) (h : i < 9223372036854775807) : wrap64 (i + 1) = i + 1 := by
  unfold wrap64; omega

/-- How much the texts are: some number. -/
theorem texts_ev (l : List ByteArray) (hl : l.length ≤ 9223372036854775807) (d : Nat) : ∀ (n i : Int), 0 ≤ i → i ≤ l.length → (l.length : Int) - i = d → ∃ r, Ev (fun k => almagestlaw0_Texts.l0 k l n i) r := by
  induction d with
  | zero =>
    intro n i h0 h1 hd
    exact ⟨n, Ev.step (fun k => rfl) (Ev.ite_neg (by omega) (Ev.now _))⟩
  | succ d ih =>
    intro n i h0 h1 hd
    have hlt : i < (l.length : Int) := by omega
    by_cases hn : n < 1048576
    · obtain ⟨r, hr⟩ := ih (wrap64 (n + ((rdOf ByteArray.empty l i).size : Int))) (i + 1) (by omega) (by omega) (by omega)
      refine ⟨r, Ev.step (fun k => rfl) (Ev.ite_pos hlt (Ev.ite_pos hn (Ev.ite_pos h0 ?_)))⟩
      rw [wrap_succ h0 (by omega)]
      exact hr
    · exact ⟨n, Ev.step (fun k => rfl) (Ev.ite_pos hlt (Ev.ite_neg hn (Ev.now _)))⟩

/-- Is all that is played little? Some answer. -/
theorem heavy_ev (S : List S30) (R : List Int) (T : List ByteArray) (hT : T.length ≤ 9223372036854775807) : ∃ b, Ev (fun k => almagestlaw7_Heavy.f k S R T) b ∧ (b = false → S.length ≤ 200) := by
  by_cases h1 : (S.length : Int) > 200
  · exact ⟨true, Ev.ite_pos h1 (Ev.now _), fun h => by cases h⟩
  by_cases h2 : (R.length : Int) > 200
  · exact ⟨true, Ev.ite_neg h1 (Ev.ite_pos h2 (Ev.now _)), fun h => by cases h⟩
  obtain ⟨r, hr⟩ := texts_ev T hT T.length (T.length : Int) 0 (by omega) (by omega) (by omega)
  exact ⟨decide (r > 2000), Ev.ite_neg h1 (Ev.ite_neg h2 (Ev.bind (a := r) hr (Ev.now _))), fun _ => by omega⟩

theorem so_is : ∀ (k : Nat) (r a b c d : Int), span_So.f k r a b c d = almagestref7_Is.f k r a b c d
  | 0, _, _, _, _, _ => rfl
  | k + 1, r, a, b, c, d => by
    have ih := fun q => so_is k q c d a b
    simp only [span_So.f, almagestref7_Is.f, span_turn.f, almagestref7_Turn.f, Option.bind_some, ih]

/-- A relation that is told at once, and one that is told turned round. -/
theorem is_some (r a b c d : Int) (h1 : 1 ≤ r) (h2 : r ≤ 13) : ∃ x, Ev (fun k => almagestref7_Is.f k r a b c d) x := by
  have low : ∀ (r a b c d : Int), 1 ≤ r → r ≤ 7 → ∃ x, ∀ k, almagestref7_Is.f (k + 1) r a b c d = some x := by
    intro r a b c d h1 h2
    have h : r = 1 ∨ r = 2 ∨ r = 3 ∨ r = 4 ∨ r = 5 ∨ r = 6 ∨ r = 7 := by omega
    rcases h with rfl | rfl | rfl | rfl | rfl | rfl | rfl
    · exact ⟨_, fun k => rfl⟩
    · exact ⟨_, fun k => rfl⟩
    · exact ⟨if a < c then (if c < b then decide (b < d) else false) else false, fun k => by
        show (if a < c then (if c < b then some (decide (b < d)) else some false) else some false) = _
        split <;> (try split) <;> rfl⟩
    · exact ⟨if a = c then decide (b < d) else false, fun k => by
        show (if a = c then some (decide (b < d)) else some false) = _
        split <;> rfl⟩
    · exact ⟨if c < a then decide (b < d) else false, fun k => by
        show (if c < a then some (decide (b < d)) else some false) = _
        split <;> rfl⟩
    · exact ⟨if b = d then decide (c < a) else false, fun k => by
        show (if b = d then some (decide (c < a)) else some false) = _
        split <;> rfl⟩
    · exact ⟨_, fun k => rfl⟩
  by_cases h7 : r ≤ 7
  · obtain ⟨x, hx⟩ := low r a b c d h1 h7
    exact ⟨x, 1, fun k hk => by obtain ⟨m, rfl⟩ : ∃ m, k = m + 1 := ⟨k - 1, by omega⟩
                                exact hx m⟩
  · obtain ⟨x, hx⟩ := low (14 - r) c d a b (by omega) (by omega)
    have e : wrap64 (14 - r) = 14 - r := by unfold wrap64; omega
    refine ⟨x, Ev.step (fun k => rfl) (Ev.ite_neg (by omega) (Ev.ite_neg (by omega) (Ev.ite_neg (by omega) (Ev.ite_neg (by omega) (Ev.ite_neg (by omega) (Ev.ite_neg (by omega) (Ev.ite_neg (by omega) ?_)))))))⟩
    refine Ev.bind (a := 14 - r) ?_ (Ev.bind (a := x) ?_ (Ev.now _))
    · simp only [almagestref7_Turn.f, e]; exact Ev.now _
    · exact ⟨1, fun k hk => by obtain ⟨m, rfl⟩ : ∃ m, k = m + 1 := ⟨k - 1, by omega⟩
                               exact hx m⟩

def May (s : S30) : Prop := -1073741824 ≤ s.f0 ∧ s.f0 ≤ s.f1 ∧ s.f1 ≤ 1073741824

theorem may_some (s : S30) (h : May s) : span_May.f s.f0 s.f1 = some true := by
  obtain ⟨h1, h2, h3⟩ := h
  unfold span_May.f
  rw [if_pos (by omega), if_pos h2, decide_eq_true h3]
theorem span_some (a b : Int) : ∃ x, almagestref7_Span.f a b = some x ∧ (x = true → -1073741824 ≤ a ∧ a ≤ b ∧ b ≤ 1073741824) := by
  unfold almagestref7_Span.f
  by_cases h1 : a ≥ -1073741824
  · rw [if_pos h1]
    by_cases h2 : a ≤ b
    · rw [if_pos h2]
      exact ⟨_, rfl, fun h => ⟨by omega, h2, of_decide_eq_true h⟩⟩
    · rw [if_neg h2]; exact ⟨_, rfl, fun h => by cases h⟩
  · rw [if_neg h1]; exact ⟨_, rfl, fun h => by cases h⟩

theorem rd_mem (l : List S30) (i : Int) (h0 : 0 ≤ i) (h1 : i < l.length) : rd_T30 l i ∈ l := by
  unfold rd_T30
  rw [List.getD_eq_getElem?_getD, List.getElem?_eq_getElem (by omega : i.toNat < l.length)]
  exact List.getElem_mem _

section
variable (r : Int) (hr1 : 1 ≤ r) (hr2 : r ≤ 13)

theorem rel_some (hr1 : 1 ≤ r) (hr2 : r ≤ 13) : span_Rel.f r = some true := by
  unfold span_Rel.f; rw [if_pos (by omega), decide_eq_true hr2]

/-- One row. -/
theorem l5_ev (hr1 : 1 ≤ r) (hr2 : r ≤ 13) (l : List S30) (hl : l.length ≤ 1000) (hm : ∀ s ∈ l, May s) (i : Int) (hi0 : 0 ≤ i) (hi : i < l.length)
    (hnext : Ev (fun k => almagestlaw7_each.l4 k r l (i + 1)) true) (d : Nat) : ∀ j : Int, 0 ≤ j → j ≤ l.length → (l.length : Int) - j = d → Ev (fun k => almagestlaw7_each.l5 k r l i j) true := by
  induction d with
  | zero =>
    intro j h0 h1 hd
    refine Ev.step (fun k => rfl) (Ev.ite_neg (by omega) ?_)
    rw [wrap_succ hi0 (by omega)]
    exact hnext
  | succ d ih =>
    intro j h0 h1 hd
    have hlt : j < (l.length : Int) := by omega
    obtain ⟨x, hx⟩ := is_some r (rd_T30 l i).f0 (rd_T30 l i).f1 (rd_T30 l j).f0 (rd_T30 l j).f1 hr1 hr2
    refine Ev.step (fun k => rfl) (Ev.ite_pos hlt (Ev.ite_pos hi0 (Ev.ite_pos hi (Ev.ite_pos h0 ?_))))
    refine Ev.bind (a := (x, 0)) ?_ ?_
    · unfold span_Is.f
      rw [may_some _ (hm _ (rd_mem l i hi0 hi)), may_some _ (hm _ (rd_mem l j h0 hlt)), rel_some r hr1 hr2]
      simp only [Option.bind_some, if_true]
      refine Ev.bind (a := x) ?_ (Ev.now _)
      simp only [so_is]
      exact hx
    · refine Ev.bind (a := 0) (Ev.now _) (Ev.ite_pos rfl (Ev.bind (a := x) hx (Ev.ite_neg (by simp) ?_)))
      rw [wrap_succ h0 (by omega)]
      exact ih (j + 1) (by omega) (by omega) (by omega)

theorem wakes_ev : Ev (fun k => almagestlaw7_wakes.f k) true := Ev.of almagestlaw7_wakes.mono (k := 30) (by decide +kernel)

theorem l4_ev (hr1 : 1 ≤ r) (hr2 : r ≤ 13) (l : List S30) (hl : l.length ≤ 1000) (hm : ∀ s ∈ l, May s) (d : Nat) : ∀ i : Int, 0 ≤ i → i ≤ l.length → (l.length : Int) - i = d → Ev (fun k => almagestlaw7_each.l4 k r l i) true := by
  induction d with
  | zero =>
    intro i h0 h1 hd
    refine Ev.step (fun k => rfl) (Ev.ite_neg (by omega) ?_)
    exact Ev.bind (a := 1) (⟨0, fun _ _ => (by decide +kernel : almagestlaw0_Within.f 3 2 = some 1)⟩) (Ev.ite_pos rfl (Ev.bind (a := true) wakes_ev (Ev.now _)))
  | succ d ih =>
    intro i h0 h1 hd
    have hlt : i < (l.length : Int) := by omega
    refine Ev.step (fun k => rfl) (Ev.ite_pos hlt ?_)
    exact l5_ev r hr1 hr2 l hl hm i h0 hlt (ih (i + 1) (by omega) (by omega) (by omega)) l.length 0 (by omega) (by omega) (by omega)

/-- The script's own spans are laid behind. -/
theorem l3_ev (hr1 : 1 ≤ r) (hr2 : r ≤ 13) (S : List S30) (R : List Int) (T : List ByteArray) (hS : S.length ≤ 200) (d : Nat) : ∀ (l : List S30) (i : Int), 0 ≤ i → (4 : Int) - i = d → l.length ≤ 21 + i.toNat → (∀ s ∈ l, May s) →
    Ev (fun k => almagestlaw7_each.l3 k r l i S R T) true := by
  induction d with
  | zero =>
    intro l i h0 hd hl hm
    have fin : Ev (fun k => almagestlaw7_each.l4 k r l 0) true := l4_ev r hr1 hr2 l (by omega) hm l.length 0 (by omega) (by omega) (by omega)
    have hj : Ev (fun k => almagestlaw7_each.j4 k r l i false S R T) true := by
      refine Ev.succ ?_
      simp only [almagestlaw7_each.j4]
      exact Ev.ite_neg (by simp) fin
    by_cases hi : i < (S.length : Int)
    · refine Ev.step (fun k => rfl) (Ev.ite_pos hi ?_)
      rw [decide_eq_false (by omega)]
      exact hj
    · exact Ev.step (fun k => rfl) (Ev.ite_neg hi hj)
  | succ d ih =>
    intro l i h0 hd hl hm
    have fin : Ev (fun k => almagestlaw7_each.l4 k r l 0) true := l4_ev r hr1 hr2 l (by omega) hm l.length 0 (by omega) (by omega) (by omega)
    have hj : Ev (fun k => almagestlaw7_each.j4 k r l i false S R T) true := by
      refine Ev.succ ?_
      simp only [almagestlaw7_each.j4]
      exact Ev.ite_neg (by simp) fin
    by_cases hi : i < (S.length : Int)
    · refine Ev.step (fun k => rfl) (Ev.ite_pos hi ?_)
      rw [decide_eq_true (by omega)]
      obtain ⟨x, hx, hxm⟩ := span_some (rd_T30 S i).f0 (rd_T30 S i).f1
      refine Ev.succ ?_
      simp only [almagestlaw7_each.j4, hx, Option.bind_some]
      refine Ev.ite_pos trivial (Ev.ite_pos h0 (Ev.ite_pos hi ?_))
      have e : wrap64 (i + 1) = i + 1 := wrap_succ h0 (by omega)
      cases x with
      | true =>
        refine Ev.ite_pos rfl (Ev.ite_pos (by omega) ?_)
        rw [e]
        refine ih _ (i + 1) (by omega) (by omega) ?_ ?_
        · rw [List.length_append]; simp; omega
        · intro s hs
          rcases List.mem_append.1 hs with hs | hs
          · exact hm s hs
          · rw [List.mem_singleton.1 hs]; exact hxm rfl
      | false =>
        refine Ev.ite_neg (by simp) ?_
        rw [e]
        exact ih _ (i + 1) (by omega) (by omega) (by omega) hm
    · exact Ev.step (fun k => rfl) (Ev.ite_neg hi hj)

def small : List S30 := [⟨0, 0⟩, ⟨0, 1⟩, ⟨0, 2⟩, ⟨0, 3⟩, ⟨0, 4⟩, ⟨0, 5⟩, ⟨1, 1⟩, ⟨1, 2⟩, ⟨1, 3⟩, ⟨1, 4⟩, ⟨1, 5⟩, ⟨2, 2⟩, ⟨2, 3⟩, ⟨2, 4⟩, ⟨2, 5⟩, ⟨3, 3⟩, ⟨3, 4⟩, ⟨3, 5⟩, ⟨4, 4⟩, ⟨4, 5⟩, ⟨5, 5⟩]

theorem small_may : ∀ s ∈ small, May s := by
  unfold small May
  intro s hs
  simp only [List.mem_cons, List.not_mem_nil, or_false] at hs
  rcases hs with rfl | rfl | rfl | rfl | rfl | rfl | rfl | rfl | rfl | rfl | rfl | rfl | rfl | rfl | rfl | rfl | rfl | rfl | rfl | rfl | rfl <;> decide

theorem start (S : List S30) (R : List Int) (T : List ByteArray) (k : Nat) : almagestlaw7_each.l0 (k + 41) r [] 0 S R T = almagestlaw7_each.l3 k r small 0 S R T := by
  kernel_rfl

theorem each_ev (hr1 : 1 ≤ r) (hr2 : r ≤ 13) (S : List S30) (R : List Int) (T : List ByteArray) (hT : T.length ≤ 9223372036854775807) : Ev (fun k => almagestlaw7_each.f k S R T r) true := by
  obtain ⟨b, hb, hS⟩ := heavy_ev S R T hT
  unfold almagestlaw7_each.f
  refine Ev.bind (a := b) hb ?_
  cases b with
  | true => exact Ev.ite_pos rfl (Ev.now _)
  | false =>
    refine Ev.ite_neg (by simp) ?_
    refine Ev.bind (a := []) (Ev.of (fun k => almagestref0_CopyNumbers.mono _ k) (k := 3) (by decide +kernel)) ?_
    have h3 := l3_ev r hr1 hr2 S R T (hS rfl) 4 small 0 (by omega) (by omega) (by simp [small]) small_may
    obtain ⟨K, hK⟩ := h3
    exact ⟨K + 41, fun n hn => by
      obtain ⟨q, rfl⟩ : ∃ q, n = q + 41 := ⟨n - 41, by omega⟩
      show almagestlaw7_each.l0 (q + 41) r [] 0 S R T = some true
      rw [start]; exact hK _ (by omega)⟩
end

theorem SpanAfter : PureSpanAfter := by
  intro S R T _ _ hT
  have h : Ev (fun k => almagestlaw7_SpanAfter.f k S R T) true := by
    unfold almagestlaw7_SpanAfter.f
    exact Ev.bind (a := true) (each_ev _ (by omega) (by omega) S R T hT.2.1) (Ev.now _)
  exact h.rounds
end Go.Proofs.Ytkpbhkejfaejhaa.PureSpanAfter
