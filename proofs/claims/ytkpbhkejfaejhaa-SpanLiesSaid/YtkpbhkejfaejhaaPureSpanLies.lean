/- The pure side of the law: whatever the script's spans, each relation asked and told, and the hull, are alike in both texts. No condition beyond the reading's own bounds. -/
import Derived.Test.YtkpbhkejfaejhaaQSpanLiesa
import Derived.Test.YtkpbhkejfaejhaaTSpanLies
import Derived.Test.YtkpbhkejfaejhaaEvLib
namespace Go.Proofs.Ytkpbhkejfaejhaa.PureSpanLies
open Go.RowKit Go.Proofs.Ytkpbhkejfaejhaa.PSpanLies Go.Proofs.YtkpbhkejfaejhaaW.PrintWords Go.Proofs.YtkpbhkejfaejhaaW.PrintLast Go.Proofs.Ytkpbhkejfaejhaa.EvLib
set_option linter.unusedVariables false
/-- How much the texts are: some number. -/
theorem texts_ev (l : List ByteArray) (hl : l.length ≤ 9223372036854775807) (d : Nat) : ∀ (n i : Int), 0 ≤ i → i ≤ l.length → (l.length : Int) - i = d → ∃ r, Ev (fun k => almagestlaw0_Texts.l0 k l n i) r := by
  induction d with
  | zero =>
    intro n i h0 h1 hd
    exact ⟨n, Ev.step (fun k => rfl) (Ev.ite_neg (by omega) (Ev.now _))⟩
  | succ d ih =>
    intro n i h0 h1 hd
    have hlt : i < (l.length : Int) := by omega
    by_cases hn : n < 1048576
    · obtain ⟨r, hr⟩ := ih (wrap64 (n + ((rdOf ByteArray.empty l i).size : Int))) (i + 1) (by omega) (by omega) (by omega)
      refine ⟨r, Ev.step (fun k => rfl) (Ev.ite_pos hlt (Ev.ite_pos hn (Ev.ite_pos h0 ?_)))⟩
      rw [wrap_succ h0 (by omega)]
      exact hr
    · exact ⟨n, Ev.step (fun k => rfl) (Ev.ite_pos hlt (Ev.ite_neg hn (Ev.now _)))⟩

/-- Is all that is played little? Some answer. -/
theorem heavy_ev (S : List S30) (R : List Int) (T : List ByteArray) (hT : T.length ≤ 9223372036854775807) : ∃ b, Ev (fun k => almagestlaw7_Heavy.f k S R T) b ∧ (b = false → S.length ≤ 200) := by
  by_cases h1 : (S.length : Int) > 200
  · exact ⟨true, Ev.ite_pos h1 (Ev.now _), fun h => by cases h⟩
  by_cases h2 : (R.length : Int) > 200
  · exact ⟨true, Ev.ite_neg h1 (Ev.ite_pos h2 (Ev.now _)), fun h => by cases h⟩
  obtain ⟨r, hr⟩ := texts_ev T hT T.length (T.length : Int) 0 (by omega) (by omega) (by omega)
  exact ⟨decide (r > 2000), Ev.ite_neg h1 (Ev.ite_neg h2 (Ev.bind (a := r) hr (Ev.now _))), fun _ => by omega⟩

def mayB (a b : Int) : Bool := decide (-1073741824 ≤ a) && (decide (a ≤ b) && decide (b ≤ 1073741824))
theorem may_f (a b : Int) : span_May.f a b = some (mayB a b) := by
  unfold span_May.f mayB
  by_cases h1 : a ≥ -1073741824
  · rw [if_pos h1]
    by_cases h2 : a ≤ b
    · rw [if_pos h2]; simp [show -1073741824 ≤ a from h1, h2]
    · rw [if_neg h2]; simp [h2]
  · rw [if_neg h1]; simp [show ¬ -1073741824 ≤ a from h1]
def relB (r : Int) : Bool := decide (1 ≤ r) && decide (r ≤ 13)
theorem rel_f (r : Int) : span_Rel.f r = some (relB r) := by
  unfold span_Rel.f relB
  by_cases h : r ≥ 1
  · rw [if_pos h]; simp [show (1 : Int) ≤ r from h]
  · rw [if_neg h]; simp [show ¬ (1 : Int) ≤ r from h]
theorem rel_of {r : Int} (h : relB r = true) : 1 ≤ r ∧ r ≤ 13 := by
  simpa [relB] using h
theorem hull_f (a b c d : Int) : span_Hull.f a b c d = some (if (mayB a b && mayB c d) = true then (mn a c, mx b d, 0) else (0, 0, 1)) := by
  unfold span_Hull.f span_Around.f
  simp only [may_f, Option.bind_some]
  cases mayB a b <;> cases mayB c d <;> rfl
def soB (r a b c d : Int) : Bool := (almagestref7_Is.f 2 r a b c d).getD false
theorem so_is : ∀ (k : Nat) (r a b c d : Int), span_So.f k r a b c d = almagestref7_Is.f k r a b c d
  | 0, _, _, _, _, _ => rfl
  | k + 1, r, a, b, c, d => by
    have ih := fun q => so_is k q c d a b
    simp only [span_So.f, almagestref7_Is.f, span_turn.f, almagestref7_Turn.f, Option.bind_some, ih]

/-- A relation that is told at once, and one that is told turned round. -/
theorem is_some (r a b c d : Int) (h1 : 1 ≤ r) (h2 : r ≤ 13) : ∃ x, ∀ k, almagestref7_Is.f (k + 2) r a b c d = some x := by
  have low : ∀ (r a b c d : Int), 1 ≤ r → r ≤ 7 → ∃ x, ∀ k, almagestref7_Is.f (k + 1) r a b c d = some x := by
    intro r a b c d h1 h2
    have h : r = 1 ∨ r = 2 ∨ r = 3 ∨ r = 4 ∨ r = 5 ∨ r = 6 ∨ r = 7 := by omega
    rcases h with rfl | rfl | rfl | rfl | rfl | rfl | rfl
    · exact ⟨_, fun k => rfl⟩
    · exact ⟨_, fun k => rfl⟩
    · exact ⟨if a < c then (if c < b then decide (b < d) else false) else false, fun k => by
        show (if a < c then (if c < b then some (decide (b < d)) else some false) else some false) = _
        split <;> (try split) <;> rfl⟩
    · exact ⟨if a = c then decide (b < d) else false, fun k => by
        show (if a = c then some (decide (b < d)) else some false) = _
        split <;> rfl⟩
    · exact ⟨if c < a then decide (b < d) else false, fun k => by
        show (if c < a then some (decide (b < d)) else some false) = _
        split <;> rfl⟩
    · exact ⟨if b = d then decide (c < a) else false, fun k => by
        show (if b = d then some (decide (c < a)) else some false) = _
        split <;> rfl⟩
    · exact ⟨_, fun k => rfl⟩
  by_cases h7 : r ≤ 7
  · obtain ⟨x, hx⟩ := low r a b c d h1 h7
    exact ⟨x, fun k => hx (k + 1)⟩
  · obtain ⟨x, hx⟩ := low (14 - r) c d a b (by omega) (by omega)
    have e : wrap64 (14 - r) = 14 - r := by unfold wrap64; omega
    refine ⟨x, fun k => ?_⟩
    have st : almagestref7_Is.f (k + 2) r a b c d = (almagestref7_Turn.f r).bind fun t => (almagestref7_Is.f (k + 1) t c d a b).bind fun u => some u := by
      rw [almagestref7_Is.f]
      rw [if_neg (by omega), if_neg (by omega), if_neg (by omega), if_neg (by omega), if_neg (by omega), if_neg (by omega), if_neg (by omega)]
    rw [st]
    simp only [almagestref7_Turn.f, Option.bind_some, e, hx]
theorem is_ev (r a b c d : Int) (h1 : 1 ≤ r) (h2 : r ≤ 13) : Ev (fun k => almagestref7_Is.f k r a b c d) (soB r a b c d) := by
  obtain ⟨x, hx⟩ := is_some r a b c d h1 h2
  have e : soB r a b c d = x := by unfold soB; rw [hx 0]; rfl
  rw [e]
  exact ⟨2, fun k hk => by obtain ⟨m, rfl⟩ : ∃ m, k = m + 2 := ⟨k - 2, by omega⟩
                           exact hx m⟩
theorem so_ev (r a b c d : Int) (h1 : 1 ≤ r) (h2 : r ≤ 13) : Ev (fun k => span_So.f k r a b c d) (soB r a b c d) := by
  simp only [so_is]
  exact is_ev r a b c d h1 h2
theorem spanis_ev (r a b c d : Int) : Ev (fun k => span_Is.f k r a b c d) (if ((mayB a b && mayB c d) && relB r) = true then (soB r a b c d, 0) else (false, 1)) := by
  unfold span_Is.f
  simp only [may_f, rel_f, Option.bind_some]
  cases hm : mayB a b with
  | false => simp only [Bool.false_and, Bool.false_eq_true, if_false]; exact Ev.now _
  | true =>
    refine Ev.ite_pos rfl ?_
    cases hn : mayB c d with
    | false => simp only [Bool.and_false, Bool.false_and, Bool.false_eq_true, if_false]; exact Ev.now _
    | true =>
      refine Ev.ite_pos rfl ?_
      cases hr : relB r with
      | false => simp only [Bool.and_false, Bool.false_eq_true, if_false]; exact Ev.now _
      | true =>
        simp only [Bool.and_self, if_true]
        exact Ev.bind (so_ev r a b c d (rel_of hr).1 (rel_of hr).2) (Ev.now _)
theorem span_ref (a b : Int) : almagestref7_Span.f a b = some (mayB a b) := may_f a b

/-- All relations that are told, in both texts. -/
def relsFrom (a b c d : Int) : Nat → Int → List Int
  | 0, _ => []
  | n + 1, r => (if soB r a b c d = true then [r] else []) ++ relsFrom a b c d n (r + 1)

theorem all_l0 (a b c d : Int) (n : Nat) : ∀ (acc : List Int) (r : Int), (14 : Int) - r = n → 1 ≤ r → acc.length + n ≤ 100 →
    Ev (fun k => span_All.l0 k acc r a b c d) (acc ++ relsFrom a b c d n r, 0) ∧ Ev (fun k => almagestref7_All.l0 k acc r a b c d) (acc ++ relsFrom a b c d n r) := by
  induction n with
  | zero =>
    intro acc r h h1 hl
    simp only [relsFrom, List.append_nil]
    exact ⟨Ev.step (fun k => rfl) (Ev.ite_neg (by omega) (Ev.now _)), Ev.step (fun k => rfl) (Ev.ite_neg (by omega) (Ev.now _))⟩
  | succ n ih =>
    intro acc r h h1 hl
    have hs := so_ev r a b c d h1 (by omega)
    have hi := is_ev r a b c d h1 (by omega)
    have e : wrap64 (r + 1) = r + 1 := wrap_succ (by omega) (by omega)
    simp only [relsFrom]
    cases hb : soB r a b c d with
    | true =>
      obtain ⟨i1, i2⟩ := ih (acc ++ [r]) (r + 1) (by omega) (by omega) (by simp; omega)
      rw [hb] at hs hi
      simp only [if_true, ← List.append_assoc]
      refine ⟨Ev.step (fun k => rfl) (Ev.ite_pos (by omega) (Ev.bind (a := true) hs (Ev.ite_pos rfl (Ev.ite_pos (by omega) ?_)))), Ev.step (fun k => rfl) (Ev.ite_pos (by omega) (Ev.bind (a := true) hi (Ev.ite_pos rfl (Ev.ite_pos (by omega) ?_))))⟩
      · rw [e]; exact i1
      · rw [e]; exact i2
    | false =>
      obtain ⟨i1, i2⟩ := ih acc (r + 1) (by omega) (by omega) (by omega)
      rw [hb] at hs hi
      simp only [Bool.false_eq_true, if_false, List.nil_append]
      refine ⟨Ev.step (fun k => rfl) (Ev.ite_pos (by omega) (Ev.bind (a := false) hs (Ev.ite_neg (by simp) ?_))), Ev.step (fun k => rfl) (Ev.ite_pos (by omega) (Ev.bind (a := false) hi (Ev.ite_neg (by simp) ?_)))⟩
      · rw [e]; exact i1
      · rw [e]; exact i2

def rels (a b c d : Int) : List Int := relsFrom a b c d 13 1
theorem rels_len (a b c d : Int) : ∀ n r, (relsFrom a b c d n r).length ≤ n := by
  intro n
  induction n with
  | zero => intro r; simp [relsFrom]
  | succ n ih =>
    intro r
    simp only [relsFrom, List.length_append]
    have := ih (r + 1)
    split <;> simp <;> omega

theorem all_ev (a b c d : Int) : Ev (fun k => span_All.f k a b c d) (if (mayB a b && mayB c d) = true then (rels a b c d, 0) else ([], 1)) := by
  unfold span_All.f
  refine Ev.bindc (may_f a b) ?_
  have bad : Ev (fun k => span_All.j0 k true a b c d) ([], 1) := by
    refine Ev.succ ?_
    simp only [span_All.j0]
    exact Ev.ite_pos trivial (Ev.now _)
  cases h1 : mayB a b with
  | false =>
    simp only [Bool.false_and, Bool.false_eq_true, if_false]
    exact bad
  | true =>
    refine Ev.ite_pos rfl (Ev.bindc (may_f c d) ?_)
    cases h2 : mayB c d with
    | false =>
      simp only [Bool.and_false, Bool.false_eq_true, if_false]
      exact bad
    | true =>
      simp only [Bool.and_self, if_true]
      refine Ev.succ ?_
      simp only [span_All.j0, Bool.not_true]
      exact Ev.ite_neg (by simp) (all_l0 a b c d 13 [] 1 (by omega) (by omega) (by simp)).1

theorem eq_self (l : List Int) (hl : l.length ≤ 1000) (n : Nat) : ∀ i : Int, 0 ≤ i → i ≤ l.length → (l.length : Int) - i = n → Ev (fun k => almagestref0_EqNumbers.l0 k l l i) true := by
  induction n with
  | zero =>
    intro i h0 h1 hd
    exact Ev.step (fun k => rfl) (Ev.ite_neg (by omega) (Ev.now _))
  | succ n ih =>
    intro i h0 h1 hd
    have hlt : i < (l.length : Int) := by omega
    refine Ev.step (fun k => rfl) (Ev.ite_pos hlt (Ev.ite_pos h0 (Ev.ite_pos hlt (Ev.ite_pos rfl ?_))))
    rw [wrap_succ h0 (by omega)]
    exact ih (i + 1) (by omega) (by omega) (by omega)
theorem eqn_ev (l : List Int) (hl : l.length ≤ 1000) : Ev (fun k => almagestref0_EqNumbers.f k l l) true := by
  unfold almagestref0_EqNumbers.f
  exact Ev.ite_pos rfl (eq_self l hl l.length 0 (by omega) (by omega) (by omega))

theorem rel_ref (r : Int) : almagestref7_Rel.f r = some (relB r) := by
  unfold almagestref7_Rel.f almagestref0_Between.f relB
  by_cases h : r ≥ 1
  · rw [if_pos h]; simp [show (1 : Int) ≤ r from h]
  · rw [if_neg h]; simp [show ¬ (1 : Int) ≤ r from h]

theorem num_f (e : Int) : almagestlaw7_num.f e = some e := rfl

section
variable (S : List S30) (R : List Int) (T : List ByteArray)

theorem l2_ev (i j : Int) (hi0 : 0 ≤ i) (hj0 : 0 ≤ j) (hj : j < 9223372036854775807) (a b c d : Int) (hnext : Ev (fun k => almagestlaw7_SpanLies.l1 k i (j + 1) S R T) true) (n : Nat) :
    ∀ r : Int, -1 ≤ r → (16 : Int) - r = n → Ev (fun k => almagestlaw7_SpanLies.l2 k i j (mayB a b && mayB c d) r S R T a b c d) true := by
  induction n with
  | zero =>
    intro r h0 hd
    refine Ev.step (fun k => rfl) (Ev.ite_neg (by omega) (Ev.bind (all_ev a b c d) (Ev.bindc (hull_f a b c d) ?_)))
    have fin : ∀ (l m : List Int) (e w h0 h1 : Int), Ev (fun k => almagestref0_EqNumbers.f k l m) true → e = w → Ev (fun k => almagestlaw7_SpanLies.j7 k i j l e e w m S R T h0 h1 h0 h1) true := by
      intro l m e w h0 h1 hq he
      refine Ev.succ ?_
      simp only [almagestlaw7_SpanLies.j7, num_f, Option.bind_some]
      refine Ev.ite_pos he (Ev.ite_pos he (Ev.bind (a := true) hq (Ev.ite_pos rfl (Ev.ite_neg (by simp) ?_))))
      rw [wrap_succ hj0 hj]
      exact hnext
    cases hm : (mayB a b && mayB c d) with
    | true =>
      simp only [if_true]
      refine Ev.bind (a := rels a b c d) (all_l0 a b c d 13 [] 1 (by omega) (by omega) (by simp)).2 ?_
      refine Ev.bindc (a := (mn a c, mx b d)) rfl ?_
      exact fin _ _ _ _ _ _ (eqn_ev _ (by have := rels_len a b c d 13 1; unfold rels; omega)) rfl
    | false =>
      simp only [Bool.false_eq_true, if_false]
      exact fin _ _ _ _ _ _ (eqn_ev [] (by simp)) rfl
  | succ n ih =>
    intro r h0 hd
    have e : wrap64 (r + 1) = r + 1 := wrap_id (by omega) (by omega)
    have hn := ih (r + 1) (by omega) (by omega)
    refine Ev.step (fun k => rfl) (Ev.ite_pos (by omega) ?_)
    cases hm : (mayB a b && mayB c d) with
    | true =>
      rw [hm] at hn
      refine Ev.bind (spanis_ev r a b c d) (Ev.ite_pos rfl (Ev.bindc (rel_ref r) ?_))
      rw [hm]
      cases hr : relB r with
      | true =>
        have hrr := rel_of hr
        refine Ev.succ ?_
        simp only [almagestlaw7_SpanLies.j6, num_f, Option.bind_some, Bool.and_self, if_true]
        refine Ev.bind (is_ev r a b c d hrr.1 hrr.2) (Ev.ite_neg (by simp) ?_)
        rw [e]; exact hn
      | false =>
        refine Ev.succ ?_
        simp only [almagestlaw7_SpanLies.j6, num_f, Option.bind_some, Bool.and_false, Bool.false_eq_true, if_false]
        refine Ev.ite_pos trivial (Ev.ite_neg (by simp) ?_)
        rw [e]; exact hn
    | false =>
      rw [hm] at hn
      refine Ev.bind (spanis_ev r a b c d) (Ev.ite_neg (by simp) ?_)
      rw [hm]
      refine Ev.succ ?_
      simp only [almagestlaw7_SpanLies.j6, num_f, Option.bind_some, Bool.false_and, Bool.false_eq_true, if_false]
      refine Ev.ite_pos trivial (Ev.ite_neg (by simp) ?_)
      rw [e]; exact hn

theorem l1_ev (hS : S.length ≤ 200) (i : Int) (hi0 : 0 ≤ i) (hi : i < S.length) (hnext : Ev (fun k => almagestlaw7_SpanLies.l0 k (i + 1) S R T) true) (n : Nat) : ∀ j : Int, 0 ≤ j → (6 : Int) - j = n → Ev (fun k => almagestlaw7_SpanLies.l1 k i j S R T) true := by
  have out : ∀ j : Int, Ev (fun k => almagestlaw7_SpanLies.j3 k i j false S R T) true := by
    intro j
    refine Ev.succ ?_
    simp only [almagestlaw7_SpanLies.j3]
    refine Ev.ite_neg (by simp) ?_
    rw [wrap_succ hi0 (by omega)]
    exact hnext
  induction n with
  | zero =>
    intro j h0 hd
    refine Ev.step (fun k => rfl) (Ev.ite (fun _ => ?_) (fun _ => out j))
    rw [decide_eq_false (by omega)]
    exact out j
  | succ n ih =>
    intro j h0 hd
    refine Ev.step (fun k => rfl) (Ev.ite (fun hlt => ?_) (fun _ => out j))
    rw [decide_eq_true (by omega)]
    have hn := ih (j + 1) (by omega) (by omega)
    refine Ev.succ ?_
    simp only [almagestlaw7_SpanLies.j3, span_ref, Option.bind_some]
    refine Ev.ite_pos trivial (Ev.ite_pos hi0 (Ev.ite_pos hi (Ev.ite_pos h0 (Ev.ite_pos hlt ?_))))
    have h2 := fun a b c d => l2_ev S R T i j hi0 h0 (by omega) a b c d hn 17 (-1) (by omega) (by omega)
    have h3 : Ev (fun k => almagestlaw7_SpanLies.j4 k i j (mayB (rd_T30 S i).f0 (rd_T30 S i).f1 && mayB (rd_T30 S j).f0 (rd_T30 S j).f1) S R T (rd_T30 S i).f0 (rd_T30 S i).f1 (rd_T30 S j).f0 (rd_T30 S j).f1) true := Ev.step (fun k => rfl) (h2 _ _ _ _)
    refine Ev.ite (fun h => ?_) (fun h => ?_)
    · rw [h, Bool.true_and] at h3; exact h3
    · rw [Bool.eq_false_iff.2 h, Bool.false_and] at h3; exact h3

theorem l0_ev (hS : S.length ≤ 200) (n : Nat) : ∀ i : Int, 0 ≤ i → (6 : Int) - i = n → Ev (fun k => almagestlaw7_SpanLies.l0 k i S R T) true := by
  have out : ∀ i : Int, Ev (fun k => almagestlaw7_SpanLies.j1 k i false S R T) true := by
    intro i
    refine Ev.succ ?_
    simp only [almagestlaw7_SpanLies.j1]
    exact Ev.ite_neg (by simp) (Ev.bind (a := true) (Ev.of almagestlaw7_wakes.mono (k := 30) (by decide +kernel)) (Ev.now _))
  induction n with
  | zero =>
    intro i h0 hd
    refine Ev.step (fun k => rfl) (Ev.ite (fun _ => ?_) (fun _ => out i))
    rw [decide_eq_false (by omega)]
    exact out i
  | succ n ih =>
    intro i h0 hd
    refine Ev.step (fun k => rfl) (Ev.ite (fun hlt => ?_) (fun _ => out i))
    rw [decide_eq_true (by omega)]
    have hn := ih (i + 1) (by omega) (by omega)
    refine Ev.succ ?_
    simp only [almagestlaw7_SpanLies.j1]
    refine Ev.ite_pos trivial (Ev.ite_pos h0 (Ev.ite_pos hlt ?_))
    simp only [span_Check.f, may_f, span_ref, Option.bind_some]
    have h1 := l1_ev S R T hS i h0 hlt hn 6 0 (by omega) (by omega)
    cases mayB (rd_T30 S i).f0 (rd_T30 S i).f1 with
    | true => exact Ev.bindc (a := 0) rfl (Ev.bindc (a := 0) rfl (Ev.ite_neg (by simp) h1))
    | false => exact Ev.bindc (a := 1) rfl (Ev.bindc (a := 1) rfl (Ev.ite_neg (by simp) h1))
end

theorem SpanLies : PureSpanLies := by
  intro S R T _ _ hT
  obtain ⟨b, hb, hS⟩ := heavy_ev S R T hT.2.1
  have h : Ev (fun k => almagestlaw7_SpanLies.f k S R T) true := by
    unfold almagestlaw7_SpanLies.f
    refine Ev.bind hb ?_
    cases b with
    | true => exact Ev.ite_pos rfl (Ev.now _)
    | false => exact Ev.ite_neg (by simp) (l0_ev S R T (hS rfl) 6 0 (by omega) (by omega))
  exact h.rounds
end Go.Proofs.Ytkpbhkejfaejhaa.PureSpanLies
