/- The pure side of the law: of two spans that are no points just one relation is so; turned round it is the turned one; the hull has both within. No condition beyond the reading's own bounds. -/
import Derived.Test.YtkpbhkejfaejhaaA6
import Derived.Test.YtkpbhkejfaejhaaTSpanOne
import Derived.Test.YtkpbhkejfaejhaaEvLib
namespace Go.Proofs.Ytkpbhkejfaejhaa.PureSpanOne
open Go.RowKit Go.Proofs.Ytkpbhkejfaejhaa.A Go.Proofs.YtkpbhkejfaejhaaW.PrintWords Go.Proofs.YtkpbhkejfaejhaaW.PrintLast Go.Proofs.Ytkpbhkejfaejhaa.EvLib
set_option linter.unusedVariables false
/-- How much the texts are: some number. -/
theorem texts_ev (l : List ByteArray) (hl : l.length ≤ 9223372036854775807) (d : Nat) : ∀ (n i : Int), 0 ≤ i → i ≤ l.length → (l.length : Int) - i = d → ∃ r, Ev (fun k => almagestlaw0_Texts.l0 k l n i) r := by
  induction d with
  | zero =>
    intro n i h0 h1 hd
    exact ⟨n, Ev.step (fun k => rfl) (Ev.ite_neg (by omega) (Ev.now _))⟩
  | succ d ih =>
    intro n i h0 h1 hd
    have hlt : i < (l.length : Int) := by omega
    by_cases hn : n < 1048576
    · obtain ⟨r, hr⟩ := ih (wrap64 (n + ((rdOf ByteArray.empty l i).size : Int))) (i + 1) (by omega) (by omega) (by omega)
      refine ⟨r, Ev.step (fun k => rfl) (Ev.ite_pos hlt (Ev.ite_pos hn (Ev.ite_pos h0 ?_)))⟩
      rw [wrap_succ h0 (by omega)]
      exact hr
    · exact ⟨n, Ev.step (fun k => rfl) (Ev.ite_pos hlt (Ev.ite_neg hn (Ev.now _)))⟩

/-- Is all that is played little? Some answer. -/
theorem heavy_ev (S : List S30) (R : List Int) (T : List ByteArray) (hT : T.length ≤ 9223372036854775807) : ∃ b, Ev (fun k => almagestlaw7_Heavy.f k S R T) b ∧ (b = false → S.length ≤ 200) := by
  by_cases h1 : (S.length : Int) > 200
  · exact ⟨true, Ev.ite_pos h1 (Ev.now _), fun h => by cases h⟩
  by_cases h2 : (R.length : Int) > 200
  · exact ⟨true, Ev.ite_neg h1 (Ev.ite_pos h2 (Ev.now _)), fun h => by cases h⟩
  obtain ⟨r, hr⟩ := texts_ev T hT T.length (T.length : Int) 0 (by omega) (by omega) (by omega)
  exact ⟨decide (r > 2000), Ev.ite_neg h1 (Ev.ite_neg h2 (Ev.bind (a := r) hr (Ev.now _))), fun _ => by omega⟩

def mayB (a b : Int) : Bool := decide (-1073741824 ≤ a) && (decide (a ≤ b) && decide (b ≤ 1073741824))
theorem may_f (a b : Int) : span_May.f a b = some (mayB a b) := by
  unfold span_May.f mayB
  by_cases h1 : a ≥ -1073741824
  · rw [if_pos h1]
    by_cases h2 : a ≤ b
    · rw [if_pos h2]; simp [show -1073741824 ≤ a from h1, h2]
    · rw [if_neg h2]; simp [h2]
  · rw [if_neg h1]; simp [show ¬ -1073741824 ≤ a from h1]
def relB (r : Int) : Bool := decide (1 ≤ r) && decide (r ≤ 13)
theorem rel_f (r : Int) : span_Rel.f r = some (relB r) := by
  unfold span_Rel.f relB
  by_cases h : r ≥ 1
  · rw [if_pos h]; simp [show (1 : Int) ≤ r from h]
  · rw [if_neg h]; simp [show ¬ (1 : Int) ≤ r from h]
theorem rel_of {r : Int} (h : relB r = true) : 1 ≤ r ∧ r ≤ 13 := by
  simpa [relB] using h
theorem hull_f (a b c d : Int) : span_Hull.f a b c d = some (if (mayB a b && mayB c d) = true then (mn a c, mx b d, 0) else (0, 0, 1)) := by
  unfold span_Hull.f span_Around.f
  simp only [may_f, Option.bind_some]
  cases mayB a b <;> cases mayB c d <;> rfl

/-- How two numbers lie: 0 less, 1 same, 2 more. -/
def sg (x y : Int) : Nat := if x < y then 0 else if x = y then 1 else 2
theorem sg_cases (x y : Int) : (x < y ∧ sg x y = 0 ∧ sg y x = 2) ∨ (x = y ∧ sg x y = 1 ∧ sg y x = 1) ∨ (y < x ∧ sg x y = 2 ∧ sg y x = 0) := by
  unfold sg
  rcases Int.lt_trichotomy x y with h | h | h
  · exact Or.inl ⟨h, by rw [if_pos h], by rw [if_neg (by omega), if_neg (by omega)]⟩
  · exact Or.inr (Or.inl ⟨h, by rw [if_neg (by omega), if_pos h], by rw [if_neg (by omega), if_pos h.symm]⟩)
  · exact Or.inr (Or.inr ⟨h, by rw [if_neg (by omega), if_neg (by omega)], by rw [if_pos h]⟩)
/-- A relation that is told at once: s1 is b to c, s2 a to c, s3 b to d. -/
def lowS (r : Int) (s1 s2 s3 : Nat) : Bool :=
  if r = 1 then s1 == 0 else if r = 2 then s1 == 1 else if r = 3 then s2 == 0 && (s1 == 2 && s3 == 0) else if r = 4 then s2 == 1 && s3 == 0
  else if r = 5 then s2 == 2 && s3 == 0 else if r = 6 then s3 == 1 && s2 == 2 else s2 == 1 && s3 == 1
theorem lt_sg (x y : Int) : decide (x < y) = (sg x y == 0) := by
  rcases sg_cases x y with ⟨h, e, _⟩ | ⟨h, e, _⟩ | ⟨h, e, _⟩ <;> rw [e] <;> simp <;> omega
theorem gt_sg (x y : Int) : decide (y < x) = (sg x y == 2) := by
  rcases sg_cases x y with ⟨h, e, _⟩ | ⟨h, e, _⟩ | ⟨h, e, _⟩ <;> rw [e] <;> simp <;> omega
theorem eq_sg (x y : Int) : decide (x = y) = (sg x y == 1) := by
  rcases sg_cases x y with ⟨h, e, _⟩ | ⟨h, e, _⟩ | ⟨h, e, _⟩ <;> rw [e] <;> simp <;> omega
theorem beq_sg (x y : Int) : (x == y) = (sg x y == 1) := by
  rw [← eq_sg]; rfl
theorem ite_some {c : Prop} [Decidable c] (b : Bool) : (if c then some b else some false) = some (decide c && b) := by
  by_cases h : c <;> simp [h]
theorem low_f (r a b c d : Int) (h1 : 1 ≤ r) (h2 : r ≤ 7) (k : Nat) : span_So.f (k + 1) r a b c d = some (lowS r (sg b c) (sg a c) (sg b d)) := by
  have h : r = 1 ∨ r = 2 ∨ r = 3 ∨ r = 4 ∨ r = 5 ∨ r = 6 ∨ r = 7 := by omega
  rcases h with rfl | rfl | rfl | rfl | rfl | rfl | rfl
  · show some (decide (b < c)) = _; rw [lt_sg]; rfl
  · show some (b == c) = _; rw [beq_sg]; rfl
  · show (if a < c then (if c < b then some (decide (b < d)) else some false) else some false) = _
    simp only [ite_some]; rw [lt_sg a c, gt_sg b c, lt_sg b d]; rfl
  · show (if a = c then some (decide (b < d)) else some false) = _
    simp only [ite_some]; rw [eq_sg, lt_sg]; rfl
  · show (if c < a then some (decide (b < d)) else some false) = _
    simp only [ite_some]; rw [gt_sg a c, lt_sg]; rfl
  · show (if b = d then some (decide (c < a)) else some false) = _
    simp only [ite_some]; rw [eq_sg, gt_sg a c]; rfl
  · show some (a == c && (b == d)) = _
    rw [beq_sg, beq_sg]; rfl
def soS (r : Int) (s1 s2 s3 s4 : Nat) : Bool := if r ≤ 7 then lowS r s1 s2 s3 else lowS (14 - r) (2 - s4) (2 - s2) (2 - s3)
theorem sg_turn (x y : Int) : sg y x = 2 - sg x y := by
  rcases sg_cases x y with ⟨h, e, f⟩ | ⟨h, e, f⟩ | ⟨h, e, f⟩ <;> rw [e, f]
theorem so_ev (r a b c d : Int) (h1 : 1 ≤ r) (h2 : r ≤ 13) : Ev (fun k => span_So.f k r a b c d) (soS r (sg b c) (sg a c) (sg b d) (sg a d)) := by
  by_cases h7 : r ≤ 7
  · refine ⟨1, fun k hk => ?_⟩
    obtain ⟨m, rfl⟩ : ∃ m, k = m + 1 := ⟨k - 1, by omega⟩
    unfold soS
    rw [if_pos h7]
    exact low_f r a b c d h1 h7 m
  · have e : wrap64 (14 - r) = 14 - r := by unfold wrap64; omega
    refine Ev.step (fun k => rfl) (Ev.ite_neg (by omega) (Ev.ite_neg (by omega) (Ev.ite_neg (by omega) (Ev.ite_neg (by omega) (Ev.ite_neg (by omega) (Ev.ite_neg (by omega) (Ev.ite_neg (by omega) ?_)))))))
    refine Ev.bindc (a := 14 - r) (by unfold span_turn.f; rw [e]) (Ev.bind (a := soS r (sg b c) (sg a c) (sg b d) (sg a d)) ?_ (Ev.now _))
    refine ⟨1, fun k hk => ?_⟩
    obtain ⟨m, rfl⟩ : ∃ m, k = m + 1 := ⟨k - 1, by omega⟩
    unfold soS
    rw [if_neg h7, ← sg_turn, ← sg_turn, ← sg_turn]
    exact low_f (14 - r) c d a b (by omega) (by omega) m

/-- All relations that are told. -/
def relsFrom (s1 s2 s3 s4 : Nat) : Nat → Int → List Int
  | 0, _ => []
  | n + 1, r => (if soS r s1 s2 s3 s4 = true then [r] else []) ++ relsFrom s1 s2 s3 s4 n (r + 1)
def rels (a b c d : Int) : List Int := relsFrom (sg b c) (sg a c) (sg b d) (sg a d) 13 1

theorem all_l0 (a b c d : Int) (n : Nat) : ∀ (acc : List Int) (r : Int), (14 : Int) - r = n → 1 ≤ r → acc.length + n ≤ 100 →
    Ev (fun k => span_All.l0 k acc r a b c d) (acc ++ relsFrom (sg b c) (sg a c) (sg b d) (sg a d) n r, 0) := by
  induction n with
  | zero =>
    intro acc r h h1 hl
    simp only [relsFrom, List.append_nil]
    exact Ev.step (fun k => rfl) (Ev.ite_neg (by omega) (Ev.now _))
  | succ n ih =>
    intro acc r h h1 hl
    have hs := so_ev r a b c d h1 (by omega)
    have e : wrap64 (r + 1) = r + 1 := wrap_succ (by omega) (by omega)
    simp only [relsFrom]
    cases hb : soS r (sg b c) (sg a c) (sg b d) (sg a d) with
    | true =>
      have i1 := ih (acc ++ [r]) (r + 1) (by omega) (by omega) (by simp; omega)
      rw [hb] at hs
      simp only [if_true, ← List.append_assoc]
      refine Ev.step (fun k => rfl) (Ev.ite_pos (by omega) (Ev.bind (a := true) hs (Ev.ite_pos rfl (Ev.ite_pos (by omega) ?_))))
      rw [e]; exact i1
    | false =>
      have i1 := ih acc (r + 1) (by omega) (by omega) (by omega)
      rw [hb] at hs
      simp only [Bool.false_eq_true, if_false, List.nil_append]
      refine Ev.step (fun k => rfl) (Ev.ite_pos (by omega) (Ev.bind (a := false) hs (Ev.ite_neg (by simp) ?_)))
      rw [e]; exact i1

theorem all_ev (a b c d : Int) : Ev (fun k => span_All.f k a b c d) (if (mayB a b && mayB c d) = true then (rels a b c d, 0) else ([], 1)) := by
  unfold span_All.f
  refine Ev.bindc (may_f a b) ?_
  have bad : Ev (fun k => span_All.j0 k true a b c d) ([], 1) := by
    refine Ev.succ ?_
    simp only [span_All.j0]
    exact Ev.ite_pos trivial (Ev.now _)
  cases h1 : mayB a b with
  | false =>
    simp only [Bool.false_and, Bool.false_eq_true, if_false]
    exact bad
  | true =>
    refine Ev.ite_pos rfl (Ev.bindc (may_f c d) ?_)
    cases h2 : mayB c d with
    | false =>
      simp only [Bool.and_false, Bool.false_eq_true, if_false]
      exact bad
    | true =>
      simp only [Bool.and_self, if_true]
      refine Ev.succ ?_
      simp only [span_All.j0, Bool.not_true]
      exact Ev.ite_neg (by simp) (all_l0 a b c d 13 [] 1 (by omega) (by omega) (by simp))

/-- What the law asks of the two lists, by how the ends lie. -/
def good (l m : List Int) (two : Bool) : Bool := l.length == m.length && (l.length != 0 && ((!two || l.length == 1) && (l.all fun r => decide (1 ≤ r) && (decide (r ≤ 13) && m.contains (14 - r)))))
theorem good_of (a b c d : Int) (h1 : a ≤ b) (h2 : c ≤ d) : good (rels a b c d) (rels c d a b) (decide (a < b) && decide (c < d)) = true := by
  unfold rels
  rcases sg_cases b c with ⟨x1, e1, f1⟩ | ⟨x1, e1, f1⟩ | ⟨x1, e1, f1⟩ <;>
  rcases sg_cases a c with ⟨x2, e2, f2⟩ | ⟨x2, e2, f2⟩ | ⟨x2, e2, f2⟩ <;>
  rcases sg_cases b d with ⟨x3, e3, f3⟩ | ⟨x3, e3, f3⟩ | ⟨x3, e3, f3⟩ <;>
  rcases sg_cases a d with ⟨x4, e4, f4⟩ | ⟨x4, e4, f4⟩ | ⟨x4, e4, f4⟩ <;>
  first
  | (exfalso; omega)
  | (rw [e1, e2, e3, e4, f1, f2, f3, f4]
     rcases Int.lt_or_le a b with y1 | y1 <;> rcases Int.lt_or_le c d with y2 | y2 <;>
     first
     | (exfalso; omega)
     | (simp only [y1, y2, decide_true, Bool.and_self]; decide +kernel)
     | (rw [decide_eq_false (by omega : ¬ a < b)]; simp only [Bool.false_and]; decide +kernel)
     | (rw [decide_eq_false (by omega : ¬ c < d)]; simp only [Bool.and_false]; decide +kernel))

theorem num_f (e : Int) : almagestlaw7_num.f e = some e := rfl
theorem turn_f (r : Int) (h1 : 1 ≤ r) (h2 : r ≤ 13) : span_Turn.f r = some (14 - r, 0) := by
  unfold span_Turn.f span_turn.f
  rw [rel_f, show relB r = true by simp [relB, h1, h2], show wrap64 (14 - r) = 14 - r by unfold wrap64; omega]
  rfl
theorem rd_list (l : List Int) (i : Int) (h0 : 0 ≤ i) (h1 : i < l.length) : rd l i ∈ l := by
  unfold rd
  rw [List.getD_eq_getElem?_getD, List.getElem?_eq_getElem (by omega : i.toNat < l.length)]
  exact List.getElem_mem _
/-- Where a number is: found from i on. -/
theorem in_ev (m : List Int) (hm : m.length ≤ 1000) (x : Int) (n : Nat) : ∀ i : Int, 0 ≤ i → i ≤ m.length → (m.length : Int) - i = n → x ∈ m.drop i.toNat → ∃ q, 0 ≤ q ∧ Ev (fun k => almagestref0_In.l0 k m x i) q := by
  induction n with
  | zero =>
    intro i h0 h1 hd hx
    rw [List.drop_of_length_le (by omega)] at hx
    simp at hx
  | succ n ih =>
    intro i h0 h1 hd hx
    have hlt : i < (m.length : Int) := by omega
    by_cases e : rd m i = x
    · exact ⟨i, h0, Ev.step (fun k => rfl) (Ev.ite_pos hlt (Ev.ite_pos h0 (Ev.ite_pos e (Ev.now _))))⟩
    · have hx' : x ∈ m.drop (i + 1).toNat := by
        rw [List.drop_eq_getElem_cons (by omega : i.toNat < m.length)] at hx
        rcases List.mem_cons.1 hx with h | h
        · exfalso; apply e
          unfold rd
          rw [List.getD_eq_getElem?_getD, List.getElem?_eq_getElem (by omega : i.toNat < m.length)]
          exact h.symm
        · rw [show (i + 1).toNat = i.toNat + 1 by omega]; exact h
      obtain ⟨q, hq, h⟩ := ih (i + 1) (by omega) (by omega) (by omega) hx'
      refine ⟨q, hq, Ev.step (fun k => rfl) (Ev.ite_pos hlt (Ev.ite_pos h0 (Ev.ite_neg e ?_)))⟩
      rw [wrap_succ h0 (by omega)]
      exact h

section
variable (S : List S30) (R : List Int) (T : List ByteArray)

theorem l2_ev (i j : Int) (hj0 : 0 ≤ j) (hj : j < 9223372036854775807) (l m : List Int) (hl : l.length ≤ 1000) (hm : m.length ≤ 1000) (hall : ∀ r ∈ l, 1 ≤ r ∧ r ≤ 13 ∧ 14 - r ∈ m)
    (hnext : Ev (fun k => almagestlaw7_SpanOne.l1 k i (j + 1) S R T) true) (n : Nat) : ∀ q : Int, 0 ≤ q → q ≤ l.length → (l.length : Int) - q = n → Ev (fun k => almagestlaw7_SpanOne.l2 k i j l m q S R T) true := by
  induction n with
  | zero =>
    intro q h0 h1 hd
    refine Ev.step (fun k => rfl) (Ev.ite_neg (by omega) ?_)
    rw [wrap_succ hj0 hj]; exact hnext
  | succ n ih =>
    intro q h0 h1 hd
    have hlt : q < (l.length : Int) := by omega
    obtain ⟨r1, r2, r3⟩ := hall _ (rd_list l q h0 hlt)
    obtain ⟨p, hp, hin⟩ := in_ev m hm (14 - rd l q) m.length 0 (by omega) (by omega) (by omega) (by simpa using r3)
    refine Ev.step (fun k => rfl) (Ev.ite_pos hlt (Ev.ite_pos h0 (Ev.bindc (turn_f _ r1 r2) (Ev.bindc (a := 0) rfl (Ev.ite_pos rfl (Ev.bind (a := p) hin (Ev.ite_neg (by omega) ?_)))))))
    rw [wrap_succ h0 (by omega)]
    exact ih (q + 1) (by omega) (by omega) (by omega)

theorem rels_len (s1 s2 s3 s4 : Nat) : ∀ n r, (relsFrom s1 s2 s3 s4 n r).length ≤ n := by
  intro n
  induction n with
  | zero => intro r; simp [relsFrom]
  | succ n ih =>
    intro r
    simp only [relsFrom, List.length_append]
    have := ih (r + 1)
    split <;> simp <;> omega

theorem pair_ev (i j : Int) (hi0 : 0 ≤ i) (hi : i < S.length) (hj0 : 0 ≤ j) (hj : j < S.length) (hS : S.length ≤ 200) (hnext : Ev (fun k => almagestlaw7_SpanOne.l1 k i (j + 1) S R T) true) :
    Ev (fun k => almagestlaw7_SpanOne.j3 k i j true S R T) true := by
  have hw : wrap64 (j + 1) = j + 1 := wrap_succ hj0 (by omega)
  refine Ev.succ ?_
  simp only [almagestlaw7_SpanOne.j3]
  refine Ev.ite_pos trivial (Ev.ite_pos hi0 (Ev.ite_pos hi (Ev.ite_pos hj0 (Ev.ite_pos hj ?_))))
  generalize (rd_T30 S i).f0 = a
  generalize (rd_T30 S i).f1 = b
  generalize (rd_T30 S j).f0 = c
  generalize (rd_T30 S j).f1 = d
  refine Ev.bind (all_ev a b c d) (Ev.bind (all_ev c d a b) (Ev.bindc (hull_f a b c d) ?_))
  rw [Bool.and_comm (mayB c d)]
  cases hm : (mayB a b && mayB c d) with
  | false =>
    simp only [Bool.false_eq_true, if_false]
    refine Ev.bindc (a := 1) rfl (Ev.ite_neg (by omega) ?_)
    rw [hw]; exact hnext
  | true =>
    simp only [if_true]
    have hab : a ≤ b ∧ c ≤ d := by
      simp only [mayB, Bool.and_eq_true, decide_eq_true_eq] at hm
      omega
    have hg := good_of a b c d hab.1 hab.2
    simp only [good, Bool.and_eq_true, Bool.or_eq_true, beq_iff_eq, bne_iff_ne, ne_eq, List.all_eq_true, List.contains_iff_mem, decide_eq_true_eq, Bool.not_eq_true'] at hg
    obtain ⟨g1, g2, g3, g4⟩ := hg
    have L1 : (rels a b c d).length ≤ 13 := rels_len _ _ _ _ 13 1
    have L2 : (rels c d a b).length ≤ 13 := rels_len _ _ _ _ 13 1
    have fin : Ev (fun k => almagestlaw7_SpanOne.j4 k i j (rels a b c d) (rels c d a b) false S R T) true := by
      refine Ev.succ ?_
      simp only [almagestlaw7_SpanOne.j4]
      refine Ev.ite_neg (by simp) ?_
      exact l2_ev S R T i j hj0 (by omega) _ _ (by omega) (by omega) (fun r hr => by obtain ⟨q1, q2, q3⟩ := g4 r hr; exact ⟨q1, q2, q3⟩) hnext _ 0 (by omega) (by omega) rfl
    have fin' : ∀ e : Bool, e = false → Ev (fun k => almagestlaw7_SpanOne.j4 k i j (rels a b c d) (rels c d a b) e S R T) true := fun e h => by rw [h]; exact fin
    have m1 : ¬ mn a c > a := by unfold mn; omega
    have m2 : ¬ mn a c > c := by unfold mn; omega
    have m3 : ¬ mx b d < b := by unfold mx; omega
    have m4 : decide (mx b d < d) = false := decide_eq_false (by unfold mx; omega)
    refine Ev.bindc (a := 0) rfl (Ev.ite_pos rfl (Ev.bindc (a := 0) rfl (Ev.ite_pos rfl (Ev.bindc (a := 0) rfl (Ev.ite_pos rfl (Ev.ite_pos (by omega) (Ev.ite_neg (by omega) ?_)))))))
    refine Ev.ite (fun x1 => Ev.ite (fun x2 => ?_) (fun x2 => ?_)) (fun x1 => ?_)
    · have one : (rels a b c d).length = 1 := by
        rcases g3 with g3 | g3
        · simp [x1, x2] at g3
        · exact g3
      exact Ev.ite_pos (by omega) (Ev.ite_neg m1 (Ev.ite_neg m2 (Ev.ite_neg m3 (fin' _ m4))))
    · exact Ev.ite_neg m1 (Ev.ite_neg m2 (Ev.ite_neg m3 (fin' _ m4)))
    · exact Ev.ite_neg m1 (Ev.ite_neg m2 (Ev.ite_neg m3 (fin' _ m4)))

theorem l1_ev (hS : S.length ≤ 200) (i : Int) (hi0 : 0 ≤ i) (hi : i < S.length) (hnext : Ev (fun k => almagestlaw7_SpanOne.l0 k (i + 1) S R T) true) (n : Nat) : ∀ j : Int, 0 ≤ j → (6 : Int) - j = n → Ev (fun k => almagestlaw7_SpanOne.l1 k i j S R T) true := by
  have out : ∀ j : Int, Ev (fun k => almagestlaw7_SpanOne.j3 k i j false S R T) true := by
    intro j
    refine Ev.succ ?_
    simp only [almagestlaw7_SpanOne.j3]
    refine Ev.ite_neg (by simp) ?_
    rw [wrap_succ hi0 (by omega)]
    exact hnext
  induction n with
  | zero =>
    intro j h0 hd
    refine Ev.step (fun k => rfl) (Ev.ite (fun _ => ?_) (fun _ => out j))
    rw [decide_eq_false (by omega)]
    exact out j
  | succ n ih =>
    intro j h0 hd
    refine Ev.step (fun k => rfl) (Ev.ite (fun hlt => ?_) (fun _ => out j))
    rw [decide_eq_true (by omega)]
    exact pair_ev S R T i j hi0 hi h0 hlt hS (ih (j + 1) (by omega) (by omega))

theorem l0_ev (hS : S.length ≤ 200) (n : Nat) : ∀ i : Int, 0 ≤ i → (6 : Int) - i = n → Ev (fun k => almagestlaw7_SpanOne.l0 k i S R T) true := by
  have out : ∀ i : Int, Ev (fun k => almagestlaw7_SpanOne.j1 k i false S R T) true := by
    intro i
    refine Ev.succ ?_
    simp only [almagestlaw7_SpanOne.j1]
    exact Ev.ite_neg (by simp) (Ev.bind (a := true) (Ev.of almagestlaw7_wakes.mono (k := 30) (by decide +kernel)) (Ev.now _))
  induction n with
  | zero =>
    intro i h0 hd
    refine Ev.step (fun k => rfl) (Ev.ite (fun _ => ?_) (fun _ => out i))
    rw [decide_eq_false (by omega)]
    exact out i
  | succ n ih =>
    intro i h0 hd
    refine Ev.step (fun k => rfl) (Ev.ite (fun hlt => ?_) (fun _ => out i))
    rw [decide_eq_true (by omega)]
    refine Ev.succ ?_
    simp only [almagestlaw7_SpanOne.j1]
    exact Ev.ite_pos trivial (l1_ev S R T hS i h0 hlt (ih (i + 1) (by omega) (by omega)) 6 0 (by omega) (by omega))
end

theorem SpanOne : PureSpanOne := by
  intro S R T _ _ hT
  obtain ⟨b, hb, hS⟩ := heavy_ev S R T hT.2.1
  have h : Ev (fun k => almagestlaw7_SpanOne.f k S R T) true := by
    unfold almagestlaw7_SpanOne.f
    refine Ev.bind hb ?_
    cases b with
    | true => exact Ev.ite_pos rfl (Ev.now _)
    | false => exact Ev.ite_neg (by simp) (l0_ev S R T (hS rfl) 6 0 (by omega) (by omega))
  exact h.rounds
end Go.Proofs.Ytkpbhkejfaejhaa.PureSpanOne
