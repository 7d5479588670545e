/- A printed function, laid apart from its walk. -/
import Derived.Test.YtkpbhkejfaejhaaPSpanLiesx0
import Derived.Test.YtkpbhkejfaejhaaPSpanLiesx1
import Derived.Test.YtkpbhkejfaejhaaPSpanLiesx2
import Derived.Test.YtkpbhkejfaejhaaPSpanLiesx3
import Derived.Test.YtkpbhkejfaejhaaPSpanLiesx4
namespace Go.Proofs.Ytkpbhkejfaejhaa.PSpanLies
open Go.RowKit Go.Proofs.YtkpbhkejfaejhaaW.PrintWords Go.Proofs.YtkpbhkejfaejhaaW.PrintLast Go.Proofs.YtkpbhkejfaejhaaW.PrintMore
attribute [local go_sem] max2_int min2_int max_two min_two max_three min_three max_four min_four   -- for this text's walks alone
set_option linter.unusedVariables false
set_option linter.unusedSimpArgs false

attribute [local go_sem high] eqA30
/-! ### almagestlaw7_SpanLies: function 17 -/
mutual
def almagestlaw7_SpanLies.l0 : Nat → Int → List (S30) → List Int → List ByteArray → Option (Bool)
 | 0, _, _, _, _ => none
 | k + 1, x3, x162000, x162001, x162002 => if x3 < (x162000.length : Int) then (almagestlaw7_SpanLies.j1 k x3 (decide (x3 < 6)) x162000 x162001 x162002) else (almagestlaw7_SpanLies.j1 k x3 false x162000 x162001 x162002)
def almagestlaw7_SpanLies.j1 : Nat → Int → Bool → List (S30) → List Int → List ByteArray → Option (Bool)
 | 0, _, _, _, _, _ => none
 | k + 1, x3, x30, x162000, x162001, x162002 => if x30 = true then (if 0 ≤ x3 then (if x3 < (x162000.length : Int) then ((span_Check.f ((rd_T30 x162000 x3).f0) ((rd_T30 x162000 x3).f1)).bind fun t165 => ((almagestlaw7_num.f t165).bind fun t166 => ((almagestref7_Span.f ((rd_T30 x162000 x3).f0) ((rd_T30 x162000 x3).f1)).bind fun t168 => (if ((t166 == 0) != t168) = true then (some false) else (almagestlaw7_SpanLies.l1 k x3 0 x162000 x162001 x162002))))) else (none)) else (none)) else ((almagestlaw7_wakes.f k).bind fun t163 => (some t163))
def almagestlaw7_SpanLies.l1 : Nat → Int → Int → List (S30) → List Int → List ByteArray → Option (Bool)
 | 0, _, _, _, _, _ => none
 | k + 1, x3, x4, x162000, x162001, x162002 => if x4 < (x162000.length : Int) then (almagestlaw7_SpanLies.j3 k x3 x4 (decide (x4 < 6)) x162000 x162001 x162002) else (almagestlaw7_SpanLies.j3 k x3 x4 false x162000 x162001 x162002)
def almagestlaw7_SpanLies.j3 : Nat → Int → Int → Bool → List (S30) → List Int → List ByteArray → Option (Bool)
 | 0, _, _, _, _, _, _ => none
 | k + 1, x3, x4, x56, x162000, x162001, x162002 => if x56 = true then (if 0 ≤ x3 then (if x3 < (x162000.length : Int) then (if 0 ≤ x4 then (if x4 < (x162000.length : Int) then ((almagestref7_Span.f ((rd_T30 x162000 x3).f0) ((rd_T30 x162000 x3).f1)).bind fun t173 => (if t173 = true then ((almagestref7_Span.f ((rd_T30 x162000 x4).f0) ((rd_T30 x162000 x4).f1)).bind fun t174 => (almagestlaw7_SpanLies.j4 k x3 x4 t174 x162000 x162001 x162002 ((rd_T30 x162000 x3).f0) ((rd_T30 x162000 x3).f1) ((rd_T30 x162000 x4).f0) ((rd_T30 x162000 x4).f1))) else (almagestlaw7_SpanLies.j4 k x3 x4 false x162000 x162001 x162002 ((rd_T30 x162000 x3).f0) ((rd_T30 x162000 x3).f1) ((rd_T30 x162000 x4).f0) ((rd_T30 x162000 x4).f1)))) else (none)) else (none)) else (none)) else (none)) else (almagestlaw7_SpanLies.l0 k (wrap64 (x3 + 1)) x162000 x162001 x162002)
def almagestlaw7_SpanLies.j4 : Nat → Int → Int → Bool → List (S30) → List Int → List ByteArray → Int → Int → Int → Int → Option (Bool)
 | 0, _, _, _, _, _, _, _, _, _, _ => none
 | k + 1, x3, x4, x7, x162000, x162001, x162002, x172000, x172001, x173000, x173001 => almagestlaw7_SpanLies.l2 k x3 x4 x7 (-1) x162000 x162001 x162002 x172000 x172001 x173000 x173001
def almagestlaw7_SpanLies.l2 : Nat → Int → Int → Bool → Int → List (S30) → List Int → List ByteArray → Int → Int → Int → Int → Option (Bool)
 | 0, _, _, _, _, _, _, _, _, _, _, _ => none
 | k + 1, x3, x4, x7, x8, x162000, x162001, x162002, x172000, x172001, x173000, x173001 => if x8 ≤ 15 then ((span_Is.f k x8 x172000 x172001 x173000 x173001).bind fun bt175 => (if x7 = true then ((almagestref7_Rel.f x8).bind fun t177 => (almagestlaw7_SpanLies.j6 k x3 x4 x7 x8 bt175.1 bt175.2 1 false t177 x162000 x162001 x162002 x172000 x172001 x173000 x173001)) else (almagestlaw7_SpanLies.j6 k x3 x4 x7 x8 bt175.1 bt175.2 1 false false x162000 x162001 x162002 x172000 x172001 x173000 x173001))) else ((span_All.f k x172000 x172001 x173000 x173001).bind fun bt181 => ((span_Hull.f x172000 x172001 x173000 x173001).bind fun bt185 => (if x7 = true then ((almagestref7_All.f k x172000 x172001 x173000 x173001).bind fun t190 => ((almagestref7_Hull.f x172000 x172001 x173000 x173001).bind fun bt193 => (almagestlaw7_SpanLies.j7 k x3 x4 bt181.1 bt181.2 bt185.2.2 0 t190 x162000 x162001 x162002 bt185.1 bt185.2.1 bt193.1 bt193.2))) else (almagestlaw7_SpanLies.j7 k x3 x4 bt181.1 bt181.2 bt185.2.2 1 ([] : List Int) x162000 x162001 x162002 bt185.1 bt185.2.1 0 0))))
def almagestlaw7_SpanLies.j6 : Nat → Int → Int → Bool → Int → Bool → Int → Int → Bool → Bool → List (S30) → List Int → List ByteArray → Int → Int → Int → Int → Option (Bool)
 | 0, _, _, _, _, _, _, _, _, _, _, _, _, _, _, _, _ => none
 | k + 1, x3, x4, x7, x8, x9, x10, x11, x12, x90, x162000, x162001, x162002, x172000, x172001, x173000, x173001 => if x90 = true then ((almagestref7_Is.f k x8 x172000 x172001 x173000 x173001).bind fun t178 => ((almagestlaw7_num.f x10).bind fun t179 => (if t179 = 0 then (if (x9 != t178) = true then (some false) else (almagestlaw7_SpanLies.l2 k x3 x4 x7 (wrap64 (x8 + 1)) x162000 x162001 x162002 x172000 x172001 x173000 x173001)) else (some false)))) else ((almagestlaw7_num.f x10).bind fun t180 => (if t180 = x11 then (if (x9 != x12) = true then (some false) else (almagestlaw7_SpanLies.l2 k x3 x4 x7 (wrap64 (x8 + 1)) x162000 x162001 x162002 x172000 x172001 x173000 x173001)) else (some false)))
def almagestlaw7_SpanLies.j7 : Nat → Int → Int → List Int → Int → Int → Int → List Int → List (S30) → List Int → List ByteArray → Int → Int → Int → Int → Option (Bool)
 | 0, _, _, _, _, _, _, _, _, _, _, _, _, _, _ => none
 | k + 1, x3, x4, x13, x14, x16, x17, x19, x162000, x162001, x162002, x189000, x189001, x190000, x190001 => (almagestlaw7_num.f x14).bind fun t195 => (if t195 = x17 then ((almagestlaw7_num.f x16).bind fun t196 => (if t196 = x17 then ((almagestref0_EqNumbers.f k x13 x19).bind fun t197 => (if t197 = true then (if (!(x189000 == x190000) || (!(x189001 == x190001))) = true then (some false) else (almagestlaw7_SpanLies.l1 k x3 (wrap64 (x4 + 1)) x162000 x162001 x162002)) else (some false))) else (some false))) else (some false))
end
def almagestlaw7_SpanLies.f (k : Nat) (l0_0 : List (S30)) (l0_1 : List Int) (l0_2 : List ByteArray) : Option (Bool) := (almagestlaw7_Heavy.f k l0_0 l0_1 l0_2).bind fun t162 => (if t162 = true then (some true) else (almagestlaw7_SpanLies.l0 k 0 l0_0 l0_1 l0_2))
theorem almagestlaw7_SpanLies.mono_l : ∀ k, (∀ y0 y1 y2 y3, LeO (almagestlaw7_SpanLies.l0 k y0 y1 y2 y3) (almagestlaw7_SpanLies.l0 (k + 1) y0 y1 y2 y3)) ∧ (∀ y0 y1 y2 y3 y4, LeO (almagestlaw7_SpanLies.j1 k y0 y1 y2 y3 y4) (almagestlaw7_SpanLies.j1 (k + 1) y0 y1 y2 y3 y4)) ∧ (∀ y0 y1 y2 y3 y4, LeO (almagestlaw7_SpanLies.l1 k y0 y1 y2 y3 y4) (almagestlaw7_SpanLies.l1 (k + 1) y0 y1 y2 y3 y4)) ∧ (∀ y0 y1 y2 y3 y4 y5, LeO (almagestlaw7_SpanLies.j3 k y0 y1 y2 y3 y4 y5) (almagestlaw7_SpanLies.j3 (k + 1) y0 y1 y2 y3 y4 y5)) ∧ (∀ y0 y1 y2 y3 y4 y5 y6 y7 y8 y9, LeO (almagestlaw7_SpanLies.j4 k y0 y1 y2 y3 y4 y5 y6 y7 y8 y9) (almagestlaw7_SpanLies.j4 (k + 1) y0 y1 y2 y3 y4 y5 y6 y7 y8 y9)) ∧ (∀ y0 y1 y2 y3 y4 y5 y6 y7 y8 y9 y10, LeO (almagestlaw7_SpanLies.l2 k y0 y1 y2 y3 y4 y5 y6 y7 y8 y9 y10) (almagestlaw7_SpanLies.l2 (k + 1) y0 y1 y2 y3 y4 y5 y6 y7 y8 y9 y10)) ∧ (∀ y0 y1 y2 y3 y4 y5 y6 y7 y8 y9 y10 y11 y12 y13 y14 y15, LeO (almagestlaw7_SpanLies.j6 k y0 y1 y2 y3 y4 y5 y6 y7 y8 y9 y10 y11 y12 y13 y14 y15) (almagestlaw7_SpanLies.j6 (k + 1) y0 y1 y2 y3 y4 y5 y6 y7 y8 y9 y10 y11 y12 y13 y14 y15)) ∧ (∀ y0 y1 y2 y3 y4 y5 y6 y7 y8 y9 y10 y11 y12 y13, LeO (almagestlaw7_SpanLies.j7 k y0 y1 y2 y3 y4 y5 y6 y7 y8 y9 y10 y11 y12 y13) (almagestlaw7_SpanLies.j7 (k + 1) y0 y1 y2 y3 y4 y5 y6 y7 y8 y9 y10 y11 y12 y13))
 | 0 => ⟨fun _ _ _ _ r h => by simp [almagestlaw7_SpanLies.l0] at h, fun _ _ _ _ _ r h => by simp [almagestlaw7_SpanLies.j1] at h, fun _ _ _ _ _ r h => by simp [almagestlaw7_SpanLies.l1] at h, fun _ _ _ _ _ _ r h => by simp [almagestlaw7_SpanLies.j3] at h, fun _ _ _ _ _ _ _ _ _ _ r h => by simp [almagestlaw7_SpanLies.j4] at h, fun _ _ _ _ _ _ _ _ _ _ _ r h => by simp [almagestlaw7_SpanLies.l2] at h, fun _ _ _ _ _ _ _ _ _ _ _ _ _ _ _ _ r h => by simp [almagestlaw7_SpanLies.j6] at h, fun _ _ _ _ _ _ _ _ _ _ _ _ _ _ r h => by simp [almagestlaw7_SpanLies.j7] at h⟩
 | k + 1 => by
  obtain ⟨ih0, ih1, ih2, ih3, ih4, ih5, ih6, ih7⟩ := almagestlaw7_SpanLies.mono_l k
  refine ⟨?_, ?_, ?_, ?_, ?_, ?_, ?_, ?_⟩
  ·
   intro y0 y1 y2 y3
   unfold almagestlaw7_SpanLies.l0
   repeat' first
   | (with_reducible exact ih0 _ _ _ _)
   | (with_reducible exact ih1 _ _ _ _ _)
   | (with_reducible exact ih2 _ _ _ _ _)
   | (with_reducible exact ih3 _ _ _ _ _ _)
   | (with_reducible exact ih4 _ _ _ _ _ _ _ _ _ _)
   | (with_reducible exact ih5 _ _ _ _ _ _ _ _ _ _ _)
   | (with_reducible exact ih6 _ _ _ _ _ _ _ _ _ _ _ _ _ _ _ _)
   | (with_reducible exact ih7 _ _ _ _ _ _ _ _ _ _ _ _ _ _)
   | (with_reducible exact almagestlaw7_Heavy.mono _ _ _ _)
   | (with_reducible exact almagestlaw7_wakes.mono _)
   | (with_reducible exact almagestref0_EqNumbers.mono _ _ _)
   | (with_reducible exact almagestref7_All.mono _ _ _ _ _)
   | (with_reducible exact almagestref7_Is.mono _ _ _ _ _ _)
   | (with_reducible exact span_All.mono _ _ _ _ _)
   | (with_reducible exact span_Is.mono _ _ _ _ _ _)
   | (with_reducible exact LeO.refl _)
   | (with_reducible exact LeO.none _)
   | (with_reducible refine LeO.ite ?_ ?_)
   | (with_reducible refine LeO.bind ?_ (fun _ => ?_))
   | exact ih0 _ _ _ _
   | exact ih1 _ _ _ _ _
   | exact ih2 _ _ _ _ _
   | exact ih3 _ _ _ _ _ _
   | exact ih4 _ _ _ _ _ _ _ _ _ _
   | exact ih5 _ _ _ _ _ _ _ _ _ _ _
   | exact ih6 _ _ _ _ _ _ _ _ _ _ _ _ _ _ _ _
   | exact ih7 _ _ _ _ _ _ _ _ _ _ _ _ _ _
   | exact almagestlaw7_Heavy.mono _ _ _ _
   | exact almagestlaw7_wakes.mono _
   | exact almagestref0_EqNumbers.mono _ _ _
   | exact almagestref7_All.mono _ _ _ _ _
   | exact almagestref7_Is.mono _ _ _ _ _ _
   | exact span_All.mono _ _ _ _ _
   | exact span_Is.mono _ _ _ _ _ _
   | exact LeO.none _
   | refine LeO.ite ?_ ?_
   | refine LeO.bind ?_ (fun _ => ?_)
  ·
   intro y0 y1 y2 y3 y4
   unfold almagestlaw7_SpanLies.j1
   repeat' first
   | (with_reducible exact ih0 _ _ _ _)
   | (with_reducible exact ih1 _ _ _ _ _)
   | (with_reducible exact ih2 _ _ _ _ _)
   | (with_reducible exact ih3 _ _ _ _ _ _)
   | (with_reducible exact ih4 _ _ _ _ _ _ _ _ _ _)
   | (with_reducible exact ih5 _ _ _ _ _ _ _ _ _ _ _)
   | (with_reducible exact ih6 _ _ _ _ _ _ _ _ _ _ _ _ _ _ _ _)
   | (with_reducible exact ih7 _ _ _ _ _ _ _ _ _ _ _ _ _ _)
   | (with_reducible exact almagestlaw7_Heavy.mono _ _ _ _)
   | (with_reducible exact almagestlaw7_wakes.mono _)
   | (with_reducible exact almagestref0_EqNumbers.mono _ _ _)
   | (with_reducible exact almagestref7_All.mono _ _ _ _ _)
   | (with_reducible exact almagestref7_Is.mono _ _ _ _ _ _)
   | (with_reducible exact span_All.mono _ _ _ _ _)
   | (with_reducible exact span_Is.mono _ _ _ _ _ _)
   | (with_reducible exact LeO.refl _)
   | (with_reducible exact LeO.none _)
   | (with_reducible refine LeO.ite ?_ ?_)
   | (with_reducible refine LeO.bind ?_ (fun _ => ?_))
   | exact ih0 _ _ _ _
   | exact ih1 _ _ _ _ _
   | exact ih2 _ _ _ _ _
   | exact ih3 _ _ _ _ _ _
   | exact ih4 _ _ _ _ _ _ _ _ _ _
   | exact ih5 _ _ _ _ _ _ _ _ _ _ _
   | exact ih6 _ _ _ _ _ _ _ _ _ _ _ _ _ _ _ _
   | exact ih7 _ _ _ _ _ _ _ _ _ _ _ _ _ _
   | exact almagestlaw7_Heavy.mono _ _ _ _
   | exact almagestlaw7_wakes.mono _
   | exact almagestref0_EqNumbers.mono _ _ _
   | exact almagestref7_All.mono _ _ _ _ _
   | exact almagestref7_Is.mono _ _ _ _ _ _
   | exact span_All.mono _ _ _ _ _
   | exact span_Is.mono _ _ _ _ _ _
   | exact LeO.none _
   | refine LeO.ite ?_ ?_
   | refine LeO.bind ?_ (fun _ => ?_)
  ·
   intro y0 y1 y2 y3 y4
   unfold almagestlaw7_SpanLies.l1
   repeat' first
   | (with_reducible exact ih0 _ _ _ _)
   | (with_reducible exact ih1 _ _ _ _ _)
   | (with_reducible exact ih2 _ _ _ _ _)
   | (with_reducible exact ih3 _ _ _ _ _ _)
   | (with_reducible exact ih4 _ _ _ _ _ _ _ _ _ _)
   | (with_reducible exact ih5 _ _ _ _ _ _ _ _ _ _ _)
   | (with_reducible exact ih6 _ _ _ _ _ _ _ _ _ _ _ _ _ _ _ _)
   | (with_reducible exact ih7 _ _ _ _ _ _ _ _ _ _ _ _ _ _)
   | (with_reducible exact almagestlaw7_Heavy.mono _ _ _ _)
   | (with_reducible exact almagestlaw7_wakes.mono _)
   | (with_reducible exact almagestref0_EqNumbers.mono _ _ _)
   | (with_reducible exact almagestref7_All.mono _ _ _ _ _)
   | (with_reducible exact almagestref7_Is.mono _ _ _ _ _ _)
   | (with_reducible exact span_All.mono _ _ _ _ _)
   | (with_reducible exact span_Is.mono _ _ _ _ _ _)
   | (with_reducible exact LeO.refl _)
   | (with_reducible exact LeO.none _)
   | (with_reducible refine LeO.ite ?_ ?_)
   | (with_reducible refine LeO.bind ?_ (fun _ => ?_))
   | exact ih0 _ _ _ _
   | exact ih1 _ _ _ _ _
   | exact ih2 _ _ _ _ _
   | exact ih3 _ _ _ _ _ _
   | exact ih4 _ _ _ _ _ _ _ _ _ _
   | exact ih5 _ _ _ _ _ _ _ _ _ _ _
   | exact ih6 _ _ _ _ _ _ _ _ _ _ _ _ _ _ _ _
   | exact ih7 _ _ _ _ _ _ _ _ _ _ _ _ _ _
   | exact almagestlaw7_Heavy.mono _ _ _ _
   | exact almagestlaw7_wakes.mono _
   | exact almagestref0_EqNumbers.mono _ _ _
   | exact almagestref7_All.mono _ _ _ _ _
   | exact almagestref7_Is.mono _ _ _ _ _ _
   | exact span_All.mono _ _ _ _ _
   | exact span_Is.mono _ _ _ _ _ _
   | exact LeO.none _
   | refine LeO.ite ?_ ?_
   | refine LeO.bind ?_ (fun _ => ?_)
  ·
   intro y0 y1 y2 y3 y4 y5
   unfold almagestlaw7_SpanLies.j3
   repeat' first
   | (with_reducible exact ih0 _ _ _ _)
   | (with_reducible exact ih1 _ _ _ _ _)
   | (with_reducible exact ih2 _ _ _ _ _)
   | (with_reducible exact ih3 _ _ _ _ _ _)
   | (with_reducible exact ih4 _ _ _ _ _ _ _ _ _ _)
   | (with_reducible exact ih5 _ _ _ _ _ _ _ _ _ _ _)
   | (with_reducible exact ih6 _ _ _ _ _ _ _ _ _ _ _ _ _ _ _ _)
   | (with_reducible exact ih7 _ _ _ _ _ _ _ _ _ _ _ _ _ _)
   | (with_reducible exact almagestlaw7_Heavy.mono _ _ _ _)
   | (with_reducible exact almagestlaw7_wakes.mono _)
   | (with_reducible exact almagestref0_EqNumbers.mono _ _ _)
   | (with_reducible exact almagestref7_All.mono _ _ _ _ _)
   | (with_reducible exact almagestref7_Is.mono _ _ _ _ _ _)
   | (with_reducible exact span_All.mono _ _ _ _ _)
   | (with_reducible exact span_Is.mono _ _ _ _ _ _)
   | (with_reducible exact LeO.refl _)
   | (with_reducible exact LeO.none _)
   | (with_reducible refine LeO.ite ?_ ?_)
   | (with_reducible refine LeO.bind ?_ (fun _ => ?_))
   | exact ih0 _ _ _ _
   | exact ih1 _ _ _ _ _
   | exact ih2 _ _ _ _ _
   | exact ih3 _ _ _ _ _ _
   | exact ih4 _ _ _ _ _ _ _ _ _ _
   | exact ih5 _ _ _ _ _ _ _ _ _ _ _
   | exact ih6 _ _ _ _ _ _ _ _ _ _ _ _ _ _ _ _
   | exact ih7 _ _ _ _ _ _ _ _ _ _ _ _ _ _
   | exact almagestlaw7_Heavy.mono _ _ _ _
   | exact almagestlaw7_wakes.mono _
   | exact almagestref0_EqNumbers.mono _ _ _
   | exact almagestref7_All.mono _ _ _ _ _
   | exact almagestref7_Is.mono _ _ _ _ _ _
   | exact span_All.mono _ _ _ _ _
   | exact span_Is.mono _ _ _ _ _ _
   | exact LeO.none _
   | refine LeO.ite ?_ ?_
   | refine LeO.bind ?_ (fun _ => ?_)
  ·
   intro y0 y1 y2 y3 y4 y5 y6 y7 y8 y9
   unfold almagestlaw7_SpanLies.j4
   repeat' first
   | (with_reducible exact ih0 _ _ _ _)
   | (with_reducible exact ih1 _ _ _ _ _)
   | (with_reducible exact ih2 _ _ _ _ _)
   | (with_reducible exact ih3 _ _ _ _ _ _)
   | (with_reducible exact ih4 _ _ _ _ _ _ _ _ _ _)
   | (with_reducible exact ih5 _ _ _ _ _ _ _ _ _ _ _)
   | (with_reducible exact ih6 _ _ _ _ _ _ _ _ _ _ _ _ _ _ _ _)
   | (with_reducible exact ih7 _ _ _ _ _ _ _ _ _ _ _ _ _ _)
   | (with_reducible exact almagestlaw7_Heavy.mono _ _ _ _)
   | (with_reducible exact almagestlaw7_wakes.mono _)
   | (with_reducible exact almagestref0_EqNumbers.mono _ _ _)
   | (with_reducible exact almagestref7_All.mono _ _ _ _ _)
   | (with_reducible exact almagestref7_Is.mono _ _ _ _ _ _)
   | (with_reducible exact span_All.mono _ _ _ _ _)
   | (with_reducible exact span_Is.mono _ _ _ _ _ _)
   | (with_reducible exact LeO.refl _)
   | (with_reducible exact LeO.none _)
   | (with_reducible refine LeO.ite ?_ ?_)
   | (with_reducible refine LeO.bind ?_ (fun _ => ?_))
   | exact ih0 _ _ _ _
   | exact ih1 _ _ _ _ _
   | exact ih2 _ _ _ _ _
   | exact ih3 _ _ _ _ _ _
   | exact ih4 _ _ _ _ _ _ _ _ _ _
   | exact ih5 _ _ _ _ _ _ _ _ _ _ _
   | exact ih6 _ _ _ _ _ _ _ _ _ _ _ _ _ _ _ _
   | exact ih7 _ _ _ _ _ _ _ _ _ _ _ _ _ _
   | exact almagestlaw7_Heavy.mono _ _ _ _
   | exact almagestlaw7_wakes.mono _
   | exact almagestref0_EqNumbers.mono _ _ _
   | exact almagestref7_All.mono _ _ _ _ _
   | exact almagestref7_Is.mono _ _ _ _ _ _
   | exact span_All.mono _ _ _ _ _
   | exact span_Is.mono _ _ _ _ _ _
   | exact LeO.none _
   | refine LeO.ite ?_ ?_
   | refine LeO.bind ?_ (fun _ => ?_)
  ·
   intro y0 y1 y2 y3 y4 y5 y6 y7 y8 y9 y10
   unfold almagestlaw7_SpanLies.l2
   repeat' first
   | (with_reducible exact ih0 _ _ _ _)
   | (with_reducible exact ih1 _ _ _ _ _)
   | (with_reducible exact ih2 _ _ _ _ _)
   | (with_reducible exact ih3 _ _ _ _ _ _)
   | (with_reducible exact ih4 _ _ _ _ _ _ _ _ _ _)
   | (with_reducible exact ih5 _ _ _ _ _ _ _ _ _ _ _)
   | (with_reducible exact ih6 _ _ _ _ _ _ _ _ _ _ _ _ _ _ _ _)
   | (with_reducible exact ih7 _ _ _ _ _ _ _ _ _ _ _ _ _ _)
   | (with_reducible exact almagestlaw7_Heavy.mono _ _ _ _)
   | (with_reducible exact almagestlaw7_wakes.mono _)
   | (with_reducible exact almagestref0_EqNumbers.mono _ _ _)
   | (with_reducible exact almagestref7_All.mono _ _ _ _ _)
   | (with_reducible exact almagestref7_Is.mono _ _ _ _ _ _)
   | (with_reducible exact span_All.mono _ _ _ _ _)
   | (with_reducible exact span_Is.mono _ _ _ _ _ _)
   | (with_reducible exact LeO.refl _)
   | (with_reducible exact LeO.none _)
   | (with_reducible refine LeO.ite ?_ ?_)
   | (with_reducible refine LeO.bind ?_ (fun _ => ?_))
   | exact ih0 _ _ _ _
   | exact ih1 _ _ _ _ _
   | exact ih2 _ _ _ _ _
   | exact ih3 _ _ _ _ _ _
   | exact ih4 _ _ _ _ _ _ _ _ _ _
   | exact ih5 _ _ _ _ _ _ _ _ _ _ _
   | exact ih6 _ _ _ _ _ _ _ _ _ _ _ _ _ _ _ _
   | exact ih7 _ _ _ _ _ _ _ _ _ _ _ _ _ _
   | exact almagestlaw7_Heavy.mono _ _ _ _
   | exact almagestlaw7_wakes.mono _
   | exact almagestref0_EqNumbers.mono _ _ _
   | exact almagestref7_All.mono _ _ _ _ _
   | exact almagestref7_Is.mono _ _ _ _ _ _
   | exact span_All.mono _ _ _ _ _
   | exact span_Is.mono _ _ _ _ _ _
   | exact LeO.none _
   | refine LeO.ite ?_ ?_
   | refine LeO.bind ?_ (fun _ => ?_)
  ·
   intro y0 y1 y2 y3 y4 y5 y6 y7 y8 y9 y10 y11 y12 y13 y14 y15
   unfold almagestlaw7_SpanLies.j6
   repeat' first
   | (with_reducible exact ih0 _ _ _ _)
   | (with_reducible exact ih1 _ _ _ _ _)
   | (with_reducible exact ih2 _ _ _ _ _)
   | (with_reducible exact ih3 _ _ _ _ _ _)
   | (with_reducible exact ih4 _ _ _ _ _ _ _ _ _ _)
   | (with_reducible exact ih5 _ _ _ _ _ _ _ _ _ _ _)
   | (with_reducible exact ih6 _ _ _ _ _ _ _ _ _ _ _ _ _ _ _ _)
   | (with_reducible exact ih7 _ _ _ _ _ _ _ _ _ _ _ _ _ _)
   | (with_reducible exact almagestlaw7_Heavy.mono _ _ _ _)
   | (with_reducible exact almagestlaw7_wakes.mono _)
   | (with_reducible exact almagestref0_EqNumbers.mono _ _ _)
   | (with_reducible exact almagestref7_All.mono _ _ _ _ _)
   | (with_reducible exact almagestref7_Is.mono _ _ _ _ _ _)
   | (with_reducible exact span_All.mono _ _ _ _ _)
   | (with_reducible exact span_Is.mono _ _ _ _ _ _)
   | (with_reducible exact LeO.refl _)
   | (with_reducible exact LeO.none _)
   | (with_reducible refine LeO.ite ?_ ?_)
   | (with_reducible refine LeO.bind ?_ (fun _ => ?_))
   | exact ih0 _ _ _ _
   | exact ih1 _ _ _ _ _
   | exact ih2 _ _ _ _ _
   | exact ih3 _ _ _ _ _ _
   | exact ih4 _ _ _ _ _ _ _ _ _ _
   | exact ih5 _ _ _ _ _ _ _ _ _ _ _
   | exact ih6 _ _ _ _ _ _ _ _ _ _ _ _ _ _ _ _
   | exact ih7 _ _ _ _ _ _ _ _ _ _ _ _ _ _
   | exact almagestlaw7_Heavy.mono _ _ _ _
   | exact almagestlaw7_wakes.mono _
   | exact almagestref0_EqNumbers.mono _ _ _
   | exact almagestref7_All.mono _ _ _ _ _
   | exact almagestref7_Is.mono _ _ _ _ _ _
   | exact span_All.mono _ _ _ _ _
   | exact span_Is.mono _ _ _ _ _ _
   | exact LeO.none _
   | refine LeO.ite ?_ ?_
   | refine LeO.bind ?_ (fun _ => ?_)
  ·
   intro y0 y1 y2 y3 y4 y5 y6 y7 y8 y9 y10 y11 y12 y13
   unfold almagestlaw7_SpanLies.j7
   repeat' first
   | (with_reducible exact ih0 _ _ _ _)
   | (with_reducible exact ih1 _ _ _ _ _)
   | (with_reducible exact ih2 _ _ _ _ _)
   | (with_reducible exact ih3 _ _ _ _ _ _)
   | (with_reducible exact ih4 _ _ _ _ _ _ _ _ _ _)
   | (with_reducible exact ih5 _ _ _ _ _ _ _ _ _ _ _)
   | (with_reducible exact ih6 _ _ _ _ _ _ _ _ _ _ _ _ _ _ _ _)
   | (with_reducible exact ih7 _ _ _ _ _ _ _ _ _ _ _ _ _ _)
   | (with_reducible exact almagestlaw7_Heavy.mono _ _ _ _)
   | (with_reducible exact almagestlaw7_wakes.mono _)
   | (with_reducible exact almagestref0_EqNumbers.mono _ _ _)
   | (with_reducible exact almagestref7_All.mono _ _ _ _ _)
   | (with_reducible exact almagestref7_Is.mono _ _ _ _ _ _)
   | (with_reducible exact span_All.mono _ _ _ _ _)
   | (with_reducible exact span_Is.mono _ _ _ _ _ _)
   | (with_reducible exact LeO.refl _)
   | (with_reducible exact LeO.none _)
   | (with_reducible refine LeO.ite ?_ ?_)
   | (with_reducible refine LeO.bind ?_ (fun _ => ?_))
   | exact ih0 _ _ _ _
   | exact ih1 _ _ _ _ _
   | exact ih2 _ _ _ _ _
   | exact ih3 _ _ _ _ _ _
   | exact ih4 _ _ _ _ _ _ _ _ _ _
   | exact ih5 _ _ _ _ _ _ _ _ _ _ _
   | exact ih6 _ _ _ _ _ _ _ _ _ _ _ _ _ _ _ _
   | exact ih7 _ _ _ _ _ _ _ _ _ _ _ _ _ _
   | exact almagestlaw7_Heavy.mono _ _ _ _
   | exact almagestlaw7_wakes.mono _
   | exact almagestref0_EqNumbers.mono _ _ _
   | exact almagestref7_All.mono _ _ _ _ _
   | exact almagestref7_Is.mono _ _ _ _ _ _
   | exact span_All.mono _ _ _ _ _
   | exact span_Is.mono _ _ _ _ _ _
   | exact LeO.none _
   | refine LeO.ite ?_ ?_
   | refine LeO.bind ?_ (fun _ => ?_)
theorem almagestlaw7_SpanLies.mono : ∀ a0 a1 a2 k, LeO (almagestlaw7_SpanLies.f k a0 a1 a2) (almagestlaw7_SpanLies.f (k + 1) a0 a1 a2) := by
 intro a0 a1 a2 k
 obtain ⟨ih0, ih1, ih2, ih3, ih4, ih5, ih6, ih7⟩ := almagestlaw7_SpanLies.mono_l k
 unfold almagestlaw7_SpanLies.f
 repeat' first
   | (with_reducible exact ih0 _ _ _ _)
   | (with_reducible exact ih1 _ _ _ _ _)
   | (with_reducible exact ih2 _ _ _ _ _)
   | (with_reducible exact ih3 _ _ _ _ _ _)
   | (with_reducible exact ih4 _ _ _ _ _ _ _ _ _ _)
   | (with_reducible exact ih5 _ _ _ _ _ _ _ _ _ _ _)
   | (with_reducible exact ih6 _ _ _ _ _ _ _ _ _ _ _ _ _ _ _ _)
   | (with_reducible exact ih7 _ _ _ _ _ _ _ _ _ _ _ _ _ _)
   | (with_reducible exact almagestlaw7_Heavy.mono _ _ _ _)
   | (with_reducible exact almagestlaw7_wakes.mono _)
   | (with_reducible exact almagestref0_EqNumbers.mono _ _ _)
   | (with_reducible exact almagestref7_All.mono _ _ _ _ _)
   | (with_reducible exact almagestref7_Is.mono _ _ _ _ _ _)
   | (with_reducible exact span_All.mono _ _ _ _ _)
   | (with_reducible exact span_Is.mono _ _ _ _ _ _)
   | (with_reducible exact LeO.refl _)
   | (with_reducible exact LeO.none _)
   | (with_reducible refine LeO.ite ?_ ?_)
   | (with_reducible refine LeO.bind ?_ (fun _ => ?_))
   | exact ih0 _ _ _ _
   | exact ih1 _ _ _ _ _
   | exact ih2 _ _ _ _ _
   | exact ih3 _ _ _ _ _ _
   | exact ih4 _ _ _ _ _ _ _ _ _ _
   | exact ih5 _ _ _ _ _ _ _ _ _ _ _
   | exact ih6 _ _ _ _ _ _ _ _ _ _ _ _ _ _ _ _
   | exact ih7 _ _ _ _ _ _ _ _ _ _ _ _ _ _
   | exact almagestlaw7_Heavy.mono _ _ _ _
   | exact almagestlaw7_wakes.mono _
   | exact almagestref0_EqNumbers.mono _ _ _
   | exact almagestref7_All.mono _ _ _ _ _
   | exact almagestref7_Is.mono _ _ _ _ _ _
   | exact span_All.mono _ _ _ _ _
   | exact span_Is.mono _ _ _ _ _ _
   | exact LeO.none _
   | refine LeO.ite ?_ ?_
   | refine LeO.bind ?_ (fun _ => ?_)
def almagestlaw7_SpanLies.T6 : Bool × List (List Nat × List Nat) := (true, [([], []), ([0], [0]), ([], []), ([1, 2], [1, 2]), ([3], [3]), ([4], [4]), ([5, 5], [5]), ([6], [6]), ([], []), ([8], [8]), ([], []), ([9, 10], [9, 10]), ([11], [11]), ([12, 6], [12]), ([7, 13], [7, 13])])
def almagestlaw7_SpanLies.B6 : List Nat := [0, 1, 0, 7, 15, 31, 63, 127, 0, 256, 0, 1792, 3840, 8063, 16383]
theorem almagestlaw7_SpanLies.tab6 : rtab .any (opsOf Try.f17 6) = almagestlaw7_SpanLies.T6 := by kernel_rfl
theorem almagestlaw7_SpanLies.bits6 : waitsOk almagestlaw7_SpanLies.T6.2 almagestlaw7_SpanLies.B6 = true := by kernel_rfl
def almagestlaw7_SpanLies.T11 : Bool × List (List Nat × List Nat) := (true, [([], []), ([0], [0]), ([], []), ([1, 2], [1, 2]), ([3], [3]), ([], []), ([5], [5]), ([], []), ([6, 7], [6, 7]), ([8], [8]), ([], []), ([], []), ([10, 4, 0, 1, 2, 3, 4, 10, 11], [4, 10]), ([11, 9, 12, 0, 1, 2, 3, 4, 5, 6, 7, 8, 9, 10, 11, 12], [9, 11])])
def almagestlaw7_SpanLies.B11 : List Nat := [0, 1, 0, 7, 15, 0, 32, 0, 224, 480, 0, 0, 3103, 8191]
theorem almagestlaw7_SpanLies.tab11 : rtab .any (opsOf Try.f17 11) = almagestlaw7_SpanLies.T11 := by kernel_rfl
theorem almagestlaw7_SpanLies.bits11 : waitsOk almagestlaw7_SpanLies.T11.2 almagestlaw7_SpanLies.B11 = true := by kernel_rfl
def almagestlaw7_SpanLies.T27 : Bool × List (List Nat × List Nat) := (true, [([], []), ([], []), ([0, 1], [0, 1]), ([], []), ([], []), ([3, 4, 2], [3, 4]), ([5], []), ([2, 6, 0, 1, 2, 6], [2]), ([5, 7, 0, 1, 2, 3, 4, 5, 6, 7], [5])])
def almagestlaw7_SpanLies.B27 : List Nat := [0, 0, 3, 0, 0, 31, 63, 127, 255]
theorem almagestlaw7_SpanLies.tab27 : rtab .any (opsOf Try.f17 27) = almagestlaw7_SpanLies.T27 := by kernel_rfl
theorem almagestlaw7_SpanLies.bits27 : waitsOk almagestlaw7_SpanLies.T27.2 almagestlaw7_SpanLies.B27 = true := by kernel_rfl

end Go.Proofs.Ytkpbhkejfaejhaa.PSpanLies
