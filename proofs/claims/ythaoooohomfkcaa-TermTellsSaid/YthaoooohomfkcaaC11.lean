/- Functions of the program as Lean functions, and that their calls come to them. No condition. -/
import Derived.Test.YthaoooohomfkcaaA0
import Derived.Test.YthaoooohomfkcaaA3
import Derived.Test.YthaoooohomfkcaaA4
import Derived.Test.YthaoooohomfkcaaC0
import Derived.Test.YthaoooohomfkcaaC1
import Derived.Test.YthaoooohomfkcaaC2
import Derived.Test.YthaoooohomfkcaaC4
import Derived.Test.YthaoooohomfkcaaC5
import Derived.Test.YthaoooohomfkcaaC9
import Derived.Test.YthaoooohomfkcaaC10
namespace Go.Proofs.Ythaoooohomfkcaa.C
open Go.RowKit Go.Proofs.YthaoooohomfkcaaW.PrintWords Go.Proofs.YthaoooohomfkcaaW.PrintLast Go.Proofs.YthaoooohomfkcaaW.PrintMore
open Go.Proofs.Ythaoooohomfkcaa.A
attribute [local go_sem] max2_int min2_int max_two min_two max_three min_three max_four min_four   -- for this text's walks alone
set_option linter.unusedVariables false
set_option linter.unusedSimpArgs false

/-! ### almagestlaw1_TermTells: function 4 -/
mutual
def almagestlaw1_TermTells.l0 : Nat → Int → List (S31) → List ByteArray → Option (Bool)
 | 0, _, _, _ => none
 | k + 1, x3, x225000, x225001 => if x3 < (x225000.length : Int) then (almagestlaw1_TermTells.j1 k x3 (decide (x3 < 6)) x225000 x225001) else (almagestlaw1_TermTells.j1 k x3 false x225000 x225001)
def almagestlaw1_TermTells.j1 : Nat → Int → Bool → List (S31) → List ByteArray → Option (Bool)
 | 0, _, _, _, _ => none
 | k + 1, x3, x31, x225000, x225001 => if x31 = true then (if 0 ≤ x3 then (if x3 < (x225000.length : Int) then ((almagestref0_CopyTerm.f k ((rd_T31 x225000 x3).f0) ((rd_T31 x225000 x3).f1) ((rd_T31 x225000 x3).f2) ((rd_T31 x225000 x3).f3)).bind fun bt228 => ((term_Depth.f k bt228.1 bt228.2.1 bt228.2.2.1 bt228.2.2.2).bind fun bt235 => ((term_Size.f k bt228.1 bt228.2.1 bt228.2.2.1 bt228.2.2.2).bind fun bt237 => ((term_Ground.f bt228.1 bt228.2.1 bt228.2.2.1 bt228.2.2.2).bind fun bt239 => ((term_Atom.f k bt228.1 bt228.2.1 bt228.2.2.1 bt228.2.2.2).bind fun bt241 => ((term_Vars.f bt228.1 bt228.2.1 bt228.2.2.1 bt228.2.2.2).bind fun bt243 => ((almagestref1_Term.f k ((rd_T31 x225000 x3).f0) ((rd_T31 x225000 x3).f1) ((rd_T31 x225000 x3).f2) ((rd_T31 x225000 x3).f3)).bind fun t248 => (if t248 = true then ((almagestref1_Depth.f k ((rd_T31 x225000 x3).f0) ((rd_T31 x225000 x3).f1) ((rd_T31 x225000 x3).f2) ((rd_T31 x225000 x3).f3)).bind fun t250 => ((almagestref1_Size.f k ((rd_T31 x225000 x3).f0) ((rd_T31 x225000 x3).f1) ((rd_T31 x225000 x3).f2) ((rd_T31 x225000 x3).f3)).bind fun t252 => ((almagestref1_Ground.f k ((rd_T31 x225000 x3).f0) ((rd_T31 x225000 x3).f1) ((rd_T31 x225000 x3).f2) ((rd_T31 x225000 x3).f3)).bind fun t254 => ((almagestref1_Atom.f k ((rd_T31 x225000 x3).f0) ((rd_T31 x225000 x3).f1) ((rd_T31 x225000 x3).f2) ((rd_T31 x225000 x3).f3)).bind fun t256 => ((almagestref1_Vars.f k ((rd_T31 x225000 x3).f0) ((rd_T31 x225000 x3).f1) ((rd_T31 x225000 x3).f2) ((rd_T31 x225000 x3).f3)).bind fun t258 => (almagestlaw1_TermTells.j2 k x3 bt235.1 bt235.2 bt237.1 bt237.2 bt239.1 bt239.2 bt241.1 bt241.2 bt243.1 bt243.2 0 t250 t252 t254 t256 t258 x225000 x225001 bt228.1 bt228.2.1 bt228.2.2.1 bt228.2.2.2)))))) else (almagestlaw1_TermTells.j2 k x3 bt235.1 bt235.2 bt237.1 bt237.2 bt239.1 bt239.2 bt241.1 bt241.2 bt243.1 bt243.2 1 0 0 false false ([] : List ByteArray) x225000 x225001 bt228.1 bt228.2.1 bt228.2.2.1 bt228.2.2.2))))))))) else (none)) else (none)) else ((almagestlaw1_wakes.f k).bind fun t226 => (some t226))
def almagestlaw1_TermTells.j2 : Nat → Int → Int → Int → Int → Int → Bool → Int → Bool → Int → List ByteArray → Int → Int → Int → Int → Bool → Bool → List ByteArray → List (S31) → List ByteArray → Int → ByteArray → Int → List (S31) → Option (Bool)
 | 0, _, _, _, _, _, _, _, _, _, _, _, _, _, _, _, _, _, _, _, _, _, _, _ => none
 | k + 1, x3, x5, x6, x7, x8, x9, x10, x11, x12, x13, x14, x15, x16, x17, x18, x19, x20, x225000, x225001, x235000, x235001, x235002, x235003 => (term_Check.f x235000 x235001 x235002 x235003).bind fun t261 => ((almagestlaw1_num.f t261).bind fun t262 => (if t262 = x15 then ((almagestlaw1_num.f x6).bind fun t263 => (if t263 = x15 then ((almagestlaw1_num.f x8).bind fun t264 => (if t264 = x15 then ((almagestlaw1_num.f x10).bind fun t265 => (if t265 = x15 then ((almagestlaw1_num.f x12).bind fun t266 => (if t266 = x15 then ((almagestlaw1_num.f x14).bind fun t267 => (if t267 = x15 then (if x5 = x16 then (if x7 = x17 then (if (x9 != x18) = true then (none) else (if (x11 != x19) = true then (none) else ((almagestref0_EqStrings.f k x13 x20).bind fun t268 => (if t268 = true then (if 0 ≤ x3 then (if x3 < (x225000.length : Int) then ((almagestref0_EqTerm.f k x235000 x235001 x235002 x235003 ((rd_T31 x225000 x3).f0) ((rd_T31 x225000 x3).f1) ((rd_T31 x225000 x3).f2) ((rd_T31 x225000 x3).f3)).bind fun t270 => (if t270 = true then ((almagestlaw0_Strings.f k x13).bind fun t271 => (almagestlaw1_TermTells.l0 k (wrap64 (x3 + 1)) x225000 x225001)) else (none))) else (none)) else (none)) else (none))))) else (none)) else (none)) else (none))) else (none))) else (none))) else (none))) else (none))) else (none)))
end
def almagestlaw1_TermTells.f (k : Nat) (l0_0 : List (S31)) (l0_1 : List ByteArray) : Option (Bool) := (almagestlaw1_Heavy.f k l0_0 l0_1).bind fun t225 => (if t225 = true then (some true) else (almagestlaw1_TermTells.l0 k 0 l0_0 l0_1))
theorem almagestlaw1_TermTells.mono_l : ∀ k, (∀ y0 y1 y2, LeO (almagestlaw1_TermTells.l0 k y0 y1 y2) (almagestlaw1_TermTells.l0 (k + 1) y0 y1 y2)) ∧ (∀ y0 y1 y2 y3, LeO (almagestlaw1_TermTells.j1 k y0 y1 y2 y3) (almagestlaw1_TermTells.j1 (k + 1) y0 y1 y2 y3)) ∧ (∀ y0 y1 y2 y3 y4 y5 y6 y7 y8 y9 y10 y11 y12 y13 y14 y15 y16 y17 y18 y19 y20 y21 y22, LeO (almagestlaw1_TermTells.j2 k y0 y1 y2 y3 y4 y5 y6 y7 y8 y9 y10 y11 y12 y13 y14 y15 y16 y17 y18 y19 y20 y21 y22) (almagestlaw1_TermTells.j2 (k + 1) y0 y1 y2 y3 y4 y5 y6 y7 y8 y9 y10 y11 y12 y13 y14 y15 y16 y17 y18 y19 y20 y21 y22))
 | 0 => ⟨fun _ _ _ r h => by simp [almagestlaw1_TermTells.l0] at h, fun _ _ _ _ r h => by simp [almagestlaw1_TermTells.j1] at h, fun _ _ _ _ _ _ _ _ _ _ _ _ _ _ _ _ _ _ _ _ _ _ _ r h => by simp [almagestlaw1_TermTells.j2] at h⟩
 | k + 1 => by
  obtain ⟨ih0, ih1, ih2⟩ := almagestlaw1_TermTells.mono_l k
  refine ⟨?_, ?_, ?_⟩
  ·
   intro y0 y1 y2
   unfold almagestlaw1_TermTells.l0
   repeat' first
   | (with_reducible exact ih0 _ _ _)
   | (with_reducible exact ih1 _ _ _ _)
   | (with_reducible exact ih2 _ _ _ _ _ _ _ _ _ _ _ _ _ _ _ _ _ _ _ _ _ _ _)
   | (with_reducible exact almagestlaw0_Strings.mono _ _)
   | (with_reducible exact almagestlaw1_Heavy.mono _ _ _)
   | (with_reducible exact almagestlaw1_wakes.mono _)
   | (with_reducible exact almagestref0_CopyTerm.mono _ _ _ _ _)
   | (with_reducible exact almagestref0_EqStrings.mono _ _ _)
   | (with_reducible exact almagestref0_EqTerm.mono _ _ _ _ _ _ _ _ _)
   | (with_reducible exact almagestref1_Atom.mono _ _ _ _ _)
   | (with_reducible exact almagestref1_Depth.mono _ _ _ _ _)
   | (with_reducible exact almagestref1_Ground.mono _ _ _ _ _)
   | (with_reducible exact almagestref1_Size.mono _ _ _ _ _)
   | (with_reducible exact almagestref1_Term.mono _ _ _ _ _)
   | (with_reducible exact almagestref1_Vars.mono _ _ _ _ _)
   | (with_reducible exact term_Atom.mono _ _ _ _ _)
   | (with_reducible exact term_Depth.mono _ _ _ _ _)
   | (with_reducible exact term_Size.mono _ _ _ _ _)
   | (with_reducible exact LeO.refl _)
   | (with_reducible exact LeO.none _)
   | (with_reducible refine LeO.ite ?_ ?_)
   | (with_reducible refine LeO.bind ?_ (fun _ => ?_))
   | exact ih0 _ _ _
   | exact ih1 _ _ _ _
   | exact ih2 _ _ _ _ _ _ _ _ _ _ _ _ _ _ _ _ _ _ _ _ _ _ _
   | exact almagestlaw0_Strings.mono _ _
   | exact almagestlaw1_Heavy.mono _ _ _
   | exact almagestlaw1_wakes.mono _
   | exact almagestref0_CopyTerm.mono _ _ _ _ _
   | exact almagestref0_EqStrings.mono _ _ _
   | exact almagestref0_EqTerm.mono _ _ _ _ _ _ _ _ _
   | exact almagestref1_Atom.mono _ _ _ _ _
   | exact almagestref1_Depth.mono _ _ _ _ _
   | exact almagestref1_Ground.mono _ _ _ _ _
   | exact almagestref1_Size.mono _ _ _ _ _
   | exact almagestref1_Term.mono _ _ _ _ _
   | exact almagestref1_Vars.mono _ _ _ _ _
   | exact term_Atom.mono _ _ _ _ _
   | exact term_Depth.mono _ _ _ _ _
   | exact term_Size.mono _ _ _ _ _
   | exact LeO.none _
   | refine LeO.ite ?_ ?_
   | refine LeO.bind ?_ (fun _ => ?_)
  ·
   intro y0 y1 y2 y3
   unfold almagestlaw1_TermTells.j1
   repeat' first
   | (with_reducible exact ih0 _ _ _)
   | (with_reducible exact ih1 _ _ _ _)
   | (with_reducible exact ih2 _ _ _ _ _ _ _ _ _ _ _ _ _ _ _ _ _ _ _ _ _ _ _)
   | (with_reducible exact almagestlaw0_Strings.mono _ _)
   | (with_reducible exact almagestlaw1_Heavy.mono _ _ _)
   | (with_reducible exact almagestlaw1_wakes.mono _)
   | (with_reducible exact almagestref0_CopyTerm.mono _ _ _ _ _)
   | (with_reducible exact almagestref0_EqStrings.mono _ _ _)
   | (with_reducible exact almagestref0_EqTerm.mono _ _ _ _ _ _ _ _ _)
   | (with_reducible exact almagestref1_Atom.mono _ _ _ _ _)
   | (with_reducible exact almagestref1_Depth.mono _ _ _ _ _)
   | (with_reducible exact almagestref1_Ground.mono _ _ _ _ _)
   | (with_reducible exact almagestref1_Size.mono _ _ _ _ _)
   | (with_reducible exact almagestref1_Term.mono _ _ _ _ _)
   | (with_reducible exact almagestref1_Vars.mono _ _ _ _ _)
   | (with_reducible exact term_Atom.mono _ _ _ _ _)
   | (with_reducible exact term_Depth.mono _ _ _ _ _)
   | (with_reducible exact term_Size.mono _ _ _ _ _)
   | (with_reducible exact LeO.refl _)
   | (with_reducible exact LeO.none _)
   | (with_reducible refine LeO.ite ?_ ?_)
   | (with_reducible refine LeO.bind ?_ (fun _ => ?_))
   | exact ih0 _ _ _
   | exact ih1 _ _ _ _
   | exact ih2 _ _ _ _ _ _ _ _ _ _ _ _ _ _ _ _ _ _ _ _ _ _ _
   | exact almagestlaw0_Strings.mono _ _
   | exact almagestlaw1_Heavy.mono _ _ _
   | exact almagestlaw1_wakes.mono _
   | exact almagestref0_CopyTerm.mono _ _ _ _ _
   | exact almagestref0_EqStrings.mono _ _ _
   | exact almagestref0_EqTerm.mono _ _ _ _ _ _ _ _ _
   | exact almagestref1_Atom.mono _ _ _ _ _
   | exact almagestref1_Depth.mono _ _ _ _ _
   | exact almagestref1_Ground.mono _ _ _ _ _
   | exact almagestref1_Size.mono _ _ _ _ _
   | exact almagestref1_Term.mono _ _ _ _ _
   | exact almagestref1_Vars.mono _ _ _ _ _
   | exact term_Atom.mono _ _ _ _ _
   | exact term_Depth.mono _ _ _ _ _
   | exact term_Size.mono _ _ _ _ _
   | exact LeO.none _
   | refine LeO.ite ?_ ?_
   | refine LeO.bind ?_ (fun _ => ?_)
  ·
   intro y0 y1 y2 y3 y4 y5 y6 y7 y8 y9 y10 y11 y12 y13 y14 y15 y16 y17 y18 y19 y20 y21 y22
   unfold almagestlaw1_TermTells.j2
   repeat' first
   | (with_reducible exact ih0 _ _ _)
   | (with_reducible exact ih1 _ _ _ _)
   | (with_reducible exact ih2 _ _ _ _ _ _ _ _ _ _ _ _ _ _ _ _ _ _ _ _ _ _ _)
   | (with_reducible exact almagestlaw0_Strings.mono _ _)
   | (with_reducible exact almagestlaw1_Heavy.mono _ _ _)
   | (with_reducible exact almagestlaw1_wakes.mono _)
   | (with_reducible exact almagestref0_CopyTerm.mono _ _ _ _ _)
   | (with_reducible exact almagestref0_EqStrings.mono _ _ _)
   | (with_reducible exact almagestref0_EqTerm.mono _ _ _ _ _ _ _ _ _)
   | (with_reducible exact almagestref1_Atom.mono _ _ _ _ _)
   | (with_reducible exact almagestref1_Depth.mono _ _ _ _ _)
   | (with_reducible exact almagestref1_Ground.mono _ _ _ _ _)
   | (with_reducible exact almagestref1_Size.mono _ _ _ _ _)
   | (with_reducible exact almagestref1_Term.mono _ _ _ _ _)
   | (with_reducible exact almagestref1_Vars.mono _ _ _ _ _)
   | (with_reducible exact term_Atom.mono _ _ _ _ _)
   | (with_reducible exact term_Depth.mono _ _ _ _ _)
   | (with_reducible exact term_Size.mono _ _ _ _ _)
   | (with_reducible exact LeO.refl _)
   | (with_reducible exact LeO.none _)
   | (with_reducible refine LeO.ite ?_ ?_)
   | (with_reducible refine LeO.bind ?_ (fun _ => ?_))
   | exact ih0 _ _ _
   | exact ih1 _ _ _ _
   | exact ih2 _ _ _ _ _ _ _ _ _ _ _ _ _ _ _ _ _ _ _ _ _ _ _
   | exact almagestlaw0_Strings.mono _ _
   | exact almagestlaw1_Heavy.mono _ _ _
   | exact almagestlaw1_wakes.mono _
   | exact almagestref0_CopyTerm.mono _ _ _ _ _
   | exact almagestref0_EqStrings.mono _ _ _
   | exact almagestref0_EqTerm.mono _ _ _ _ _ _ _ _ _
   | exact almagestref1_Atom.mono _ _ _ _ _
   | exact almagestref1_Depth.mono _ _ _ _ _
   | exact almagestref1_Ground.mono _ _ _ _ _
   | exact almagestref1_Size.mono _ _ _ _ _
   | exact almagestref1_Term.mono _ _ _ _ _
   | exact almagestref1_Vars.mono _ _ _ _ _
   | exact term_Atom.mono _ _ _ _ _
   | exact term_Depth.mono _ _ _ _ _
   | exact term_Size.mono _ _ _ _ _
   | exact LeO.none _
   | refine LeO.ite ?_ ?_
   | refine LeO.bind ?_ (fun _ => ?_)
theorem almagestlaw1_TermTells.mono : ∀ a0 a1 k, LeO (almagestlaw1_TermTells.f k a0 a1) (almagestlaw1_TermTells.f (k + 1) a0 a1) := by
 intro a0 a1 k
 obtain ⟨ih0, ih1, ih2⟩ := almagestlaw1_TermTells.mono_l k
 unfold almagestlaw1_TermTells.f
 repeat' first
   | (with_reducible exact ih0 _ _ _)
   | (with_reducible exact ih1 _ _ _ _)
   | (with_reducible exact ih2 _ _ _ _ _ _ _ _ _ _ _ _ _ _ _ _ _ _ _ _ _ _ _)
   | (with_reducible exact almagestlaw0_Strings.mono _ _)
   | (with_reducible exact almagestlaw1_Heavy.mono _ _ _)
   | (with_reducible exact almagestlaw1_wakes.mono _)
   | (with_reducible exact almagestref0_CopyTerm.mono _ _ _ _ _)
   | (with_reducible exact almagestref0_EqStrings.mono _ _ _)
   | (with_reducible exact almagestref0_EqTerm.mono _ _ _ _ _ _ _ _ _)
   | (with_reducible exact almagestref1_Atom.mono _ _ _ _ _)
   | (with_reducible exact almagestref1_Depth.mono _ _ _ _ _)
   | (with_reducible exact almagestref1_Ground.mono _ _ _ _ _)
   | (with_reducible exact almagestref1_Size.mono _ _ _ _ _)
   | (with_reducible exact almagestref1_Term.mono _ _ _ _ _)
   | (with_reducible exact almagestref1_Vars.mono _ _ _ _ _)
   | (with_reducible exact term_Atom.mono _ _ _ _ _)
   | (with_reducible exact term_Depth.mono _ _ _ _ _)
   | (with_reducible exact term_Size.mono _ _ _ _ _)
   | (with_reducible exact LeO.refl _)
   | (with_reducible exact LeO.none _)
   | (with_reducible refine LeO.ite ?_ ?_)
   | (with_reducible refine LeO.bind ?_ (fun _ => ?_))
   | exact ih0 _ _ _
   | exact ih1 _ _ _ _
   | exact ih2 _ _ _ _ _ _ _ _ _ _ _ _ _ _ _ _ _ _ _ _ _ _ _
   | exact almagestlaw0_Strings.mono _ _
   | exact almagestlaw1_Heavy.mono _ _ _
   | exact almagestlaw1_wakes.mono _
   | exact almagestref0_CopyTerm.mono _ _ _ _ _
   | exact almagestref0_EqStrings.mono _ _ _
   | exact almagestref0_EqTerm.mono _ _ _ _ _ _ _ _ _
   | exact almagestref1_Atom.mono _ _ _ _ _
   | exact almagestref1_Depth.mono _ _ _ _ _
   | exact almagestref1_Ground.mono _ _ _ _ _
   | exact almagestref1_Size.mono _ _ _ _ _
   | exact almagestref1_Term.mono _ _ _ _ _
   | exact almagestref1_Vars.mono _ _ _ _ _
   | exact term_Atom.mono _ _ _ _ _
   | exact term_Depth.mono _ _ _ _ _
   | exact term_Size.mono _ _ _ _ _
   | exact LeO.none _
   | refine LeO.ite ?_ ?_
   | refine LeO.bind ?_ (fun _ => ?_)
def almagestlaw1_TermTells.T16 : Bool × List (List Nat × List Nat) := (true, [([], []), ([0], [0]), ([], []), ([1, 2], [1, 2]), ([3], [3]), ([4], [4]), ([], []), ([6], [6]), ([], []), ([7, 8], [7, 8]), ([9], [9]), ([10, 5], [10]), ([5, 11, 0, 1, 2, 3, 4, 5], [5]), ([11, 12, 0, 1, 2, 3, 4, 5, 6, 7, 8, 9, 10, 11, 12], [11])])
def almagestlaw1_TermTells.B16 : List Nat := [0, 1, 0, 7, 15, 31, 0, 64, 0, 448, 960, 2047, 4095, 8191]
theorem almagestlaw1_TermTells.tab16 : rtab .any (opsOf Try.f4 16) = almagestlaw1_TermTells.T16 := by kernel_rfl
theorem almagestlaw1_TermTells.bits16 : waitsOk almagestlaw1_TermTells.T16.2 almagestlaw1_TermTells.B16 = true := by kernel_rfl
def almagestlaw1_TermTells.T17 : Bool × List (List Nat × List Nat) := (true, [([], []), ([0], [0]), ([], []), ([1, 2], [1, 2]), ([3], [3]), ([4], [4]), ([], []), ([6], [6]), ([], []), ([7, 8], [7, 8]), ([9], [9]), ([10, 5], [10]), ([], []), ([12], [12]), ([], []), ([13, 14], [13, 14]), ([15], [15]), ([16, 11], [16]), ([5, 17, 0, 1, 2, 3, 4, 5], [5]), ([11, 18, 0, 1, 2, 3, 4, 5, 6, 7, 8, 9, 10, 11, 18], [11]), ([17, 19, 0, 1, 2, 3, 4, 5, 6, 7, 8, 9, 10, 11, 12, 13, 14, 15, 16, 17, 18, 19], [17])])
def almagestlaw1_TermTells.B17 : List Nat := [0, 1, 0, 7, 15, 31, 0, 64, 0, 448, 960, 2047, 0, 4096, 0, 28672, 61440, 131071, 262143, 524287, 1048575]
theorem almagestlaw1_TermTells.tab17 : rtab .any (opsOf Try.f4 17) = almagestlaw1_TermTells.T17 := by kernel_rfl
theorem almagestlaw1_TermTells.bits17 : waitsOk almagestlaw1_TermTells.T17.2 almagestlaw1_TermTells.B17 = true := by kernel_rfl
def almagestlaw1_TermTells.T18 : Bool × List (List Nat × List Nat) := (true, [([], []), ([0], [0]), ([1, 1], [1]), ([], []), ([2, 3], [2, 3]), ([4, 2], [4]), ([5], [5]), ([6, 5, 5], [5, 6]), ([5], [5]), ([7, 8, 5], [5, 7, 8]), ([5, 9], [5, 9]), ([10, 7], [10]), ([11], [11]), ([12, 11, 11], [11, 12]), ([11], [11]), ([13, 14, 11], [11, 13, 14]), ([11, 15], [11, 15]), ([16, 13], [16]), ([17], [17]), ([18, 17, 17], [17, 18]), ([17], [17]), ([19, 20, 17], [17, 19, 20]), ([17, 21], [17, 21]), ([22, 19], [22]), ([23], [23]), ([24, 23, 23], [23, 24]), ([23], [23]), ([25, 26, 23], [23, 25, 26]), ([23, 27], [23, 27]), ([28, 25], [28]), ([29], [29]), ([30, 29, 29], [29, 30]), ([29], [29]), ([31, 32, 29], [29, 31, 32]), ([29, 33], [29, 33]), ([34, 31], [34]), ([35], [35]), ([35], [35]), ([36, 37, 35], [35, 36, 37]), ([35, 38], [35, 38]), ([39, 35], [39]), ([40], [40]), ([40], [40]), ([41, 42, 40], [40, 41, 42]), ([40, 43], [40, 43]), ([44, 40], [44]), ([45], [45]), ([45], [45]), ([46, 47, 45], [45, 46, 47]), ([45, 48], [45, 48]), ([49, 45], [49]), ([50], [50]), ([50], [50]), ([51, 52, 50], [50, 51, 52]), ([50, 53], [50, 53]), ([54, 50], [54]), ([55], [55]), ([55], [55]), ([56, 57, 55, 55], [55, 56, 57]), ([58, 55], [55, 58]), ([55, 59], [55, 59]), ([60, 58], [60]), ([61], [61]), ([61], [61]), ([63, 61], [61, 63]), ([61], [61]), ([64, 65, 61], [61, 64, 65]), ([66, 61], [61, 66]), ([62, 67, 61, 61], [61, 62, 67]), ([68, 61], [61, 68]), ([61, 69], [61, 69])])
def almagestlaw1_TermTells.B18 : List Nat := [0, 1, 3, 0, 15, 31, 63, 127, 63, 511, 1023, 2047, 4095, 8191, 4095, 32767, 65535, 131071, 262143, 524287, 262143, 2097151, 4194303, 8388607, 16777215, 33554431, 16777215, 134217727, 268435455, 536870911, 1073741823, 2147483647, 1073741823, 8589934591, 17179869183, 34359738367, 68719476735, 68719476735, 274877906943, 549755813887, 1099511627775, 2199023255551, 2199023255551, 8796093022207, 17592186044415, 35184372088831, 70368744177663, 70368744177663, 281474976710655, 562949953421311, 1125899906842623, 2251799813685247, 2251799813685247, 9007199254740991, 18014398509481983, 36028797018963967, 72057594037927935, 72057594037927935, 288230376151711743, 576460752303423487, 1152921504606846975, 2305843009213693951, 4611686018427387903, 4611686018427387903, 13835058055282163711, 4611686018427387903, 69175290276410818559, 142962266571249025023, 295147905179352825855, 590295810358705651711, 1180591620717411303423]
theorem almagestlaw1_TermTells.tab18 : rtab .any (opsOf Try.f4 18) = almagestlaw1_TermTells.T18 := by kernel_rfl
theorem almagestlaw1_TermTells.bits18 : waitsOk almagestlaw1_TermTells.T18.2 almagestlaw1_TermTells.B18 = true := by kernel_rfl
open Go.Proofs.YthaoooohomfkcaaW.PrintWords renaming blk_drewN → bN, blk_drew → bD, blk_alloc → bA, pw_below_drewN → pN, below_drew1 → pD, below_alloc → pA, gate_callee → gc, cell_far → cf, blk_frozen → bf, blk_cell → bc
open Go.World renaming block_lt_of_cell? → bl
set_option maxHeartbeats 8000000 in
set_option maxRecDepth 100000 in
theorem almagestlaw1_TermTells.calls (k : Nat) (A0_0 : Option Addr) (c0_0 : Nat) (l0_0 : List (S31)) (A0_1 : Option Addr) (c0_1 : Nat) (l0_1 : List ByteArray) (r : Bool) (w : World) (hr0_0 : Kd.C k31 w A0_0 l0_0.length l0_0) (hc0_0 : l0_0.length ≤ c0_0) (hr0_1 : Kd.C Kd.string w A0_1 l0_1.length l0_1) (hc0_1 : l0_1.length ≤ c0_1) (h : almagestlaw1_TermTells.f k l0_0 l0_1 = some r) :
  Calls Try.prog 4 #[.agg #[.slice A0_0 l0_0.length c0_0, .slice A0_1 l0_1.length c0_1]] w fun e w' => e = .returned (.bool r) ∧ Below w.heap.size w w' := by
 have hu25 := Try.underlying25
 have hu31 := Try.underlying31
 have HR0_0 := Aside0.mk hr0_0
 have HC0_0 := Aside0.mk hc0_0
 clear hr0_0 hc0_0
 have HR0_1 := Aside0.mk hr0_1
 have HC0_1 := Aside0.mk hc0_1
 clear hr0_1 hc0_1
 have HB := Aside0.mk (Below.refl w.heap.size w)
 have H : ((almagestlaw1_Heavy.f k l0_0 l0_1).bind fun t225 => (if t225 = true then (some true) else (almagestlaw1_TermTells.l0 k 0 l0_0 l0_1))) = some r := h
 clear h
 replace H := Option.bind_eq_some_iff.mp H
 obtain ⟨t225, A20, H⟩ := H
 replace H : (if t225 = true then (some true) else (almagestlaw1_TermTells.l0 k 0 l0_0 l0_1)) = some r := H
 have A2 := Aside0.mk A20
 clear A20
 by_cases c3 : t225 = true
 ·
  subst c3
  have H1 : (some true) = some r := by rw [if_pos rfl] at H; exact H
  clear H
  have H := H1
  clear H1
  obtain rfl := Option.some.inj H
  go_enter Try.func4, Try.ntmps4
  go_wp2_with (first | ((with_reducible refine gate_dst (N := 1) rfl ?_); refine box_event ?hg (N := 1) ?hd (cs := #[.slice A0_0 l0_0.length c0_0, .slice A0_1 l0_1.length c0_1]) (t := 25) ?hr ?_; (case hd => rfl); (case hg => rfl); (case hr => first | (go_simp; done) | (go_simp; rfl)); intro gb224 hg w4 hbox hb; have n0_ := Aside0.mk (below_step (by repeat (first | (with_reducible first | exact HB.out | apply pA | apply pN | apply pD) | exact HB.out)) hb); have n1_ := Aside0.mk (hbox); have n2_ := Aside0.mk ((by rw [hg]; exact (below_size (by repeat (first | (with_reducible first | exact HB.out | apply pA | apply pN | apply pD) | exact HB.out))) : w.heap.size ≤ gb224)); have n3_ := Aside0.mk ((by rw [hg]; exact (below_size (by repeat (first | (with_reducible first | exact HB.out | apply pA | apply pN | apply pD) | exact HB.out))) : w.heap.size ≤ gb224)); clear HB; have HB := n0_; have BK224 := n1_; have GW224 := n2_; have GE224 := n3_; clear n0_ n1_ n2_ n3_; clear hb hbox hg; have hcz5_0 : w4.cell? ⟨gb224, 0, none⟩ = some (.slice A0_0 l0_0.length c0_0) := (bc BK224.out 0).trans rfl; have hcz5_1 : w4.cell? ⟨gb224, 1, none⟩ = some (.slice A0_1 l0_1.length c0_1) := (bc BK224.out 1).trans rfl; have hfz5_0 := bf BK224.out 0; have hfz5_1 := bf BK224.out 1) | ((with_reducible refine gc (f := 11) rfl ?_); refine goesL_ (some 22) rfl rfl Try.func11 (by kernel_rfl) rfl #[.agg #[.slice A0_0 l0_0.length c0_0, .slice A0_1 l0_1.length c0_1]] rfl (by (try simp only [List.map_toArray, List.map_cons, List.map_nil]); first | done | rfl | (simp only [List.length_drop, List.length_take]; rfl)) ?_; (with_reducible refine (almagestlaw1_Heavy.calls k _ _ l0_0 _ _ l0_1 true _ ?side1 ?side2 ?side3 ?side4 A2.out).mono ?_); (case side1 => repeat (first | exact (Kd.C_below HR0_0.out HB.out) | (with_reducible refine Kd.C_alloc ?_ _) | (with_reducible refine Kd.C_drewN ?_ _) | (with_reducible refine Kd.C_drew ?_))); (case side2 => exact HC0_0.out); (case side3 => repeat (first | exact (Kd.C_below HR0_1.out HB.out) | (with_reducible refine Kd.C_alloc ?_ _) | (with_reducible refine Kd.C_drewN ?_ _) | (with_reducible refine Kd.C_drew ?_))); (case side4 => exact HC0_1.out); rintro e w6 ⟨rfl, hb⟩; refine ⟨_, rfl, ?_⟩; have n0_ := Aside0.mk (blk_below (g := gb224) (o := .cells #[.slice A0_0 l0_0.length c0_0, .slice A0_1 l0_1.length c0_1] 25 (0, 0)) (by (with_reducible repeat (first | refine bN ?_ _ | refine bD ?_ | refine bA ?_ _)); exact BK224.out) hb); have n1_ := Aside0.mk (below_step (by repeat (first | (with_reducible first | exact HB.out | apply pA | apply pN | apply pD | refine below_set ?_ GE224.out) | exact HB.out)) hb); clear BK224; clear HB; have BK224 := n0_; have HB := n1_; clear n0_ n1_; (try clear hb); (try clear hb2); (try clear hk); (try clear hi)))
  go_ret
  exact ⟨by first | rfl | (simp [errW_none, errW_some] <;> rfl) | (simp [*, errW_none, errW_some] <;> rfl), by repeat (first | (with_reducible first | exact HB.out | apply pA | apply pN | apply pD | refine below_set ?_ GE224.out) | exact HB.out)⟩
 ·
  replace c3 := Bool.eq_false_iff.mpr c3
  subst c3
  have H1 : (almagestlaw1_TermTells.l0 k 0 l0_0 l0_1) = some r := by rw [if_neg (show ¬ (false = true) by decide)] at H; exact H
  clear H
  have H := H1
  clear H1
  have H' := Aside0.mk H
  clear H
  go_enter Try.func4, Try.ntmps4
  go_wp2_with (first | ((with_reducible refine gate_dst (N := 1) rfl ?_); refine box_event ?hg (N := 1) ?hd (cs := #[.slice A0_0 l0_0.length c0_0, .slice A0_1 l0_1.length c0_1]) (t := 25) ?hr ?_; (case hd => rfl); (case hg => rfl); (case hr => first | (go_simp; done) | (go_simp; rfl)); intro gb224 hg w7 hbox hb; have n0_ := Aside0.mk (below_step (by repeat (first | (with_reducible first | exact HB.out | apply pA | apply pN | apply pD) | exact HB.out)) hb); have n1_ := Aside0.mk (hbox); have n2_ := Aside0.mk ((by rw [hg]; exact (below_size (by repeat (first | (with_reducible first | exact HB.out | apply pA | apply pN | apply pD) | exact HB.out))) : w.heap.size ≤ gb224)); have n3_ := Aside0.mk ((by rw [hg]; exact (below_size (by repeat (first | (with_reducible first | exact HB.out | apply pA | apply pN | apply pD) | exact HB.out))) : w.heap.size ≤ gb224)); clear HB; have HB := n0_; have BK224 := n1_; have GW224 := n2_; have GE224 := n3_; clear n0_ n1_ n2_ n3_; clear hb hbox hg; have hcz8_0 : w7.cell? ⟨gb224, 0, none⟩ = some (.slice A0_0 l0_0.length c0_0) := (bc BK224.out 0).trans rfl; have hcz8_1 : w7.cell? ⟨gb224, 1, none⟩ = some (.slice A0_1 l0_1.length c0_1) := (bc BK224.out 1).trans rfl; have hfz8_0 := bf BK224.out 0; have hfz8_1 := bf BK224.out 1) | ((with_reducible refine gc (f := 11) rfl ?_); refine goesL_ (some 22) rfl rfl Try.func11 (by kernel_rfl) rfl #[.agg #[.slice A0_0 l0_0.length c0_0, .slice A0_1 l0_1.length c0_1]] rfl (by (try simp only [List.map_toArray, List.map_cons, List.map_nil]); first | done | rfl | (simp only [List.length_drop, List.length_take]; rfl)) ?_; (with_reducible refine (almagestlaw1_Heavy.calls k _ _ l0_0 _ _ l0_1 false _ ?side1 ?side2 ?side3 ?side4 A2.out).mono ?_); (case side1 => repeat (first | exact (Kd.C_below HR0_0.out HB.out) | (with_reducible refine Kd.C_alloc ?_ _) | (with_reducible refine Kd.C_drewN ?_ _) | (with_reducible refine Kd.C_drew ?_))); (case side2 => exact HC0_0.out); (case side3 => repeat (first | exact (Kd.C_below HR0_1.out HB.out) | (with_reducible refine Kd.C_alloc ?_ _) | (with_reducible refine Kd.C_drewN ?_ _) | (with_reducible refine Kd.C_drew ?_))); (case side4 => exact HC0_1.out); rintro e w9 ⟨rfl, hb⟩; refine ⟨_, rfl, ?_⟩; have n0_ := Aside0.mk (blk_below (g := gb224) (o := .cells #[.slice A0_0 l0_0.length c0_0, .slice A0_1 l0_1.length c0_1] 25 (0, 0)) (by (with_reducible repeat (first | refine bN ?_ _ | refine bD ?_ | refine bA ?_ _)); exact BK224.out) hb); have n1_ := Aside0.mk (below_step (by repeat (first | (with_reducible first | exact HB.out | apply pA | apply pN | apply pD | refine below_set ?_ GE224.out) | exact HB.out)) hb); clear BK224; clear HB; have BK224 := n0_; have HB := n1_; clear n0_ n1_; (try clear hb); (try clear hb2); (try clear hk); (try clear hi)))
  go_loopg [3] k (fun kq v3 w' => ∃ (x3_1 : Int), v3 = .int .i64 x3_1 ∧ Aside0 (almagestlaw1_TermTells.l0 kq x3_1 l0_0 l0_1 = some r) ∧ Aside0 (kq ≤ k) ∧ Aside0 (w'.heap[gb224]? = some (.cells #[(.slice A0_0 l0_0.length c0_0), (.slice A0_1 l0_1.length c0_1)] 25 (0, 0))) ∧ Aside0 (Below w.heap.size w w'))
  case atStart => exact ⟨(0), (by first | rfl | (simp; done) | (simp [*]; done)), H', ⟨Nat.le_refl _⟩, ⟨by (with_reducible repeat (first | refine bN ?_ _ | refine bD ?_ | refine bA ?_ _)); exact BK224.out⟩, ⟨by repeat (first | (with_reducible first | exact HB.out | apply pA | apply pN | apply pD | refine below_set ?_ GE224.out) | exact HB.out)⟩⟩
  case round =>
   clear H'
   try clear c1
   try clear p2
   try clear c3
   try clear c4
   try clear hcz5_0
   try clear hcz5_1
   try clear hcz8_0
   try clear hcz8_1
   try clear hfz5_0
   try clear hfz5_1
   try clear hfz8_0
   try clear hfz8_1
   obtain ⟨x3_1, rfl, HA, HK1, BK224, HB⟩ := hrel
   cases gk with
   | zero => exact absurd HA.out (by simp [almagestlaw1_TermTells.l0])
   | succ k1 =>
    have H := HA.out
    clear HA
    simp only [almagestlaw1_TermTells.l0] at H
    have HC10 := Aside0.mk H
    clear H
    go_upto_region 4 with (fail)
    go_cut [31] (fun v31 wc => ∃ (kq : Nat) (x31_9 : Bool), v31 = .bool x31_9 ∧ Aside0 (almagestlaw1_TermTells.j1 kq x3_1 x31_9 l0_0 l0_1 = some r) ∧ Aside0 (kq ≤ k1) ∧ Aside0 (wc.heap[gb224]? = some (.cells #[(.slice A0_0 l0_0.length c0_0), (.slice A0_1 l0_1.length c0_1)] 25 (0, 0))) ∧ Aside0 (Below w.heap.size w wc))
    case first =>
     have H := HC10.out
     clear HC10
     by_cases c11 : x3_1 < (l0_0.length : Int)
     ·
      rw [if_pos c11] at H
      have c11b0 : decide (x3_1 < (l0_0.length : Int)) = true := decide_eq_true c11
      clear c11
      (first | rw [c11b0] | (simp only [i64_w, i32_w]; rw [c11b0]) | skip)
      have H' := Aside0.mk H
      clear H
      have hcz12_0 : wr.cell? ⟨gb224, 0, none⟩ = some (.slice A0_0 l0_0.length c0_0) := (bc BK224.out 0).trans rfl
      have hcz12_1 : wr.cell? ⟨gb224, 1, none⟩ = some (.slice A0_1 l0_1.length c0_1) := (bc BK224.out 1).trans rfl
      have hfz12_0 := bf BK224.out 0
      have hfz12_1 := bf BK224.out 1
      go_wp2
      go_meet
      case rel => exact ⟨_, (decide (x3_1 < 6)), (by first | rfl | (simp; done) | (simp [*]; done)), H', ⟨by have := HK1.out; first | omega | exact Nat.le_refl _⟩, ⟨by (with_reducible repeat (first | refine bN ?_ _ | refine bD ?_ | refine bA ?_ _)); exact BK224.out⟩, ⟨by repeat (first | (with_reducible first | exact HB.out | apply pA | apply pN | apply pD | refine below_set ?_ GE224.out) | exact HB.out)⟩⟩
     ·
      rw [if_neg c11] at H
      have c11b0 : decide (x3_1 < (l0_0.length : Int)) = false := decide_eq_false c11
      clear c11
      (first | rw [c11b0] | (simp only [i64_w, i32_w]; rw [c11b0]) | skip)
      have H' := Aside0.mk H
      clear H
      have hcz13_0 : wr.cell? ⟨gb224, 0, none⟩ = some (.slice A0_0 l0_0.length c0_0) := (bc BK224.out 0).trans rfl
      have hcz13_1 : wr.cell? ⟨gb224, 1, none⟩ = some (.slice A0_1 l0_1.length c0_1) := (bc BK224.out 1).trans rfl
      have hfz13_0 := bf BK224.out 0
      have hfz13_1 := bf BK224.out 1
      go_wp2
      go_meet
      case rel => exact ⟨_, (false), (by first | rfl | (simp; done) | (simp [*]; done)), H', ⟨by have := HK1.out; first | omega | exact Nat.le_refl _⟩, ⟨by (with_reducible repeat (first | refine bN ?_ _ | refine bD ?_ | refine bA ?_ _)); exact BK224.out⟩, ⟨by repeat (first | (with_reducible first | exact HB.out | apply pA | apply pN | apply pD | refine below_set ?_ GE224.out) | exact HB.out)⟩⟩
    case rest =>
     clear HC10
     try clear c1
     try clear p2
     try clear c3
     try clear c4
     try clear c11
     try clear c11b0
     try clear hcz12_0
     try clear hcz12_1
     try clear hcz13_0
     try clear hcz13_1
     try clear hcz5_0
     try clear hcz5_1
     try clear hcz8_0
     try clear hcz8_1
     try clear hfz12_0
     try clear hfz12_1
     try clear hfz13_0
     try clear hfz13_1
     try clear hfz5_0
     try clear hfz5_1
     try clear hfz8_0
     try clear hfz8_1
     try clear p2
     obtain ⟨kq, x31_9, rfl, HA, HJ9, BK224, HB⟩ := hcut
     cases kq with
     | zero => exact absurd HA.out (by simp [almagestlaw1_TermTells.j1])
     | succ kj9 =>
      have H := HA.out
      clear HA
      simp only [almagestlaw1_TermTells.j1] at H
      by_cases c14 : x31_9 = true
      ·
       subst c14
       have H1 : (if 0 ≤ x3_1 then (if x3_1 < (l0_0.length : Int) then ((almagestref0_CopyTerm.f kj9 ((rd_T31 l0_0 x3_1).f0) ((rd_T31 l0_0 x3_1).f1) ((rd_T31 l0_0 x3_1).f2) ((rd_T31 l0_0 x3_1).f3)).bind fun bt228 => ((term_Depth.f kj9 bt228.1 bt228.2.1 bt228.2.2.1 bt228.2.2.2).bind fun bt235 => ((term_Size.f kj9 bt228.1 bt228.2.1 bt228.2.2.1 bt228.2.2.2).bind fun bt237 => ((term_Ground.f bt228.1 bt228.2.1 bt228.2.2.1 bt228.2.2.2).bind fun bt239 => ((term_Atom.f kj9 bt228.1 bt228.2.1 bt228.2.2.1 bt228.2.2.2).bind fun bt241 => ((term_Vars.f bt228.1 bt228.2.1 bt228.2.2.1 bt228.2.2.2).bind fun bt243 => ((almagestref1_Term.f kj9 ((rd_T31 l0_0 x3_1).f0) ((rd_T31 l0_0 x3_1).f1) ((rd_T31 l0_0 x3_1).f2) ((rd_T31 l0_0 x3_1).f3)).bind fun t248 => (if t248 = true then ((almagestref1_Depth.f kj9 ((rd_T31 l0_0 x3_1).f0) ((rd_T31 l0_0 x3_1).f1) ((rd_T31 l0_0 x3_1).f2) ((rd_T31 l0_0 x3_1).f3)).bind fun t250 => ((almagestref1_Size.f kj9 ((rd_T31 l0_0 x3_1).f0) ((rd_T31 l0_0 x3_1).f1) ((rd_T31 l0_0 x3_1).f2) ((rd_T31 l0_0 x3_1).f3)).bind fun t252 => ((almagestref1_Ground.f kj9 ((rd_T31 l0_0 x3_1).f0) ((rd_T31 l0_0 x3_1).f1) ((rd_T31 l0_0 x3_1).f2) ((rd_T31 l0_0 x3_1).f3)).bind fun t254 => ((almagestref1_Atom.f kj9 ((rd_T31 l0_0 x3_1).f0) ((rd_T31 l0_0 x3_1).f1) ((rd_T31 l0_0 x3_1).f2) ((rd_T31 l0_0 x3_1).f3)).bind fun t256 => ((almagestref1_Vars.f kj9 ((rd_T31 l0_0 x3_1).f0) ((rd_T31 l0_0 x3_1).f1) ((rd_T31 l0_0 x3_1).f2) ((rd_T31 l0_0 x3_1).f3)).bind fun t258 => (almagestlaw1_TermTells.j2 kj9 x3_1 bt235.1 bt235.2 bt237.1 bt237.2 bt239.1 bt239.2 bt241.1 bt241.2 bt243.1 bt243.2 0 t250 t252 t254 t256 t258 l0_0 l0_1 bt228.1 bt228.2.1 bt228.2.2.1 bt228.2.2.2)))))) else (almagestlaw1_TermTells.j2 kj9 x3_1 bt235.1 bt235.2 bt237.1 bt237.2 bt239.1 bt239.2 bt241.1 bt241.2 bt243.1 bt243.2 1 0 0 false false ([] : List ByteArray) l0_0 l0_1 bt228.1 bt228.2.1 bt228.2.2.1 bt228.2.2.2))))))))) else (none)) else (none)) = some r := by rw [if_pos rfl] at H; exact H
       clear H
       have H := H1
       clear H1
       by_cases c15 : 0 ≤ x3_1
       ·
        rw [if_pos c15] at H
        have c15b0 : decide (0 ≤ x3_1) = true := decide_eq_true c15
        clear c15
        by_cases c16 : x3_1 < (l0_0.length : Int)
        ·
         rw [if_pos c16] at H
         have c16b0 : decide (x3_1 < (l0_0.length : Int)) = true := decide_eq_true c16
         clear c16
         replace H := Option.bind_eq_some_iff.mp H
         obtain ⟨⟨t228, t229, t230, t231⟩, A170, H⟩ := H
         replace H : ((term_Depth.f kj9 t228 t229 t230 t231).bind fun bt235 => ((term_Size.f kj9 t228 t229 t230 t231).bind fun bt237 => ((term_Ground.f t228 t229 t230 t231).bind fun bt239 => ((term_Atom.f kj9 t228 t229 t230 t231).bind fun bt241 => ((term_Vars.f t228 t229 t230 t231).bind fun bt243 => ((almagestref1_Term.f kj9 ((rd_T31 l0_0 x3_1).f0) ((rd_T31 l0_0 x3_1).f1) ((rd_T31 l0_0 x3_1).f2) ((rd_T31 l0_0 x3_1).f3)).bind fun t248 => (if t248 = true then ((almagestref1_Depth.f kj9 ((rd_T31 l0_0 x3_1).f0) ((rd_T31 l0_0 x3_1).f1) ((rd_T31 l0_0 x3_1).f2) ((rd_T31 l0_0 x3_1).f3)).bind fun t250 => ((almagestref1_Size.f kj9 ((rd_T31 l0_0 x3_1).f0) ((rd_T31 l0_0 x3_1).f1) ((rd_T31 l0_0 x3_1).f2) ((rd_T31 l0_0 x3_1).f3)).bind fun t252 => ((almagestref1_Ground.f kj9 ((rd_T31 l0_0 x3_1).f0) ((rd_T31 l0_0 x3_1).f1) ((rd_T31 l0_0 x3_1).f2) ((rd_T31 l0_0 x3_1).f3)).bind fun t254 => ((almagestref1_Atom.f kj9 ((rd_T31 l0_0 x3_1).f0) ((rd_T31 l0_0 x3_1).f1) ((rd_T31 l0_0 x3_1).f2) ((rd_T31 l0_0 x3_1).f3)).bind fun t256 => ((almagestref1_Vars.f kj9 ((rd_T31 l0_0 x3_1).f0) ((rd_T31 l0_0 x3_1).f1) ((rd_T31 l0_0 x3_1).f2) ((rd_T31 l0_0 x3_1).f3)).bind fun t258 => (almagestlaw1_TermTells.j2 kj9 x3_1 bt235.1 bt235.2 bt237.1 bt237.2 bt239.1 bt239.2 bt241.1 bt241.2 bt243.1 bt243.2 0 t250 t252 t254 t256 t258 l0_0 l0_1 t228 t229 t230 t231)))))) else (almagestlaw1_TermTells.j2 kj9 x3_1 bt235.1 bt235.2 bt237.1 bt237.2 bt239.1 bt239.2 bt241.1 bt241.2 bt243.1 bt243.2 1 0 0 false false ([] : List ByteArray) l0_0 l0_1 t228 t229 t230 t231)))))))) = some r := H
         have A17 := Aside0.mk A170
         clear A170
         replace H := Option.bind_eq_some_iff.mp H
         obtain ⟨⟨t235, t236⟩, A180, H⟩ := H
         replace H : ((term_Size.f kj9 t228 t229 t230 t231).bind fun bt237 => ((term_Ground.f t228 t229 t230 t231).bind fun bt239 => ((term_Atom.f kj9 t228 t229 t230 t231).bind fun bt241 => ((term_Vars.f t228 t229 t230 t231).bind fun bt243 => ((almagestref1_Term.f kj9 ((rd_T31 l0_0 x3_1).f0) ((rd_T31 l0_0 x3_1).f1) ((rd_T31 l0_0 x3_1).f2) ((rd_T31 l0_0 x3_1).f3)).bind fun t248 => (if t248 = true then ((almagestref1_Depth.f kj9 ((rd_T31 l0_0 x3_1).f0) ((rd_T31 l0_0 x3_1).f1) ((rd_T31 l0_0 x3_1).f2) ((rd_T31 l0_0 x3_1).f3)).bind fun t250 => ((almagestref1_Size.f kj9 ((rd_T31 l0_0 x3_1).f0) ((rd_T31 l0_0 x3_1).f1) ((rd_T31 l0_0 x3_1).f2) ((rd_T31 l0_0 x3_1).f3)).bind fun t252 => ((almagestref1_Ground.f kj9 ((rd_T31 l0_0 x3_1).f0) ((rd_T31 l0_0 x3_1).f1) ((rd_T31 l0_0 x3_1).f2) ((rd_T31 l0_0 x3_1).f3)).bind fun t254 => ((almagestref1_Atom.f kj9 ((rd_T31 l0_0 x3_1).f0) ((rd_T31 l0_0 x3_1).f1) ((rd_T31 l0_0 x3_1).f2) ((rd_T31 l0_0 x3_1).f3)).bind fun t256 => ((almagestref1_Vars.f kj9 ((rd_T31 l0_0 x3_1).f0) ((rd_T31 l0_0 x3_1).f1) ((rd_T31 l0_0 x3_1).f2) ((rd_T31 l0_0 x3_1).f3)).bind fun t258 => (almagestlaw1_TermTells.j2 kj9 x3_1 t235 t236 bt237.1 bt237.2 bt239.1 bt239.2 bt241.1 bt241.2 bt243.1 bt243.2 0 t250 t252 t254 t256 t258 l0_0 l0_1 t228 t229 t230 t231)))))) else (almagestlaw1_TermTells.j2 kj9 x3_1 t235 t236 bt237.1 bt237.2 bt239.1 bt239.2 bt241.1 bt241.2 bt243.1 bt243.2 1 0 0 false false ([] : List ByteArray) l0_0 l0_1 t228 t229 t230 t231))))))) = some r := H
         have A18 := Aside0.mk A180
         clear A180
         replace H := Option.bind_eq_some_iff.mp H
         obtain ⟨⟨t237, t238⟩, A190, H⟩ := H
         replace H : ((term_Ground.f t228 t229 t230 t231).bind fun bt239 => ((term_Atom.f kj9 t228 t229 t230 t231).bind fun bt241 => ((term_Vars.f t228 t229 t230 t231).bind fun bt243 => ((almagestref1_Term.f kj9 ((rd_T31 l0_0 x3_1).f0) ((rd_T31 l0_0 x3_1).f1) ((rd_T31 l0_0 x3_1).f2) ((rd_T31 l0_0 x3_1).f3)).bind fun t248 => (if t248 = true then ((almagestref1_Depth.f kj9 ((rd_T31 l0_0 x3_1).f0) ((rd_T31 l0_0 x3_1).f1) ((rd_T31 l0_0 x3_1).f2) ((rd_T31 l0_0 x3_1).f3)).bind fun t250 => ((almagestref1_Size.f kj9 ((rd_T31 l0_0 x3_1).f0) ((rd_T31 l0_0 x3_1).f1) ((rd_T31 l0_0 x3_1).f2) ((rd_T31 l0_0 x3_1).f3)).bind fun t252 => ((almagestref1_Ground.f kj9 ((rd_T31 l0_0 x3_1).f0) ((rd_T31 l0_0 x3_1).f1) ((rd_T31 l0_0 x3_1).f2) ((rd_T31 l0_0 x3_1).f3)).bind fun t254 => ((almagestref1_Atom.f kj9 ((rd_T31 l0_0 x3_1).f0) ((rd_T31 l0_0 x3_1).f1) ((rd_T31 l0_0 x3_1).f2) ((rd_T31 l0_0 x3_1).f3)).bind fun t256 => ((almagestref1_Vars.f kj9 ((rd_T31 l0_0 x3_1).f0) ((rd_T31 l0_0 x3_1).f1) ((rd_T31 l0_0 x3_1).f2) ((rd_T31 l0_0 x3_1).f3)).bind fun t258 => (almagestlaw1_TermTells.j2 kj9 x3_1 t235 t236 t237 t238 bt239.1 bt239.2 bt241.1 bt241.2 bt243.1 bt243.2 0 t250 t252 t254 t256 t258 l0_0 l0_1 t228 t229 t230 t231)))))) else (almagestlaw1_TermTells.j2 kj9 x3_1 t235 t236 t237 t238 bt239.1 bt239.2 bt241.1 bt241.2 bt243.1 bt243.2 1 0 0 false false ([] : List ByteArray) l0_0 l0_1 t228 t229 t230 t231)))))) = some r := H
         have A19 := Aside0.mk A190
         clear A190
         replace H := Option.bind_eq_some_iff.mp H
         obtain ⟨⟨t239, t240⟩, A200, H⟩ := H
         replace H : ((term_Atom.f kj9 t228 t229 t230 t231).bind fun bt241 => ((term_Vars.f t228 t229 t230 t231).bind fun bt243 => ((almagestref1_Term.f kj9 ((rd_T31 l0_0 x3_1).f0) ((rd_T31 l0_0 x3_1).f1) ((rd_T31 l0_0 x3_1).f2) ((rd_T31 l0_0 x3_1).f3)).bind fun t248 => (if t248 = true then ((almagestref1_Depth.f kj9 ((rd_T31 l0_0 x3_1).f0) ((rd_T31 l0_0 x3_1).f1) ((rd_T31 l0_0 x3_1).f2) ((rd_T31 l0_0 x3_1).f3)).bind fun t250 => ((almagestref1_Size.f kj9 ((rd_T31 l0_0 x3_1).f0) ((rd_T31 l0_0 x3_1).f1) ((rd_T31 l0_0 x3_1).f2) ((rd_T31 l0_0 x3_1).f3)).bind fun t252 => ((almagestref1_Ground.f kj9 ((rd_T31 l0_0 x3_1).f0) ((rd_T31 l0_0 x3_1).f1) ((rd_T31 l0_0 x3_1).f2) ((rd_T31 l0_0 x3_1).f3)).bind fun t254 => ((almagestref1_Atom.f kj9 ((rd_T31 l0_0 x3_1).f0) ((rd_T31 l0_0 x3_1).f1) ((rd_T31 l0_0 x3_1).f2) ((rd_T31 l0_0 x3_1).f3)).bind fun t256 => ((almagestref1_Vars.f kj9 ((rd_T31 l0_0 x3_1).f0) ((rd_T31 l0_0 x3_1).f1) ((rd_T31 l0_0 x3_1).f2) ((rd_T31 l0_0 x3_1).f3)).bind fun t258 => (almagestlaw1_TermTells.j2 kj9 x3_1 t235 t236 t237 t238 t239 t240 bt241.1 bt241.2 bt243.1 bt243.2 0 t250 t252 t254 t256 t258 l0_0 l0_1 t228 t229 t230 t231)))))) else (almagestlaw1_TermTells.j2 kj9 x3_1 t235 t236 t237 t238 t239 t240 bt241.1 bt241.2 bt243.1 bt243.2 1 0 0 false false ([] : List ByteArray) l0_0 l0_1 t228 t229 t230 t231))))) = some r := H
         have A20 := Aside0.mk A200
         clear A200
         replace H := Option.bind_eq_some_iff.mp H
         obtain ⟨⟨t241, t242⟩, A210, H⟩ := H
         replace H : ((term_Vars.f t228 t229 t230 t231).bind fun bt243 => ((almagestref1_Term.f kj9 ((rd_T31 l0_0 x3_1).f0) ((rd_T31 l0_0 x3_1).f1) ((rd_T31 l0_0 x3_1).f2) ((rd_T31 l0_0 x3_1).f3)).bind fun t248 => (if t248 = true then ((almagestref1_Depth.f kj9 ((rd_T31 l0_0 x3_1).f0) ((rd_T31 l0_0 x3_1).f1) ((rd_T31 l0_0 x3_1).f2) ((rd_T31 l0_0 x3_1).f3)).bind fun t250 => ((almagestref1_Size.f kj9 ((rd_T31 l0_0 x3_1).f0) ((rd_T31 l0_0 x3_1).f1) ((rd_T31 l0_0 x3_1).f2) ((rd_T31 l0_0 x3_1).f3)).bind fun t252 => ((almagestref1_Ground.f kj9 ((rd_T31 l0_0 x3_1).f0) ((rd_T31 l0_0 x3_1).f1) ((rd_T31 l0_0 x3_1).f2) ((rd_T31 l0_0 x3_1).f3)).bind fun t254 => ((almagestref1_Atom.f kj9 ((rd_T31 l0_0 x3_1).f0) ((rd_T31 l0_0 x3_1).f1) ((rd_T31 l0_0 x3_1).f2) ((rd_T31 l0_0 x3_1).f3)).bind fun t256 => ((almagestref1_Vars.f kj9 ((rd_T31 l0_0 x3_1).f0) ((rd_T31 l0_0 x3_1).f1) ((rd_T31 l0_0 x3_1).f2) ((rd_T31 l0_0 x3_1).f3)).bind fun t258 => (almagestlaw1_TermTells.j2 kj9 x3_1 t235 t236 t237 t238 t239 t240 t241 t242 bt243.1 bt243.2 0 t250 t252 t254 t256 t258 l0_0 l0_1 t228 t229 t230 t231)))))) else (almagestlaw1_TermTells.j2 kj9 x3_1 t235 t236 t237 t238 t239 t240 t241 t242 bt243.1 bt243.2 1 0 0 false false ([] : List ByteArray) l0_0 l0_1 t228 t229 t230 t231)))) = some r := H
         have A21 := Aside0.mk A210
         clear A210
         replace H := Option.bind_eq_some_iff.mp H
         obtain ⟨⟨t243, t246⟩, A220, H⟩ := H
         replace H : ((almagestref1_Term.f kj9 ((rd_T31 l0_0 x3_1).f0) ((rd_T31 l0_0 x3_1).f1) ((rd_T31 l0_0 x3_1).f2) ((rd_T31 l0_0 x3_1).f3)).bind fun t248 => (if t248 = true then ((almagestref1_Depth.f kj9 ((rd_T31 l0_0 x3_1).f0) ((rd_T31 l0_0 x3_1).f1) ((rd_T31 l0_0 x3_1).f2) ((rd_T31 l0_0 x3_1).f3)).bind fun t250 => ((almagestref1_Size.f kj9 ((rd_T31 l0_0 x3_1).f0) ((rd_T31 l0_0 x3_1).f1) ((rd_T31 l0_0 x3_1).f2) ((rd_T31 l0_0 x3_1).f3)).bind fun t252 => ((almagestref1_Ground.f kj9 ((rd_T31 l0_0 x3_1).f0) ((rd_T31 l0_0 x3_1).f1) ((rd_T31 l0_0 x3_1).f2) ((rd_T31 l0_0 x3_1).f3)).bind fun t254 => ((almagestref1_Atom.f kj9 ((rd_T31 l0_0 x3_1).f0) ((rd_T31 l0_0 x3_1).f1) ((rd_T31 l0_0 x3_1).f2) ((rd_T31 l0_0 x3_1).f3)).bind fun t256 => ((almagestref1_Vars.f kj9 ((rd_T31 l0_0 x3_1).f0) ((rd_T31 l0_0 x3_1).f1) ((rd_T31 l0_0 x3_1).f2) ((rd_T31 l0_0 x3_1).f3)).bind fun t258 => (almagestlaw1_TermTells.j2 kj9 x3_1 t235 t236 t237 t238 t239 t240 t241 t242 t243 t246 0 t250 t252 t254 t256 t258 l0_0 l0_1 t228 t229 t230 t231)))))) else (almagestlaw1_TermTells.j2 kj9 x3_1 t235 t236 t237 t238 t239 t240 t241 t242 t243 t246 1 0 0 false false ([] : List ByteArray) l0_0 l0_1 t228 t229 t230 t231))) = some r := H
         have A22 := Aside0.mk A220
         clear A220
         replace H := Option.bind_eq_some_iff.mp H
         obtain ⟨t248, A230, H⟩ := H
         replace H : (if t248 = true then ((almagestref1_Depth.f kj9 ((rd_T31 l0_0 x3_1).f0) ((rd_T31 l0_0 x3_1).f1) ((rd_T31 l0_0 x3_1).f2) ((rd_T31 l0_0 x3_1).f3)).bind fun t250 => ((almagestref1_Size.f kj9 ((rd_T31 l0_0 x3_1).f0) ((rd_T31 l0_0 x3_1).f1) ((rd_T31 l0_0 x3_1).f2) ((rd_T31 l0_0 x3_1).f3)).bind fun t252 => ((almagestref1_Ground.f kj9 ((rd_T31 l0_0 x3_1).f0) ((rd_T31 l0_0 x3_1).f1) ((rd_T31 l0_0 x3_1).f2) ((rd_T31 l0_0 x3_1).f3)).bind fun t254 => ((almagestref1_Atom.f kj9 ((rd_T31 l0_0 x3_1).f0) ((rd_T31 l0_0 x3_1).f1) ((rd_T31 l0_0 x3_1).f2) ((rd_T31 l0_0 x3_1).f3)).bind fun t256 => ((almagestref1_Vars.f kj9 ((rd_T31 l0_0 x3_1).f0) ((rd_T31 l0_0 x3_1).f1) ((rd_T31 l0_0 x3_1).f2) ((rd_T31 l0_0 x3_1).f3)).bind fun t258 => (almagestlaw1_TermTells.j2 kj9 x3_1 t235 t236 t237 t238 t239 t240 t241 t242 t243 t246 0 t250 t252 t254 t256 t258 l0_0 l0_1 t228 t229 t230 t231)))))) else (almagestlaw1_TermTells.j2 kj9 x3_1 t235 t236 t237 t238 t239 t240 t241 t242 t243 t246 1 0 0 false false ([] : List ByteArray) l0_0 l0_1 t228 t229 t230 t231)) = some r := H
         have A23 := Aside0.mk A230
         clear A230
         have HC24 := Aside0.mk H
         clear H
         have hcz25_0 : wc.cell? ⟨gb224, 0, none⟩ = some (.slice A0_0 l0_0.length c0_0) := (bc BK224.out 0).trans rfl
         have hcz25_1 : wc.cell? ⟨gb224, 1, none⟩ = some (.slice A0_1 l0_1.length c0_1) := (bc BK224.out 1).trans rfl
         have hfz25_0 := bf BK224.out 0
         have hfz25_1 := bf BK224.out 1
         have p227 : 0 ≤ (x3_1 : Int) := of_decide_eq_true (by first | (with_reducible assumption) | assumption)
         have q227 : x3_1 < (l0_0.length : Int) := of_decide_eq_true (by first | (with_reducible assumption) | assumption)
         obtain ⟨ad227, A227_3, c227_3, e227, hx227_0, hx227_1, hx227_2, hx227_3, hl227_3, hi227_3⟩ := at_T31 HR0_0.out x3_1 p227 q227
         cases e227
         replace hx227_0 := (HB.out.cell (bl w _ hx227_0)).trans hx227_0
         replace hx227_1 := (HB.out.cell (bl w _ hx227_1)).trans hx227_1
         replace hx227_2 := (HB.out.cell (bl w _ hx227_2)).trans hx227_2
         replace hx227_3 := (HB.out.cell (bl w _ hx227_3)).trans hx227_3
         have HR227_3 := Aside0.mk hi227_3
         have HC227_3 := Aside0.mk hl227_3
         clear hi227_3 hl227_3
         replace p227 := eq_true p227
         replace q227 := eq_true q227
         go_upto_if 70 with (first | ((with_reducible refine gc (f := 17) rfl ?_); refine goesL_ (some 39) rfl rfl Try.func17 (by kernel_rfl) rfl #[.agg #[.int .i64 ((rd_T31 l0_0 x3_1).f0), .string ((rd_T31 l0_0 x3_1).f1), .int .i64 ((rd_T31 l0_0 x3_1).f2), .slice A227_3 ((rd_T31 l0_0 x3_1).f3).length c227_3]] rfl (by (try simp only [List.map_toArray, List.map_cons, List.map_nil]); first | done | rfl | (simp only [List.length_drop, List.length_take]; rfl)) ?_; (with_reducible refine (almagestref0_CopyTerm.calls kj9 ((rd_T31 l0_0 x3_1).f0) ((rd_T31 l0_0 x3_1).f1) ((rd_T31 l0_0 x3_1).f2) _ _ ((rd_T31 l0_0 x3_1).f3) t228 t229 t230 t231 _ ?side1 ?side2 A17.out).mono ?_); (case side1 => repeat (first | exact (Kd.C_below HR227_3.out HB.out) | (with_reducible refine Kd.C_alloc ?_ _) | (with_reducible refine Kd.C_drewN ?_ _) | (with_reducible refine Kd.C_drew ?_))); (case side2 => exact HC227_3.out); rintro e w26 ⟨v232, rfl, ho0, hb⟩; refine ⟨_, rfl, ?_⟩; have n0_ := Aside0.mk (Kd.R_lower ho0 (below_size (by repeat (first | (with_reducible first | exact HB.out | apply pA | apply pN | apply pD | refine below_set ?_ GE224.out) | exact HB.out)))); have n1_ := Aside0.mk (blk_below (g := gb224) (o := .cells #[.slice (some ad227) l0_0.length c0_0, .slice A0_1 l0_1.length c0_1] 25 (0, 0)) (by (with_reducible repeat (first | refine bN ?_ _ | refine bD ?_ | refine bA ?_ _)); exact BK224.out) hb); have n2_ := Aside0.mk (below_step (by repeat (first | (with_reducible first | exact HB.out | apply pA | apply pN | apply pD | refine below_set ?_ GE224.out) | exact HB.out)) hb); clear BK224; clear HB; have HO233 := n0_; have BK224 := n1_; have HB := n2_; clear n0_ n1_ n2_; (try clear hb); (try clear hb2); (try clear hk); (try clear hi); (try clear ho0)) | ((with_reducible refine gate_dst (N := 4) rfl ?_); refine box_event ?hg (N := 4) ?hd (cs := #[.int .i64 0, .string (⟨#[]⟩ : ByteArray), .int .i64 0, .slice none 0 0]) (t := 31) ?hr ?_; (case hd => rfl); (case hg => rfl); (case hr => first | (go_simp; done) | (go_simp; rfl)); intro gb234 hg w27 hbox hb; have n0_ := Aside0.mk (Kd.R_below (Kd.R_elderB (by (with_reducible repeat (first | apply Kd.R_alloc | apply Kd.R_drewN | apply Kd.R_drew)); exact HO233.out) gb234 (Nat.le_of_eq hg.symm)) hb); have n1_ := Aside0.mk (blk_below (g := gb224) (o := .cells #[.slice (some ad227) l0_0.length c0_0, .slice A0_1 l0_1.length c0_1] 25 (0, 0)) (by (with_reducible repeat (first | refine bN ?_ _ | refine bD ?_ | refine bA ?_ _)); exact BK224.out) hb); have n2_ := Aside0.mk (below_step (by repeat (first | (with_reducible first | exact HB.out | apply pA | apply pN | apply pD | refine below_set ?_ GE224.out) | exact HB.out)) hb); have n3_ := Aside0.mk (hbox); have n4_ := Aside0.mk ((by rw [hg]; exact (below_size (by repeat (first | (with_reducible first | exact HB.out | apply pA | apply pN | apply pD | refine below_set ?_ GE224.out) | exact HB.out))) : w.heap.size ≤ gb234)); have n5_ := Aside0.mk ((by rw [hg]; exact (below_size (by repeat (first | (with_reducible first | exact HB.out | apply pA | apply pN | apply pD | refine below_set ?_ GE224.out) | exact HB.out))) : w.heap.size ≤ gb234)); have n6_ := Aside0.mk ((by rw [hg]; exact Nat.ne_of_lt (blk_lt (g := gb224) (o := .cells #[.slice (some ad227) l0_0.length c0_0, .slice A0_1 l0_1.length c0_1] 25 (0, 0)) (by (with_reducible repeat (first | refine bN ?_ _ | refine bD ?_ | refine bA ?_ _)); exact BK224.out)) : gb224 ≠ gb234)); have n7_ := Aside0.mk ((by rw [hg]; exact Nat.ne_of_gt (blk_lt (g := gb224) (o := .cells #[.slice (some ad227) l0_0.length c0_0, .slice A0_1 l0_1.length c0_1] 25 (0, 0)) (by (with_reducible repeat (first | refine bN ?_ _ | refine bD ?_ | refine bA ?_ _)); exact BK224.out)) : gb234 ≠ gb224)); clear HO233; clear BK224; clear HB; have HO233 := n0_; have BK224 := n1_; have HB := n2_; have BK234 := n3_; have GW234 := n4_; have GE234 := n5_; have NB224_234 := n6_; have NB234_224 := n7_; clear n0_ n1_ n2_ n3_ n4_ n5_ n6_ n7_; clear hb hbox hg; have hnb28 := NB234_224.out; have hnc28 := NB224_234.out; have hcz29_0 : w27.cell? ⟨gb234, 0, none⟩ = some (.int .i64 0) := (bc BK234.out 0).trans rfl; have hcz29_1 : w27.cell? ⟨gb234, 1, none⟩ = some (.string (⟨#[]⟩ : ByteArray)) := (bc BK234.out 1).trans rfl; have hcz29_2 : w27.cell? ⟨gb234, 2, none⟩ = some (.int .i64 0) := (bc BK234.out 2).trans rfl; have hcz29_3 : w27.cell? ⟨gb234, 3, none⟩ = some (.slice none 0 0) := (bc BK234.out 3).trans rfl; have hfz29_0 := bf BK234.out 0; have hfz29_1 := bf BK234.out 1; have hfz29_2 := bf BK234.out 2; have hfz29_3 := bf BK234.out 3; obtain ⟨Ao30, co30, eo30⟩ := Kd.R_slice HO233.out; subst eo30) | ((with_reducible refine gc (f := 18) rfl ?_); refine goesL_ (some 42) rfl rfl Try.func18 (by kernel_rfl) rfl #[.agg #[.int .i64 t228, .string t229, .int .i64 t230, .slice Ao30 t231.length co30]] rfl (by (try simp only [List.map_toArray, List.map_cons, List.map_nil]); first | done | rfl | (simp only [List.length_drop, List.length_take]; rfl)) ?_; (with_reducible refine (term_Depth.calls kj9 t228 t229 t230 _ _ t231 t235 t236 _ ?side1 ?side2 A18.out).mono ?_); (case side1 => refine (Kd.R_reads' (e := 31) (base := w.heap.size) (ok := fun k_ => (True ∧ k_ ≠ gb234)) (n := t231.length) (c := co30) ?_).2.2; exact (by (with_reducible repeat (first | apply Kd.R_alloc | apply Kd.R_drewN | apply Kd.R_drew)); exact (Kd.R_mono (Kd.R_far (p := ⟨gb234, 3, none⟩) (Kd.R_far (p := ⟨gb234, 2, none⟩) (Kd.R_far (p := ⟨gb234, 1, none⟩) (Kd.R_far (p := ⟨gb234, 0, none⟩) (Kd.R_mono HO233.out (fun k_ hk => (⟨hk, hk.2⟩ : _ ∧ k_ ≠ gb234))) (fun _ hk => hk.2) (.int .i64 t228)) (fun _ hk => hk.2) (.string t229)) (fun _ hk => hk.2) (.int .i64 t230)) (fun _ hk => hk.2) (.slice Ao30 t231.length co30)) (fun _ h_ => h_.1)))); (case side2 => exact (Kd.R_reads' HO233.out).2.1); rintro e w31 ⟨rfl, hb⟩; refine ⟨_, rfl, ?_⟩; have n0_ := Aside0.mk (Kd.R_below (by (with_reducible repeat (first | apply Kd.R_alloc | apply Kd.R_drewN | apply Kd.R_drew)); exact (Kd.R_mono (Kd.R_far (p := ⟨gb234, 3, none⟩) (Kd.R_far (p := ⟨gb234, 2, none⟩) (Kd.R_far (p := ⟨gb234, 1, none⟩) (Kd.R_far (p := ⟨gb234, 0, none⟩) (Kd.R_mono HO233.out (fun k_ hk => (⟨hk, hk.2⟩ : _ ∧ k_ ≠ gb234))) (fun _ hk => hk.2) (.int .i64 t228)) (fun _ hk => hk.2) (.string t229)) (fun _ hk => hk.2) (.int .i64 t230)) (fun _ hk => hk.2) (.slice Ao30 t231.length co30)) (fun _ h_ => h_.1))) hb); have n1_ := Aside0.mk (blk_below (g := gb224) (o := .cells #[.slice (some ad227) l0_0.length c0_0, .slice A0_1 l0_1.length c0_1] 25 (0, 0)) (by (with_reducible repeat (first | refine bN ?_ _ | refine bD ?_ | refine bA ?_ _)); refine blk_far ?_ NB224_234.out _; (with_reducible repeat (first | refine bN ?_ _ | refine bD ?_ | refine bA ?_ _)); refine blk_far ?_ NB224_234.out _; (with_reducible repeat (first | refine bN ?_ _ | refine bD ?_ | refine bA ?_ _)); refine blk_far ?_ NB224_234.out _; (with_reducible repeat (first | refine bN ?_ _ | refine bD ?_ | refine bA ?_ _)); refine blk_far ?_ NB224_234.out _; (with_reducible repeat (first | refine bN ?_ _ | refine bD ?_ | refine bA ?_ _)); exact BK224.out) hb); have n2_ := Aside0.mk (blk_below (g := gb234) (o := .cells #[.int .i64 t228, .string t229, .int .i64 t230, .slice Ao30 t231.length co30] 31 (0, 0)) (by (with_reducible repeat (first | refine bN ?_ _ | refine bD ?_ | refine bA ?_ _)); refine blk_put (cs := #[.int .i64 t228, .string t229, .int .i64 t230, .slice none 0 0]) ?_ 3 _ rfl; (with_reducible repeat (first | refine bN ?_ _ | refine bD ?_ | refine bA ?_ _)); refine blk_put (cs := #[.int .i64 t228, .string t229, .int .i64 0, .slice none 0 0]) ?_ 2 _ rfl; (with_reducible repeat (first | refine bN ?_ _ | refine bD ?_ | refine bA ?_ _)); refine blk_put (cs := #[.int .i64 t228, .string (⟨#[]⟩ : ByteArray), .int .i64 0, .slice none 0 0]) ?_ 1 _ rfl; (with_reducible repeat (first | refine bN ?_ _ | refine bD ?_ | refine bA ?_ _)); refine blk_put (cs := #[.int .i64 0, .string (⟨#[]⟩ : ByteArray), .int .i64 0, .slice none 0 0]) ?_ 0 _ rfl; (with_reducible repeat (first | refine bN ?_ _ | refine bD ?_ | refine bA ?_ _)); exact BK234.out) hb); have n3_ := Aside0.mk (below_step (by repeat (first | (with_reducible first | exact HB.out | apply pA | apply pN | apply pD | refine below_set ?_ GE224.out | refine below_set ?_ GE234.out) | exact HB.out)) hb); clear HO233; clear BK224; clear BK234; clear HB; have HO233 := n0_; have BK224 := n1_; have BK234 := n2_; have HB := n3_; clear n0_ n1_ n2_ n3_; (try clear hb); (try clear hb2); (try clear hk); (try clear hi); have hcz32_0 : w31.cell? ⟨gb234, 0, none⟩ = some (.int .i64 t228) := (bc BK234.out 0).trans rfl; have hcz32_1 : w31.cell? ⟨gb234, 1, none⟩ = some (.string t229) := (bc BK234.out 1).trans rfl; have hcz32_2 : w31.cell? ⟨gb234, 2, none⟩ = some (.int .i64 t230) := (bc BK234.out 2).trans rfl; have hcz32_3 : w31.cell? ⟨gb234, 3, none⟩ = some (.slice Ao30 t231.length co30) := (bc BK234.out 3).trans rfl; have hfz32_0 := bf BK234.out 0; have hfz32_1 := bf BK234.out 1; have hfz32_2 := bf BK234.out 2; have hfz32_3 := bf BK234.out 3) | ((with_reducible refine gc (f := 19) rfl ?_); refine goesL_ (some 47) rfl rfl Try.func19 (by kernel_rfl) rfl #[.agg #[.int .i64 t228, .string t229, .int .i64 t230, .slice Ao30 t231.length co30]] rfl (by (try simp only [List.map_toArray, List.map_cons, List.map_nil]); first | done | rfl | (simp only [List.length_drop, List.length_take]; rfl)) ?_; (with_reducible refine (term_Size.calls kj9 t228 t229 t230 _ _ t231 t237 t238 _ ?side1 ?side2 A19.out).mono ?_); (case side1 => repeat (first | exact (Kd.R_reads' HO233.out).2.2 | (with_reducible refine Kd.C_alloc ?_ _) | (with_reducible refine Kd.C_drewN ?_ _) | (with_reducible refine Kd.C_drew ?_))); (case side2 => exact (Kd.R_reads' HO233.out).2.1); rintro e w33 ⟨rfl, hb⟩; refine ⟨_, rfl, ?_⟩; have n0_ := Aside0.mk (Kd.R_below (by (with_reducible repeat (first | apply Kd.R_alloc | apply Kd.R_drewN | apply Kd.R_drew)); exact HO233.out) hb); have n1_ := Aside0.mk (blk_below (g := gb224) (o := .cells #[.slice (some ad227) l0_0.length c0_0, .slice A0_1 l0_1.length c0_1] 25 (0, 0)) (by (with_reducible repeat (first | refine bN ?_ _ | refine bD ?_ | refine bA ?_ _)); exact BK224.out) hb); have n2_ := Aside0.mk (blk_below (g := gb234) (o := .cells #[.int .i64 t228, .string t229, .int .i64 t230, .slice Ao30 t231.length co30] 31 (0, 0)) (by (with_reducible repeat (first | refine bN ?_ _ | refine bD ?_ | refine bA ?_ _)); exact BK234.out) hb); have n3_ := Aside0.mk (below_step (by repeat (first | (with_reducible first | exact HB.out | apply pA | apply pN | apply pD | refine below_set ?_ GE224.out | refine below_set ?_ GE234.out) | exact HB.out)) hb); clear HO233; clear BK224; clear BK234; clear HB; have HO233 := n0_; have BK224 := n1_; have BK234 := n2_; have HB := n3_; clear n0_ n1_ n2_ n3_; (try clear hb); (try clear hb2); (try clear hk); (try clear hi); have hcz34_0 : w33.cell? ⟨gb234, 0, none⟩ = some (.int .i64 t228) := (bc BK234.out 0).trans rfl; have hcz34_1 : w33.cell? ⟨gb234, 1, none⟩ = some (.string t229) := (bc BK234.out 1).trans rfl; have hcz34_2 : w33.cell? ⟨gb234, 2, none⟩ = some (.int .i64 t230) := (bc BK234.out 2).trans rfl; have hcz34_3 : w33.cell? ⟨gb234, 3, none⟩ = some (.slice Ao30 t231.length co30) := (bc BK234.out 3).trans rfl; have hfz34_0 := bf BK234.out 0; have hfz34_1 := bf BK234.out 1; have hfz34_2 := bf BK234.out 2; have hfz34_3 := bf BK234.out 3) | ((with_reducible refine gc (f := 20) rfl ?_); refine goesL_ (some 52) rfl rfl Try.func20 (by kernel_rfl) rfl #[.agg #[.int .i64 t228, .string t229, .int .i64 t230, .slice Ao30 t231.length co30]] rfl (by (try simp only [List.map_toArray, List.map_cons, List.map_nil]); first | done | rfl | (simp only [List.length_drop, List.length_take]; rfl)) ?_; (with_reducible refine (term_Ground.calls t228 t229 t230 _ _ t231 t239 t240 _ ?side1 ?side2 A20.out).mono ?_); (case side1 => repeat (first | exact (Kd.R_reads' HO233.out).2.2 | (with_reducible refine Kd.C_alloc ?_ _) | (with_reducible refine Kd.C_drewN ?_ _) | (with_reducible refine Kd.C_drew ?_))); (case side2 => exact (Kd.R_reads' HO233.out).2.1); rintro e w35 ⟨rfl, hb⟩; refine ⟨_, rfl, ?_⟩; have n0_ := Aside0.mk (Kd.R_below (by (with_reducible repeat (first | apply Kd.R_alloc | apply Kd.R_drewN | apply Kd.R_drew)); exact HO233.out) hb); have n1_ := Aside0.mk (blk_below (g := gb224) (o := .cells #[.slice (some ad227) l0_0.length c0_0, .slice A0_1 l0_1.length c0_1] 25 (0, 0)) (by (with_reducible repeat (first | refine bN ?_ _ | refine bD ?_ | refine bA ?_ _)); exact BK224.out) hb); have n2_ := Aside0.mk (blk_below (g := gb234) (o := .cells #[.int .i64 t228, .string t229, .int .i64 t230, .slice Ao30 t231.length co30] 31 (0, 0)) (by (with_reducible repeat (first | refine bN ?_ _ | refine bD ?_ | refine bA ?_ _)); exact BK234.out) hb); have n3_ := Aside0.mk (below_step (by repeat (first | (with_reducible first | exact HB.out | apply pA | apply pN | apply pD | refine below_set ?_ GE224.out | refine below_set ?_ GE234.out) | exact HB.out)) hb); clear HO233; clear BK224; clear BK234; clear HB; have HO233 := n0_; have BK224 := n1_; have BK234 := n2_; have HB := n3_; clear n0_ n1_ n2_ n3_; (try clear hb); (try clear hb2); (try clear hk); (try clear hi); have hcz36_0 : w35.cell? ⟨gb234, 0, none⟩ = some (.int .i64 t228) := (bc BK234.out 0).trans rfl; have hcz36_1 : w35.cell? ⟨gb234, 1, none⟩ = some (.string t229) := (bc BK234.out 1).trans rfl; have hcz36_2 : w35.cell? ⟨gb234, 2, none⟩ = some (.int .i64 t230) := (bc BK234.out 2).trans rfl; have hcz36_3 : w35.cell? ⟨gb234, 3, none⟩ = some (.slice Ao30 t231.length co30) := (bc BK234.out 3).trans rfl; have hfz36_0 := bf BK234.out 0; have hfz36_1 := bf BK234.out 1; have hfz36_2 := bf BK234.out 2; have hfz36_3 := bf BK234.out 3) | ((with_reducible refine gc (f := 21) rfl ?_); refine goesL_ (some 57) rfl rfl Try.func21 (by kernel_rfl) rfl #[.agg #[.int .i64 t228, .string t229, .int .i64 t230, .slice Ao30 t231.length co30]] rfl (by (try simp only [List.map_toArray, List.map_cons, List.map_nil]); first | done | rfl | (simp only [List.length_drop, List.length_take]; rfl)) ?_; (with_reducible refine (term_Atom.calls kj9 t228 t229 t230 _ _ t231 t241 t242 _ ?side1 ?side2 A21.out).mono ?_); (case side1 => repeat (first | exact (Kd.R_reads' HO233.out).2.2 | (with_reducible refine Kd.C_alloc ?_ _) | (with_reducible refine Kd.C_drewN ?_ _) | (with_reducible refine Kd.C_drew ?_))); (case side2 => exact (Kd.R_reads' HO233.out).2.1); rintro e w37 ⟨rfl, hb⟩; refine ⟨_, rfl, ?_⟩; have n0_ := Aside0.mk (Kd.R_below (by (with_reducible repeat (first | apply Kd.R_alloc | apply Kd.R_drewN | apply Kd.R_drew)); exact HO233.out) hb); have n1_ := Aside0.mk (blk_below (g := gb224) (o := .cells #[.slice (some ad227) l0_0.length c0_0, .slice A0_1 l0_1.length c0_1] 25 (0, 0)) (by (with_reducible repeat (first | refine bN ?_ _ | refine bD ?_ | refine bA ?_ _)); exact BK224.out) hb); have n2_ := Aside0.mk (blk_below (g := gb234) (o := .cells #[.int .i64 t228, .string t229, .int .i64 t230, .slice Ao30 t231.length co30] 31 (0, 0)) (by (with_reducible repeat (first | refine bN ?_ _ | refine bD ?_ | refine bA ?_ _)); exact BK234.out) hb); have n3_ := Aside0.mk (below_step (by repeat (first | (with_reducible first | exact HB.out | apply pA | apply pN | apply pD | refine below_set ?_ GE224.out | refine below_set ?_ GE234.out) | exact HB.out)) hb); clear HO233; clear BK224; clear BK234; clear HB; have HO233 := n0_; have BK224 := n1_; have BK234 := n2_; have HB := n3_; clear n0_ n1_ n2_ n3_; (try clear hb); (try clear hb2); (try clear hk); (try clear hi); have hcz38_0 : w37.cell? ⟨gb234, 0, none⟩ = some (.int .i64 t228) := (bc BK234.out 0).trans rfl; have hcz38_1 : w37.cell? ⟨gb234, 1, none⟩ = some (.string t229) := (bc BK234.out 1).trans rfl; have hcz38_2 : w37.cell? ⟨gb234, 2, none⟩ = some (.int .i64 t230) := (bc BK234.out 2).trans rfl; have hcz38_3 : w37.cell? ⟨gb234, 3, none⟩ = some (.slice Ao30 t231.length co30) := (bc BK234.out 3).trans rfl; have hfz38_0 := bf BK234.out 0; have hfz38_1 := bf BK234.out 1; have hfz38_2 := bf BK234.out 2; have hfz38_3 := bf BK234.out 3) | ((with_reducible refine gc (f := 22) rfl ?_); refine goesL_ (some 62) rfl rfl Try.func22 (by kernel_rfl) rfl #[.agg #[.int .i64 t228, .string t229, .int .i64 t230, .slice Ao30 t231.length co30]] rfl (by (try simp only [List.map_toArray, List.map_cons, List.map_nil]); first | done | rfl | (simp only [List.length_drop, List.length_take]; rfl)) ?_; (with_reducible refine (term_Vars.calls t228 t229 t230 (fun k_ => ((True ∧ k_ ≠ gb234) ∧ k_ ≠ gb224)) _ _ t231 t243 t246 _ ?side1 A22.out).mono ?_); (case side1 => exact Kd.R_V (Kd.R_types (HO233.out) BK224.out (by decide))); rintro e w39 ⟨v244, rfl, ho0, hb⟩; refine ⟨_, rfl, ?_⟩; have n0_ := Aside0.mk (Kd.R_below (by (with_reducible repeat (first | apply Kd.R_alloc | apply Kd.R_drewN | apply Kd.R_drew)); exact HO233.out) hb); have n1_ := Aside0.mk (Kd.R_lower (Kd.R_mono (ok' := fun k_ => True) ho0 (fun _ hk_ => trivial)) (below_size (by repeat (first | (with_reducible first | exact HB.out | apply pA | apply pN | apply pD | refine below_set ?_ GE224.out | refine below_set ?_ GE234.out) | exact HB.out)))); have n2_ := Aside0.mk (blk_below (g := gb224) (o := .cells #[.slice (some ad227) l0_0.length c0_0, .slice A0_1 l0_1.length c0_1] 25 (0, 0)) (by (with_reducible repeat (first | refine bN ?_ _ | refine bD ?_ | refine bA ?_ _)); exact BK224.out) hb); have n3_ := Aside0.mk (blk_below (g := gb234) (o := .cells #[.int .i64 t228, .string t229, .int .i64 t230, .slice Ao30 t231.length co30] 31 (0, 0)) (by (with_reducible repeat (first | refine bN ?_ _ | refine bD ?_ | refine bA ?_ _)); exact BK234.out) hb); have n4_ := Aside0.mk (below_step (by repeat (first | (with_reducible first | exact HB.out | apply pA | apply pN | apply pD | refine below_set ?_ GE224.out | refine below_set ?_ GE234.out) | exact HB.out)) hb); clear HO233; clear BK224; clear BK234; clear HB; have HO233 := n0_; have HO245 := n1_; have BK224 := n2_; have BK234 := n3_; have HB := n4_; clear n0_ n1_ n2_ n3_ n4_; (try clear hb); (try clear hb2); (try clear hk); (try clear hi); (try clear ho0); have hcz40_0 : w39.cell? ⟨gb224, 0, none⟩ = some (.slice (some ad227) l0_0.length c0_0) := (bc BK224.out 0).trans rfl; have hcz40_1 : w39.cell? ⟨gb224, 1, none⟩ = some (.slice A0_1 l0_1.length c0_1) := (bc BK224.out 1).trans rfl; have hfz40_0 := bf BK224.out 0; have hfz40_1 := bf BK224.out 1; have p247 : 0 ≤ (x3_1 : Int) := of_decide_eq_true (by first | (with_reducible assumption) | assumption); have q247 : x3_1 < (l0_0.length : Int) := of_decide_eq_true (by first | (with_reducible assumption) | assumption); obtain ⟨ad247, A247_3, c247_3, e247, hx247_0, hx247_1, hx247_2, hx247_3, hl247_3, hi247_3⟩ := at_T31 HR0_0.out x3_1 p247 q247; obtain rfl : ad227 = ad247 := (by injection e247); replace hx247_0 := (HB.out.cell (bl w _ hx247_0)).trans hx247_0; replace hx247_1 := (HB.out.cell (bl w _ hx247_1)).trans hx247_1; replace hx247_2 := (HB.out.cell (bl w _ hx247_2)).trans hx247_2; replace hx247_3 := (HB.out.cell (bl w _ hx247_3)).trans hx247_3; have HR247_3 := Aside0.mk hi247_3; have HC247_3 := Aside0.mk hl247_3; clear hi247_3 hl247_3; replace p247 := eq_true p247; replace q247 := eq_true q247) | ((with_reducible refine gc (f := 23) rfl ?_); refine goesL_ (some 70) rfl rfl Try.func23 (by kernel_rfl) rfl #[.agg #[.int .i64 ((rd_T31 l0_0 x3_1).f0), .string ((rd_T31 l0_0 x3_1).f1), .int .i64 ((rd_T31 l0_0 x3_1).f2), .slice A247_3 ((rd_T31 l0_0 x3_1).f3).length c247_3]] rfl (by (try simp only [List.map_toArray, List.map_cons, List.map_nil]); first | done | rfl | (simp only [List.length_drop, List.length_take]; rfl)) ?_; (with_reducible refine (almagestref1_Term.calls kj9 ((rd_T31 l0_0 x3_1).f0) ((rd_T31 l0_0 x3_1).f1) ((rd_T31 l0_0 x3_1).f2) _ _ ((rd_T31 l0_0 x3_1).f3) t248 _ ?side1 ?side2 A23.out).mono ?_); (case side1 => repeat (first | exact (Kd.C_below HR247_3.out HB.out) | (with_reducible refine Kd.C_alloc ?_ _) | (with_reducible refine Kd.C_drewN ?_ _) | (with_reducible refine Kd.C_drew ?_))); (case side2 => exact HC247_3.out); rintro e w41 ⟨rfl, hb⟩; refine ⟨_, rfl, ?_⟩; have n0_ := Aside0.mk (Kd.R_below (by (with_reducible repeat (first | apply Kd.R_alloc | apply Kd.R_drewN | apply Kd.R_drew)); exact HO233.out) hb); have n1_ := Aside0.mk (Kd.R_below (by (with_reducible repeat (first | apply Kd.R_alloc | apply Kd.R_drewN | apply Kd.R_drew)); exact HO245.out) hb); have n2_ := Aside0.mk (blk_below (g := gb224) (o := .cells #[.slice (some ad227) l0_0.length c0_0, .slice A0_1 l0_1.length c0_1] 25 (0, 0)) (by (with_reducible repeat (first | refine bN ?_ _ | refine bD ?_ | refine bA ?_ _)); exact BK224.out) hb); have n3_ := Aside0.mk (blk_below (g := gb234) (o := .cells #[.int .i64 t228, .string t229, .int .i64 t230, .slice Ao30 t231.length co30] 31 (0, 0)) (by (with_reducible repeat (first | refine bN ?_ _ | refine bD ?_ | refine bA ?_ _)); exact BK234.out) hb); have n4_ := Aside0.mk (below_step (by repeat (first | (with_reducible first | exact HB.out | apply pA | apply pN | apply pD | refine below_set ?_ GE224.out | refine below_set ?_ GE234.out) | exact HB.out)) hb); clear HO233; clear HO245; clear BK224; clear BK234; clear HB; have HO233 := n0_; have HO245 := n1_; have BK224 := n2_; have BK234 := n3_; have HB := n4_; clear n0_ n1_ n2_ n3_ n4_; (try clear hb); (try clear hb2); (try clear hk); (try clear hi)))
         (try simp only [Act.put, List.setIfInBounds_toArray, List.set_cons_zero, List.set_cons_succ])
         go_cut [15, 16, 17, 18, 19, 20] (fun v15 v16 v17 v18 v19 v20 wc => ∃ (kq : Nat) (x15_23 : Int) (x16_23 : Int) (x17_23 : Int) (x18_23 : Bool) (x19_23 : Bool) (x20_23 : List ByteArray), v15 = .int .i64 x15_23 ∧ v16 = .int .i64 x16_23 ∧ v17 = .int .i64 x17_23 ∧ v18 = .bool x18_23 ∧ v19 = .bool x19_23 ∧ Aside0 (almagestlaw1_TermTells.j2 kq x3_1 t235 t236 t237 t238 t239 t240 t241 t242 t243 t246 x15_23 x16_23 x17_23 x18_23 x19_23 x20_23 l0_0 l0_1 t228 t229 t230 t231 = some r) ∧ Aside0 (kq ≤ kj9) ∧ Aside0 (Kd.R Kd.string 9 wc w.heap.size (fun k_ => some k_ ≠ (v20 : Value).ownBlock) v244 t243) ∧ Aside0 (Kd.R Kd.string 9 wc w.heap.size (fun k_ => some k_ ≠ (v244 : Value).ownBlock) v20 x20_23) ∧ Aside0 (Kd.R k31 31 wc w.heap.size (fun k_ => k_ ≠ gb234) (.slice Ao30 t231.length co30) t231) ∧ Aside0 (wc.heap[gb224]? = some (.cells #[(.slice (some ad227) l0_0.length c0_0), (.slice A0_1 l0_1.length c0_1)] 25 (0, 0))) ∧ Aside0 (wc.heap[gb234]? = some (.cells #[.int .i64 t228, .string t229, .int .i64 t230, (.slice Ao30 t231.length co30)] 31 (0, 0))) ∧ Aside0 (Below w.heap.size w wc))
         case first =>
          have H := HC24.out
          clear HC24
          by_cases c42 : t248 = true
          ·
           subst c42
           have H1 : ((almagestref1_Depth.f kj9 ((rd_T31 l0_0 x3_1).f0) ((rd_T31 l0_0 x3_1).f1) ((rd_T31 l0_0 x3_1).f2) ((rd_T31 l0_0 x3_1).f3)).bind fun t250 => ((almagestref1_Size.f kj9 ((rd_T31 l0_0 x3_1).f0) ((rd_T31 l0_0 x3_1).f1) ((rd_T31 l0_0 x3_1).f2) ((rd_T31 l0_0 x3_1).f3)).bind fun t252 => ((almagestref1_Ground.f kj9 ((rd_T31 l0_0 x3_1).f0) ((rd_T31 l0_0 x3_1).f1) ((rd_T31 l0_0 x3_1).f2) ((rd_T31 l0_0 x3_1).f3)).bind fun t254 => ((almagestref1_Atom.f kj9 ((rd_T31 l0_0 x3_1).f0) ((rd_T31 l0_0 x3_1).f1) ((rd_T31 l0_0 x3_1).f2) ((rd_T31 l0_0 x3_1).f3)).bind fun t256 => ((almagestref1_Vars.f kj9 ((rd_T31 l0_0 x3_1).f0) ((rd_T31 l0_0 x3_1).f1) ((rd_T31 l0_0 x3_1).f2) ((rd_T31 l0_0 x3_1).f3)).bind fun t258 => (almagestlaw1_TermTells.j2 kj9 x3_1 t235 t236 t237 t238 t239 t240 t241 t242 t243 t246 0 t250 t252 t254 t256 t258 l0_0 l0_1 t228 t229 t230 t231)))))) = some r := by rw [if_pos rfl] at H; exact H
           clear H
           have H := H1
           clear H1
           replace H := Option.bind_eq_some_iff.mp H
           obtain ⟨t250, A430, H⟩ := H
           replace H : ((almagestref1_Size.f kj9 ((rd_T31 l0_0 x3_1).f0) ((rd_T31 l0_0 x3_1).f1) ((rd_T31 l0_0 x3_1).f2) ((rd_T31 l0_0 x3_1).f3)).bind fun t252 => ((almagestref1_Ground.f kj9 ((rd_T31 l0_0 x3_1).f0) ((rd_T31 l0_0 x3_1).f1) ((rd_T31 l0_0 x3_1).f2) ((rd_T31 l0_0 x3_1).f3)).bind fun t254 => ((almagestref1_Atom.f kj9 ((rd_T31 l0_0 x3_1).f0) ((rd_T31 l0_0 x3_1).f1) ((rd_T31 l0_0 x3_1).f2) ((rd_T31 l0_0 x3_1).f3)).bind fun t256 => ((almagestref1_Vars.f kj9 ((rd_T31 l0_0 x3_1).f0) ((rd_T31 l0_0 x3_1).f1) ((rd_T31 l0_0 x3_1).f2) ((rd_T31 l0_0 x3_1).f3)).bind fun t258 => (almagestlaw1_TermTells.j2 kj9 x3_1 t235 t236 t237 t238 t239 t240 t241 t242 t243 t246 0 t250 t252 t254 t256 t258 l0_0 l0_1 t228 t229 t230 t231))))) = some r := H
           have A43 := Aside0.mk A430
           clear A430
           replace H := Option.bind_eq_some_iff.mp H
           obtain ⟨t252, A440, H⟩ := H
           replace H : ((almagestref1_Ground.f kj9 ((rd_T31 l0_0 x3_1).f0) ((rd_T31 l0_0 x3_1).f1) ((rd_T31 l0_0 x3_1).f2) ((rd_T31 l0_0 x3_1).f3)).bind fun t254 => ((almagestref1_Atom.f kj9 ((rd_T31 l0_0 x3_1).f0) ((rd_T31 l0_0 x3_1).f1) ((rd_T31 l0_0 x3_1).f2) ((rd_T31 l0_0 x3_1).f3)).bind fun t256 => ((almagestref1_Vars.f kj9 ((rd_T31 l0_0 x3_1).f0) ((rd_T31 l0_0 x3_1).f1) ((rd_T31 l0_0 x3_1).f2) ((rd_T31 l0_0 x3_1).f3)).bind fun t258 => (almagestlaw1_TermTells.j2 kj9 x3_1 t235 t236 t237 t238 t239 t240 t241 t242 t243 t246 0 t250 t252 t254 t256 t258 l0_0 l0_1 t228 t229 t230 t231)))) = some r := H
           have A44 := Aside0.mk A440
           clear A440
           replace H := Option.bind_eq_some_iff.mp H
           obtain ⟨t254, A450, H⟩ := H
           replace H : ((almagestref1_Atom.f kj9 ((rd_T31 l0_0 x3_1).f0) ((rd_T31 l0_0 x3_1).f1) ((rd_T31 l0_0 x3_1).f2) ((rd_T31 l0_0 x3_1).f3)).bind fun t256 => ((almagestref1_Vars.f kj9 ((rd_T31 l0_0 x3_1).f0) ((rd_T31 l0_0 x3_1).f1) ((rd_T31 l0_0 x3_1).f2) ((rd_T31 l0_0 x3_1).f3)).bind fun t258 => (almagestlaw1_TermTells.j2 kj9 x3_1 t235 t236 t237 t238 t239 t240 t241 t242 t243 t246 0 t250 t252 t254 t256 t258 l0_0 l0_1 t228 t229 t230 t231))) = some r := H
           have A45 := Aside0.mk A450
           clear A450
           replace H := Option.bind_eq_some_iff.mp H
           obtain ⟨t256, A460, H⟩ := H
           replace H : ((almagestref1_Vars.f kj9 ((rd_T31 l0_0 x3_1).f0) ((rd_T31 l0_0 x3_1).f1) ((rd_T31 l0_0 x3_1).f2) ((rd_T31 l0_0 x3_1).f3)).bind fun t258 => (almagestlaw1_TermTells.j2 kj9 x3_1 t235 t236 t237 t238 t239 t240 t241 t242 t243 t246 0 t250 t252 t254 t256 t258 l0_0 l0_1 t228 t229 t230 t231)) = some r := H
           have A46 := Aside0.mk A460
           clear A460
           replace H := Option.bind_eq_some_iff.mp H
           obtain ⟨t258, A470, H⟩ := H
           replace H : (almagestlaw1_TermTells.j2 kj9 x3_1 t235 t236 t237 t238 t239 t240 t241 t242 t243 t246 0 t250 t252 t254 t256 t258 l0_0 l0_1 t228 t229 t230 t231) = some r := H
           have A47 := Aside0.mk A470
           clear A470
           have H' := Aside0.mk H
           clear H
           try go_wp2
           have n0_ := Aside0.mk (Kd.R_drew HO233.out)
           have n1_ := Aside0.mk (Kd.R_drew HO245.out)
           have n2_ := Aside0.mk (bD BK224.out)
           have n3_ := Aside0.mk (bD BK234.out)
           have n4_ := Aside0.mk (pD HB.out)
           clear HO233
           clear HO245
           clear BK224
           clear BK234
           clear HB
           have HO233 := n0_
           have HO245 := n1_
           have BK224 := n2_
           have BK234 := n3_
           have HB := n4_
           clear n0_ n1_ n2_ n3_ n4_
           have p249 : 0 ≤ (x3_1 : Int) := of_decide_eq_true (by first | (with_reducible assumption) | assumption)
           have q249 : x3_1 < (l0_0.length : Int) := of_decide_eq_true (by first | (with_reducible assumption) | assumption)
           obtain ⟨ad249, A249_3, c249_3, e249, hx249_0, hx249_1, hx249_2, hx249_3, hl249_3, hi249_3⟩ := at_T31 HR0_0.out x3_1 p249 q249
           have hw249_3 := hx249_3
           have hw249_2 := hx249_2
           have hw249_1 := hx249_1
           have hw249_0 := hx249_0
           obtain rfl : ad227 = ad249 := (by injection e249)
           replace hx249_0 := (HB.out.cell (bl w _ hx249_0)).trans hx249_0
           replace hx249_1 := (HB.out.cell (bl w _ hx249_1)).trans hx249_1
           replace hx249_2 := (HB.out.cell (bl w _ hx249_2)).trans hx249_2
           replace hx249_3 := (HB.out.cell (bl w _ hx249_3)).trans hx249_3
           have HR249_3 := Aside0.mk hi249_3
           have HC249_3 := Aside0.mk hl249_3
           clear hi249_3 hl249_3
           replace p249 := eq_true p249
           replace q249 := eq_true q249
           have p251 : 0 ≤ (x3_1 : Int) := of_decide_eq_true (by first | (with_reducible assumption) | assumption)
           have q251 : x3_1 < (l0_0.length : Int) := of_decide_eq_true (by first | (with_reducible assumption) | assumption)
           obtain ⟨ad251, A251_3, c251_3, e251, hx251_0, hx251_1, hx251_2, hx251_3, hl251_3, hi251_3⟩ := at_T31 HR0_0.out x3_1 p251 q251
           have hw251_3 := hx251_3
           have hw251_2 := hx251_2
           have hw251_1 := hx251_1
           have hw251_0 := hx251_0
           obtain rfl : ad227 = ad251 := (by injection e251)
           replace hx251_0 := (HB.out.cell (bl w _ hx251_0)).trans hx251_0
           replace hx251_1 := (HB.out.cell (bl w _ hx251_1)).trans hx251_1
           replace hx251_2 := (HB.out.cell (bl w _ hx251_2)).trans hx251_2
           replace hx251_3 := (HB.out.cell (bl w _ hx251_3)).trans hx251_3
           have HR251_3 := Aside0.mk hi251_3
           have HC251_3 := Aside0.mk hl251_3
           clear hi251_3 hl251_3
           replace p251 := eq_true p251
           replace q251 := eq_true q251
           have ea_ := Option.some.inj (hx249_3.symm.trans hx251_3)
           injection ea_ with ea_ en_ ec_
           subst ea_
           subst ec_
           clear en_
           refine start_ (n := 14) (S := fun w' => w'.cell? ⟨gb224, 0, none⟩ = some (.slice (some ad227) l0_0.length c0_0) ∧ w'.cell? ⟨gb224, 1, none⟩ = some (.slice A0_1 l0_1.length c0_1) ∧ w'.cell? (ad227.add ((x3_1).toNat * 4)) = some (.int .i64 ((rd_T31 l0_0 x3_1).f0)) ∧ w'.cell? ⟨(ad227.add ((x3_1).toNat * 4)).block, (ad227.add ((x3_1).toNat * 4)).off + 1, none⟩ = some (.string ((rd_T31 l0_0 x3_1).f1)) ∧ w'.cell? ⟨(ad227.add ((x3_1).toNat * 4)).block, (ad227.add ((x3_1).toNat * 4)).off + 2, none⟩ = some (.int .i64 ((rd_T31 l0_0 x3_1).f2)) ∧ w'.cell? ⟨(ad227.add ((x3_1).toNat * 4)).block, (ad227.add ((x3_1).toNat * 4)).off + 3, none⟩ = some (.slice A249_3 ((rd_T31 l0_0 x3_1).f3).length c249_3) ∧ w'.cell? (ad227.add ((x3_1).toNat * 4)) = some (.int .i64 ((rd_T31 l0_0 x3_1).f0)) ∧ w'.cell? ⟨(ad227.add ((x3_1).toNat * 4)).block, (ad227.add ((x3_1).toNat * 4)).off + 1, none⟩ = some (.string ((rd_T31 l0_0 x3_1).f1)) ∧ w'.cell? ⟨(ad227.add ((x3_1).toNat * 4)).block, (ad227.add ((x3_1).toNat * 4)).off + 2, none⟩ = some (.int .i64 ((rd_T31 l0_0 x3_1).f2)) ∧ w'.cell? ⟨(ad227.add ((x3_1).toNat * 4)).block, (ad227.add ((x3_1).toNat * 4)).off + 3, none⟩ = some (.slice A249_3 ((rd_T31 l0_0 x3_1).f3).length c249_3)) (ds := []) #[false, false, false, false, false, false, false, false, false, false, false, false, false, false] (by kernel_rfl) rfl rfl ⟨(bc BK224.out 0).trans rfl, (bc BK224.out 1).trans rfl, ((HB.out.cell (bl w _ hw249_0)).trans hw249_0), ((HB.out.cell (bl w _ hw249_1)).trans hw249_1), ((HB.out.cell (bl w _ hw249_2)).trans hw249_2), ((HB.out.cell (bl w _ hw249_3)).trans hw249_3), ((HB.out.cell (bl w _ hw251_0)).trans hw251_0), ((HB.out.cell (bl w _ hw251_1)).trans hw251_1), ((HB.out.cell (bl w _ hw251_2)).trans hw251_2), ((HB.out.cell (bl w _ hw251_3)).trans hw251_3)⟩ (fun hHeld => ?_); refine with_tabW almagestlaw1_TermTells.tab16 almagestlaw1_TermTells.bits16 (fun HT_ HW_ => ?_)
           generalize w41.drew = w48 at HO233 HO245 BK224 BK234 HB HR249_3 HR251_3 hx249_0 hx249_1 hx249_2 hx249_3 hx251_0 hx251_1 hx251_2 hx251_3 hHeld ⊢
           refine pure_ (i := 0) (N := some 71) (v := ?_) (a' := ?_) #[true, false, false, false, false, false, false, false, false, false, false, false, false, false] rfl rfl (any_of HT_.out (by kernel_rfl)) (fun _ _ _ h => h) (Or.inl ⟨by rfl, ?_⟩) ?_ ?_
           rotate_left
           ·
            intro w'
            go_simp
            with_reducible rfl
           rotate_left
           ·
            simp only [Act.put, List.setIfInBounds_toArray, List.set_cons_zero, List.set_cons_succ, i64_w, i32_w]
            rfl
           refine pure_ (i := 2) (N := some 73) (v := ?_) (a' := ?_) #[true, false, true, false, false, false, false, false, false, false, false, false, false, false] rfl rfl (any_of HT_.out (by kernel_rfl)) (fun _ _ _ h => h) (Or.inl ⟨by rfl, ?_⟩) ?_ ?_
           rotate_left
           ·
            intro w'
            go_simp
            with_reducible rfl
           rotate_left
           ·
            simp only [Act.put, List.setIfInBounds_toArray, List.set_cons_zero, List.set_cons_succ, i64_w, i32_w]
            rfl
           refine pure_ (i := 6) (N := some 77) (v := ?_) (a' := ?_) #[true, false, true, false, false, false, true, false, false, false, false, false, false, false] rfl rfl (any_of HT_.out (by kernel_rfl)) (fun _ _ _ h => h) (Or.inl ⟨by rfl, ?_⟩) ?_ ?_
           rotate_left
           ·
            intro w'
            go_simp
            with_reducible rfl
           rotate_left
           ·
            simp only [Act.put, List.setIfInBounds_toArray, List.set_cons_zero, List.set_cons_succ, i64_w, i32_w]
            rfl
           refine pure_ (i := 8) (N := some 79) (v := ?_) (a' := ?_) #[true, false, true, false, false, false, true, false, true, false, false, false, false, false] rfl rfl (any_of HT_.out (by kernel_rfl)) (fun _ _ _ h => h) (Or.inl ⟨by rfl, ?_⟩) ?_ ?_
           rotate_left
           ·
            intro w'
            go_simp
            with_reducible rfl
           rotate_left
           ·
            simp only [Act.put, List.setIfInBounds_toArray, List.set_cons_zero, List.set_cons_succ, i64_w, i32_w]
            rfl
           refine take_ (i := 1) (N := some 72) (v := ?_) (a' := ?_) #[true, true, true, false, false, false, true, false, true, false, false, false, false, false] rfl rfl (take_ofW HT_.out HW_.out (by kernel_rfl)) (fun _ _ _ h => h) (Or.inl ⟨by rfl, ?_⟩) hHeld ?_ ?_
           rotate_left
           ·
            rintro w' ⟨s0, s1, s2, s3, s4, s5, s6, s7, s8, s9⟩
            go_simp
            with_reducible rfl
           rotate_left
           ·
            simp only [Act.put, List.setIfInBounds_toArray, List.set_cons_zero, List.set_cons_succ, i64_w, i32_w]
            rfl
           refine pure_ (i := 3) (N := some 74) (v := ?_) (a' := ?_) #[true, true, true, true, false, false, true, false, true, false, false, false, false, false] rfl rfl (any_of HT_.out (by kernel_rfl)) (fun _ _ _ h => h) (Or.inl ⟨by rfl, ?_⟩) ?_ ?_
           rotate_left
           ·
            intro w'
            go_simp
            with_reducible rfl
           rotate_left
           ·
            simp only [Act.put, List.setIfInBounds_toArray, List.set_cons_zero, List.set_cons_succ, i64_w, i32_w]
            rfl
           refine take_ (i := 4) (N := some 75) (v := ?_) (a' := ?_) #[true, true, true, true, true, false, true, false, true, false, false, false, false, false] rfl rfl (take_ofW HT_.out HW_.out (by kernel_rfl)) (fun _ _ _ h => h) (Or.inl ⟨by rfl, ?_⟩) hHeld ?_ ?_
           rotate_left
           ·
            rintro w' ⟨s0, s1, s2, s3, s4, s5, s6, s7, s8, s9⟩
            go_simp
            with_reducible rfl
           rotate_left
           ·
            simp only [Act.put, List.setIfInBounds_toArray, List.set_cons_zero, List.set_cons_succ, i64_w, i32_w]
            rfl
           refine take_ (i := 7) (N := some 78) (v := ?_) (a' := ?_) #[true, true, true, true, true, false, true, true, true, false, false, false, false, false] rfl rfl (take_ofW HT_.out HW_.out (by kernel_rfl)) (fun _ _ _ h => h) (Or.inl ⟨by rfl, ?_⟩) hHeld ?_ ?_
           rotate_left
           ·
            rintro w' ⟨s0, s1, s2, s3, s4, s5, s6, s7, s8, s9⟩
            go_simp
            with_reducible rfl
           rotate_left
           ·
            simp only [Act.put, List.setIfInBounds_toArray, List.set_cons_zero, List.set_cons_succ, i64_w, i32_w]
            rfl
           refine pure_ (i := 9) (N := some 80) (v := ?_) (a' := ?_) #[true, true, true, true, true, false, true, true, true, true, false, false, false, false] rfl rfl (any_of HT_.out (by kernel_rfl)) (fun _ _ _ h => h) (Or.inl ⟨by rfl, ?_⟩) ?_ ?_
           rotate_left
           ·
            intro w'
            go_simp
            with_reducible rfl
           rotate_left
           ·
            simp only [Act.put, List.setIfInBounds_toArray, List.set_cons_zero, List.set_cons_succ, i64_w, i32_w]
            rfl
           refine take_ (i := 10) (N := some 81) (v := ?_) (a' := ?_) #[true, true, true, true, true, false, true, true, true, true, true, false, false, false] rfl rfl (take_ofW HT_.out HW_.out (by kernel_rfl)) (fun _ _ _ h => h) (Or.inl ⟨by rfl, ?_⟩) hHeld ?_ ?_
           rotate_left
           ·
            rintro w' ⟨s0, s1, s2, s3, s4, s5, s6, s7, s8, s9⟩
            go_simp
            with_reducible rfl
           rotate_left
           ·
            simp only [Act.put, List.setIfInBounds_toArray, List.set_cons_zero, List.set_cons_succ, i64_w, i32_w]
            rfl
           refine one_ (i := 5) (N := some 76) #[true, true, true, true, true, true, true, true, true, true, true, false, false, false] rfl rfl (one_of HT_.out (by kernel_rfl)) (by decide) (fun K hK => ?_)
           refine goes_ Try.func24 (by kernel_rfl) rfl #[.agg #[.int .i64 ((rd_T31 l0_0 x3_1).f0), .string ((rd_T31 l0_0 x3_1).f1), .int .i64 ((rd_T31 l0_0 x3_1).f2), .slice A249_3 ((rd_T31 l0_0 x3_1).f3).length c249_3]] (by rfl) rfl rfl (by (try simp only [List.map_toArray, List.map_cons, List.map_nil]); first | done | rfl | (simp only [List.length_drop, List.length_take]; rfl)) ?_
           with_reducible refine (almagestref1_Depth.calls kj9 ((rd_T31 l0_0 x3_1).f0) ((rd_T31 l0_0 x3_1).f1) ((rd_T31 l0_0 x3_1).f2) _ _ ((rd_T31 l0_0 x3_1).f3) t250 _ ?side1 ?side2 A43.out).mono ?_
           (case side1 => repeat (first | exact (Kd.C_below HR249_3.out HB.out) | (with_reducible refine Kd.C_alloc ?_ _) | (with_reducible refine Kd.C_drewN ?_ _) | (with_reducible refine Kd.C_drew ?_)))
           (case side2 => exact HC249_3.out)
           rintro e w49 ⟨rfl, hb⟩
           refine ⟨_, rfl, ?_⟩
           have n0_ := Aside0.mk (Kd.R_below (by (with_reducible repeat (first | apply Kd.R_alloc | apply Kd.R_drewN | apply Kd.R_drew)); exact HO233.out) hb)
           have n1_ := Aside0.mk (Kd.R_below (by (with_reducible repeat (first | apply Kd.R_alloc | apply Kd.R_drewN | apply Kd.R_drew)); exact HO245.out) hb)
           have n2_ := Aside0.mk (blk_below (g := gb224) (o := .cells #[.slice (some ad227) l0_0.length c0_0, .slice A0_1 l0_1.length c0_1] 25 (0, 0)) (by (with_reducible repeat (first | refine bN ?_ _ | refine bD ?_ | refine bA ?_ _)); exact BK224.out) hb)
           have n3_ := Aside0.mk (blk_below (g := gb234) (o := .cells #[.int .i64 t228, .string t229, .int .i64 t230, .slice Ao30 t231.length co30] 31 (0, 0)) (by (with_reducible repeat (first | refine bN ?_ _ | refine bD ?_ | refine bA ?_ _)); exact BK234.out) hb)
           have n4_ := Aside0.mk (below_step (by repeat (first | (with_reducible first | exact HB.out | apply pA | apply pN | apply pD | refine below_set ?_ GE224.out | refine below_set ?_ GE234.out) | exact HB.out)) hb)
           clear HO233
           clear HO245
           clear BK224
           clear BK234
           clear HB
           have HO233 := n0_
           have HO245 := n1_
           have BK224 := n2_
           have BK234 := n3_
           have HB := n4_
           clear n0_ n1_ n2_ n3_ n4_
           (try clear hb)
           (try clear hb2)
           (try clear hk)
           (try clear hi)
           refine hK.out _ _ ⟨(bc BK224.out 0).trans rfl, (bc BK224.out 1).trans rfl, ((HB.out.cell (bl w _ hw249_0)).trans hw249_0), ((HB.out.cell (bl w _ hw249_1)).trans hw249_1), ((HB.out.cell (bl w _ hw249_2)).trans hw249_2), ((HB.out.cell (bl w _ hw249_3)).trans hw249_3), ((HB.out.cell (bl w _ hw251_0)).trans hw251_0), ((HB.out.cell (bl w _ hw251_1)).trans hw251_1), ((HB.out.cell (bl w _ hw251_2)).trans hw251_2), ((HB.out.cell (bl w _ hw251_3)).trans hw251_3)⟩ (fun hHeld => ?_)
           clear hK K
           refine norm_ (a' := ?_) ?_ ?_
           rotate_left
           ·
            show Act.put _ (some 76) _ = _
            simp only [Act.put, List.setIfInBounds_toArray, List.set_cons_zero, List.set_cons_succ, i64_w, i32_w]
            rfl
           refine one_ (i := 11) (N := some 82) #[true, true, true, true, true, true, true, true, true, true, true, true, false, false] rfl rfl (one_of HT_.out (by kernel_rfl)) (by decide) (fun K hK => ?_)
           refine goes_ Try.func25 (by kernel_rfl) rfl #[.agg #[.int .i64 ((rd_T31 l0_0 x3_1).f0), .string ((rd_T31 l0_0 x3_1).f1), .int .i64 ((rd_T31 l0_0 x3_1).f2), .slice A249_3 ((rd_T31 l0_0 x3_1).f3).length c249_3]] (by rfl) rfl rfl (by (try simp only [List.map_toArray, List.map_cons, List.map_nil]); first | done | rfl | (simp only [List.length_drop, List.length_take]; rfl)) ?_
           with_reducible refine (almagestref1_Size.calls kj9 ((rd_T31 l0_0 x3_1).f0) ((rd_T31 l0_0 x3_1).f1) ((rd_T31 l0_0 x3_1).f2) _ _ ((rd_T31 l0_0 x3_1).f3) t252 _ ?side1 ?side2 A44.out).mono ?_
           (case side1 => repeat (first | exact (Kd.C_below HR251_3.out HB.out) | (with_reducible refine Kd.C_alloc ?_ _) | (with_reducible refine Kd.C_drewN ?_ _) | (with_reducible refine Kd.C_drew ?_)))
           (case side2 => exact HC251_3.out)
           rintro e w50 ⟨rfl, hb⟩
           refine ⟨_, rfl, ?_⟩
           have n0_ := Aside0.mk (Kd.R_below (by (with_reducible repeat (first | apply Kd.R_alloc | apply Kd.R_drewN | apply Kd.R_drew)); exact HO233.out) hb)
           have n1_ := Aside0.mk (Kd.R_below (by (with_reducible repeat (first | apply Kd.R_alloc | apply Kd.R_drewN | apply Kd.R_drew)); exact HO245.out) hb)
           have n2_ := Aside0.mk (blk_below (g := gb224) (o := .cells #[.slice (some ad227) l0_0.length c0_0, .slice A0_1 l0_1.length c0_1] 25 (0, 0)) (by (with_reducible repeat (first | refine bN ?_ _ | refine bD ?_ | refine bA ?_ _)); exact BK224.out) hb)
           have n3_ := Aside0.mk (blk_below (g := gb234) (o := .cells #[.int .i64 t228, .string t229, .int .i64 t230, .slice Ao30 t231.length co30] 31 (0, 0)) (by (with_reducible repeat (first | refine bN ?_ _ | refine bD ?_ | refine bA ?_ _)); exact BK234.out) hb)
           have n4_ := Aside0.mk (below_step (by repeat (first | (with_reducible first | exact HB.out | apply pA | apply pN | apply pD | refine below_set ?_ GE224.out | refine below_set ?_ GE234.out) | exact HB.out)) hb)
           clear HO233
           clear HO245
           clear BK224
           clear BK234
           clear HB
           have HO233 := n0_
           have HO245 := n1_
           have BK224 := n2_
           have BK234 := n3_
           have HB := n4_
           clear n0_ n1_ n2_ n3_ n4_
           (try clear hb)
           (try clear hb2)
           (try clear hk)
           (try clear hi)
           refine hK.out _ _ ⟨(bc BK224.out 0).trans rfl, (bc BK224.out 1).trans rfl, ((HB.out.cell (bl w _ hw249_0)).trans hw249_0), ((HB.out.cell (bl w _ hw249_1)).trans hw249_1), ((HB.out.cell (bl w _ hw249_2)).trans hw249_2), ((HB.out.cell (bl w _ hw249_3)).trans hw249_3), ((HB.out.cell (bl w _ hw251_0)).trans hw251_0), ((HB.out.cell (bl w _ hw251_1)).trans hw251_1), ((HB.out.cell (bl w _ hw251_2)).trans hw251_2), ((HB.out.cell (bl w _ hw251_3)).trans hw251_3)⟩ (fun hHeld => ?_)
           clear hK K
           refine norm_ (a' := ?_) ?_ ?_
           rotate_left
           ·
            show Act.put _ (some 82) _ = _
            simp only [Act.put, List.setIfInBounds_toArray, List.set_cons_zero, List.set_cons_succ, i64_w, i32_w]
            rfl
           refine pure_ (i := 12) (N := some 16) (v := ?_) (a' := ?_) #[true, true, true, true, true, true, true, true, true, true, true, true, true, false] rfl rfl (any_of HT_.out (by kernel_rfl)) (fun _ _ _ h => h) (Or.inl ⟨by rfl, ?_⟩) ?_ ?_
           rotate_left
           ·
            intro w'
            go_simp
            with_reducible rfl
           rotate_left
           ·
            simp only [Act.put, List.setIfInBounds_toArray, List.set_cons_zero, List.set_cons_succ, i64_w, i32_w]
            rfl
           refine pure_ (i := 13) (N := some 17) (v := ?_) (a' := ?_) #[true, true, true, true, true, true, true, true, true, true, true, true, true, true] rfl rfl (any_of HT_.out (by kernel_rfl)) (fun _ _ _ h => h) (Or.inl ⟨by rfl, ?_⟩) ?_ ?_
           rotate_left
           ·
            intro w'
            go_simp
            with_reducible rfl
           rotate_left
           ·
            simp only [Act.put, List.setIfInBounds_toArray, List.set_cons_zero, List.set_cons_succ, i64_w, i32_w]
            rfl
           refine done_ (done_of HT_.out (by kernel_rfl)) ?_
           try go_wp2
           have n0_ := Aside0.mk (Kd.R_drew HO233.out)
           have n1_ := Aside0.mk (Kd.R_drew HO245.out)
           have n2_ := Aside0.mk (bD BK224.out)
           have n3_ := Aside0.mk (bD BK234.out)
           have n4_ := Aside0.mk (pD HB.out)
           clear HO233
           clear HO245
           clear BK224
           clear BK234
           clear HB
           have HO233 := n0_
           have HO245 := n1_
           have BK224 := n2_
           have BK234 := n3_
           have HB := n4_
           clear n0_ n1_ n2_ n3_ n4_
           have p253 : 0 ≤ (x3_1 : Int) := of_decide_eq_true (by first | (with_reducible assumption) | assumption)
           have q253 : x3_1 < (l0_0.length : Int) := of_decide_eq_true (by first | (with_reducible assumption) | assumption)
           obtain ⟨ad253, A253_3, c253_3, e253, hx253_0, hx253_1, hx253_2, hx253_3, hl253_3, hi253_3⟩ := at_T31 HR0_0.out x3_1 p253 q253
           have hw253_3 := hx253_3
           have hw253_2 := hx253_2
           have hw253_1 := hx253_1
           have hw253_0 := hx253_0
           obtain rfl : ad227 = ad253 := (by injection e253)
           replace hx253_0 := (HB.out.cell (bl w _ hx253_0)).trans hx253_0
           replace hx253_1 := (HB.out.cell (bl w _ hx253_1)).trans hx253_1
           replace hx253_2 := (HB.out.cell (bl w _ hx253_2)).trans hx253_2
           replace hx253_3 := (HB.out.cell (bl w _ hx253_3)).trans hx253_3
           have HR253_3 := Aside0.mk hi253_3
           have HC253_3 := Aside0.mk hl253_3
           clear hi253_3 hl253_3
           replace p253 := eq_true p253
           replace q253 := eq_true q253
           have p255 : 0 ≤ (x3_1 : Int) := of_decide_eq_true (by first | (with_reducible assumption) | assumption)
           have q255 : x3_1 < (l0_0.length : Int) := of_decide_eq_true (by first | (with_reducible assumption) | assumption)
           obtain ⟨ad255, A255_3, c255_3, e255, hx255_0, hx255_1, hx255_2, hx255_3, hl255_3, hi255_3⟩ := at_T31 HR0_0.out x3_1 p255 q255
           have hw255_3 := hx255_3
           have hw255_2 := hx255_2
           have hw255_1 := hx255_1
           have hw255_0 := hx255_0
           obtain rfl : ad227 = ad255 := (by injection e255)
           replace hx255_0 := (HB.out.cell (bl w _ hx255_0)).trans hx255_0
           replace hx255_1 := (HB.out.cell (bl w _ hx255_1)).trans hx255_1
           replace hx255_2 := (HB.out.cell (bl w _ hx255_2)).trans hx255_2
           replace hx255_3 := (HB.out.cell (bl w _ hx255_3)).trans hx255_3
           have HR255_3 := Aside0.mk hi255_3
           have HC255_3 := Aside0.mk hl255_3
           clear hi255_3 hl255_3
           replace p255 := eq_true p255
           replace q255 := eq_true q255
           have ea_ := Option.some.inj (hx253_3.symm.trans hx255_3)
           injection ea_ with ea_ en_ ec_
           subst ea_
           subst ec_
           clear en_
           have p257 : 0 ≤ (x3_1 : Int) := of_decide_eq_true (by first | (with_reducible assumption) | assumption)
           have q257 : x3_1 < (l0_0.length : Int) := of_decide_eq_true (by first | (with_reducible assumption) | assumption)
           obtain ⟨ad257, A257_3, c257_3, e257, hx257_0, hx257_1, hx257_2, hx257_3, hl257_3, hi257_3⟩ := at_T31 HR0_0.out x3_1 p257 q257
           have hw257_3 := hx257_3
           have hw257_2 := hx257_2
           have hw257_1 := hx257_1
           have hw257_0 := hx257_0
           obtain rfl : ad227 = ad257 := (by injection e257)
           replace hx257_0 := (HB.out.cell (bl w _ hx257_0)).trans hx257_0
           replace hx257_1 := (HB.out.cell (bl w _ hx257_1)).trans hx257_1
           replace hx257_2 := (HB.out.cell (bl w _ hx257_2)).trans hx257_2
           replace hx257_3 := (HB.out.cell (bl w _ hx257_3)).trans hx257_3
           have HR257_3 := Aside0.mk hi257_3
           have HC257_3 := Aside0.mk hl257_3
           clear hi257_3 hl257_3
           replace p257 := eq_true p257
           replace q257 := eq_true q257
           have ea_ := Option.some.inj (hx253_3.symm.trans hx257_3)
           injection ea_ with ea_ en_ ec_
           subst ea_
           subst ec_
           clear en_
           refine start_ (n := 21) (S := fun w' => w'.cell? ⟨gb224, 0, none⟩ = some (.slice (some ad227) l0_0.length c0_0) ∧ w'.cell? ⟨gb224, 1, none⟩ = some (.slice A0_1 l0_1.length c0_1) ∧ w'.cell? (ad227.add ((x3_1).toNat * 4)) = some (.int .i64 ((rd_T31 l0_0 x3_1).f0)) ∧ w'.cell? ⟨(ad227.add ((x3_1).toNat * 4)).block, (ad227.add ((x3_1).toNat * 4)).off + 1, none⟩ = some (.string ((rd_T31 l0_0 x3_1).f1)) ∧ w'.cell? ⟨(ad227.add ((x3_1).toNat * 4)).block, (ad227.add ((x3_1).toNat * 4)).off + 2, none⟩ = some (.int .i64 ((rd_T31 l0_0 x3_1).f2)) ∧ w'.cell? ⟨(ad227.add ((x3_1).toNat * 4)).block, (ad227.add ((x3_1).toNat * 4)).off + 3, none⟩ = some (.slice A253_3 ((rd_T31 l0_0 x3_1).f3).length c253_3) ∧ w'.cell? (ad227.add ((x3_1).toNat * 4)) = some (.int .i64 ((rd_T31 l0_0 x3_1).f0)) ∧ w'.cell? ⟨(ad227.add ((x3_1).toNat * 4)).block, (ad227.add ((x3_1).toNat * 4)).off + 1, none⟩ = some (.string ((rd_T31 l0_0 x3_1).f1)) ∧ w'.cell? ⟨(ad227.add ((x3_1).toNat * 4)).block, (ad227.add ((x3_1).toNat * 4)).off + 2, none⟩ = some (.int .i64 ((rd_T31 l0_0 x3_1).f2)) ∧ w'.cell? ⟨(ad227.add ((x3_1).toNat * 4)).block, (ad227.add ((x3_1).toNat * 4)).off + 3, none⟩ = some (.slice A253_3 ((rd_T31 l0_0 x3_1).f3).length c253_3) ∧ w'.cell? (ad227.add ((x3_1).toNat * 4)) = some (.int .i64 ((rd_T31 l0_0 x3_1).f0)) ∧ w'.cell? ⟨(ad227.add ((x3_1).toNat * 4)).block, (ad227.add ((x3_1).toNat * 4)).off + 1, none⟩ = some (.string ((rd_T31 l0_0 x3_1).f1)) ∧ w'.cell? ⟨(ad227.add ((x3_1).toNat * 4)).block, (ad227.add ((x3_1).toNat * 4)).off + 2, none⟩ = some (.int .i64 ((rd_T31 l0_0 x3_1).f2)) ∧ w'.cell? ⟨(ad227.add ((x3_1).toNat * 4)).block, (ad227.add ((x3_1).toNat * 4)).off + 3, none⟩ = some (.slice A253_3 ((rd_T31 l0_0 x3_1).f3).length c253_3)) (ds := []) #[false, false, false, false, false, false, false, false, false, false, false, false, false, false, false, false, false, false, false, false, false] (by kernel_rfl) rfl rfl ⟨(bc BK224.out 0).trans rfl, (bc BK224.out 1).trans rfl, ((HB.out.cell (bl w _ hw253_0)).trans hw253_0), ((HB.out.cell (bl w _ hw253_1)).trans hw253_1), ((HB.out.cell (bl w _ hw253_2)).trans hw253_2), ((HB.out.cell (bl w _ hw253_3)).trans hw253_3), ((HB.out.cell (bl w _ hw255_0)).trans hw255_0), ((HB.out.cell (bl w _ hw255_1)).trans hw255_1), ((HB.out.cell (bl w _ hw255_2)).trans hw255_2), ((HB.out.cell (bl w _ hw255_3)).trans hw255_3), ((HB.out.cell (bl w _ hw257_0)).trans hw257_0), ((HB.out.cell (bl w _ hw257_1)).trans hw257_1), ((HB.out.cell (bl w _ hw257_2)).trans hw257_2), ((HB.out.cell (bl w _ hw257_3)).trans hw257_3)⟩ (fun hHeld => ?_); refine with_tabW almagestlaw1_TermTells.tab17 almagestlaw1_TermTells.bits17 (fun HT_ HW_ => ?_)
           generalize w50.drew = w51 at HO233 HO245 BK224 BK234 HB HR253_3 HR255_3 HR257_3 hx253_0 hx253_1 hx253_2 hx253_3 hx255_0 hx255_1 hx255_2 hx255_3 hx257_0 hx257_1 hx257_2 hx257_3 hHeld ⊢
           refine pure_ (i := 0) (N := some 83) (v := ?_) (a' := ?_) #[true, false, false, false, false, false, false, false, false, false, false, false, false, false, false, false, false, false, false, false, false] rfl rfl (any_of HT_.out (by kernel_rfl)) (fun _ _ _ h => h) (Or.inl ⟨by rfl, ?_⟩) ?_ ?_
           rotate_left
           ·
            intro w'
            go_simp
            with_reducible rfl
           rotate_left
           ·
            simp only [Act.put, List.setIfInBounds_toArray, List.set_cons_zero, List.set_cons_succ, i64_w, i32_w]
            rfl
           refine pure_ (i := 2) (N := some 85) (v := ?_) (a' := ?_) #[true, false, true, false, false, false, false, false, false, false, false, false, false, false, false, false, false, false, false, false, false] rfl rfl (any_of HT_.out (by kernel_rfl)) (fun _ _ _ h => h) (Or.inl ⟨by rfl, ?_⟩) ?_ ?_
           rotate_left
           ·
            intro w'
            go_simp
            with_reducible rfl
           rotate_left
           ·
            simp only [Act.put, List.setIfInBounds_toArray, List.set_cons_zero, List.set_cons_succ, i64_w, i32_w]
            rfl
           refine pure_ (i := 6) (N := some 89) (v := ?_) (a' := ?_) #[true, false, true, false, false, false, true, false, false, false, false, false, false, false, false, false, false, false, false, false, false] rfl rfl (any_of HT_.out (by kernel_rfl)) (fun _ _ _ h => h) (Or.inl ⟨by rfl, ?_⟩) ?_ ?_
           rotate_left
           ·
            intro w'
            go_simp
            with_reducible rfl
           rotate_left
           ·
            simp only [Act.put, List.setIfInBounds_toArray, List.set_cons_zero, List.set_cons_succ, i64_w, i32_w]
            rfl
           refine pure_ (i := 8) (N := some 91) (v := ?_) (a' := ?_) #[true, false, true, false, false, false, true, false, true, false, false, false, false, false, false, false, false, false, false, false, false] rfl rfl (any_of HT_.out (by kernel_rfl)) (fun _ _ _ h => h) (Or.inl ⟨by rfl, ?_⟩) ?_ ?_
           rotate_left
           ·
            intro w'
            go_simp
            with_reducible rfl
           rotate_left
           ·
            simp only [Act.put, List.setIfInBounds_toArray, List.set_cons_zero, List.set_cons_succ, i64_w, i32_w]
            rfl
           refine pure_ (i := 12) (N := some 95) (v := ?_) (a' := ?_) #[true, false, true, false, false, false, true, false, true, false, false, false, true, false, false, false, false, false, false, false, false] rfl rfl (any_of HT_.out (by kernel_rfl)) (fun _ _ _ h => h) (Or.inl ⟨by rfl, ?_⟩) ?_ ?_
           rotate_left
           ·
            intro w'
            go_simp
            with_reducible rfl
           rotate_left
           ·
            simp only [Act.put, List.setIfInBounds_toArray, List.set_cons_zero, List.set_cons_succ, i64_w, i32_w]
            rfl
           refine pure_ (i := 14) (N := some 97) (v := ?_) (a' := ?_) #[true, false, true, false, false, false, true, false, true, false, false, false, true, false, true, false, false, false, false, false, false] rfl rfl (any_of HT_.out (by kernel_rfl)) (fun _ _ _ h => h) (Or.inl ⟨by rfl, ?_⟩) ?_ ?_
           rotate_left
           ·
            intro w'
            go_simp
            with_reducible rfl
           rotate_left
           ·
            simp only [Act.put, List.setIfInBounds_toArray, List.set_cons_zero, List.set_cons_succ, i64_w, i32_w]
            rfl
           refine take_ (i := 1) (N := some 84) (v := ?_) (a' := ?_) #[true, true, true, false, false, false, true, false, true, false, false, false, true, false, true, false, false, false, false, false, false] rfl rfl (take_ofW HT_.out HW_.out (by kernel_rfl)) (fun _ _ _ h => h) (Or.inl ⟨by rfl, ?_⟩) hHeld ?_ ?_
           rotate_left
           ·
            rintro w' ⟨s0, s1, s2, s3, s4, s5, s6, s7, s8, s9, s10, s11, s12, s13⟩
            go_simp
            with_reducible rfl
           rotate_left
           ·
            simp only [Act.put, List.setIfInBounds_toArray, List.set_cons_zero, List.set_cons_succ, i64_w, i32_w]
            rfl
           refine pure_ (i := 3) (N := some 86) (v := ?_) (a' := ?_) #[true, true, true, true, false, false, true, false, true, false, false, false, true, false, true, false, false, false, false, false, false] rfl rfl (any_of HT_.out (by kernel_rfl)) (fun _ _ _ h => h) (Or.inl ⟨by rfl, ?_⟩) ?_ ?_
           rotate_left
           ·
            intro w'
            go_simp
            with_reducible rfl
           rotate_left
           ·
            simp only [Act.put, List.setIfInBounds_toArray, List.set_cons_zero, List.set_cons_succ, i64_w, i32_w]
            rfl
           refine take_ (i := 4) (N := some 87) (v := ?_) (a' := ?_) #[true, true, true, true, true, false, true, false, true, false, false, false, true, false, true, false, false, false, false, false, false] rfl rfl (take_ofW HT_.out HW_.out (by kernel_rfl)) (fun _ _ _ h => h) (Or.inl ⟨by rfl, ?_⟩) hHeld ?_ ?_
           rotate_left
           ·
            rintro w' ⟨s0, s1, s2, s3, s4, s5, s6, s7, s8, s9, s10, s11, s12, s13⟩
            go_simp
            with_reducible rfl
           rotate_left
           ·
            simp only [Act.put, List.setIfInBounds_toArray, List.set_cons_zero, List.set_cons_succ, i64_w, i32_w]
            rfl
           refine take_ (i := 7) (N := some 90) (v := ?_) (a' := ?_) #[true, true, true, true, true, false, true, true, true, false, false, false, true, false, true, false, false, false, false, false, false] rfl rfl (take_ofW HT_.out HW_.out (by kernel_rfl)) (fun _ _ _ h => h) (Or.inl ⟨by rfl, ?_⟩) hHeld ?_ ?_
           rotate_left
           ·
            rintro w' ⟨s0, s1, s2, s3, s4, s5, s6, s7, s8, s9, s10, s11, s12, s13⟩
            go_simp
            with_reducible rfl
           rotate_left
           ·
            simp only [Act.put, List.setIfInBounds_toArray, List.set_cons_zero, List.set_cons_succ, i64_w, i32_w]
            rfl
           refine pure_ (i := 9) (N := some 92) (v := ?_) (a' := ?_) #[true, true, true, true, true, false, true, true, true, true, false, false, true, false, true, false, false, false, false, false, false] rfl rfl (any_of HT_.out (by kernel_rfl)) (fun _ _ _ h => h) (Or.inl ⟨by rfl, ?_⟩) ?_ ?_
           rotate_left
           ·
            intro w'
            go_simp
            with_reducible rfl
           rotate_left
           ·
            simp only [Act.put, List.setIfInBounds_toArray, List.set_cons_zero, List.set_cons_succ, i64_w, i32_w]
            rfl
           refine take_ (i := 10) (N := some 93) (v := ?_) (a' := ?_) #[true, true, true, true, true, false, true, true, true, true, true, false, true, false, true, false, false, false, false, false, false] rfl rfl (take_ofW HT_.out HW_.out (by kernel_rfl)) (fun _ _ _ h => h) (Or.inl ⟨by rfl, ?_⟩) hHeld ?_ ?_
           rotate_left
           ·
            rintro w' ⟨s0, s1, s2, s3, s4, s5, s6, s7, s8, s9, s10, s11, s12, s13⟩
            go_simp
            with_reducible rfl
           rotate_left
           ·
            simp only [Act.put, List.setIfInBounds_toArray, List.set_cons_zero, List.set_cons_succ, i64_w, i32_w]
            rfl
           refine take_ (i := 13) (N := some 96) (v := ?_) (a' := ?_) #[true, true, true, true, true, false, true, true, true, true, true, false, true, true, true, false, false, false, false, false, false] rfl rfl (take_ofW HT_.out HW_.out (by kernel_rfl)) (fun _ _ _ h => h) (Or.inl ⟨by rfl, ?_⟩) hHeld ?_ ?_
           rotate_left
           ·
            rintro w' ⟨s0, s1, s2, s3, s4, s5, s6, s7, s8, s9, s10, s11, s12, s13⟩
            go_simp
            with_reducible rfl
           rotate_left
           ·
            simp only [Act.put, List.setIfInBounds_toArray, List.set_cons_zero, List.set_cons_succ, i64_w, i32_w]
            rfl
           refine pure_ (i := 15) (N := some 98) (v := ?_) (a' := ?_) #[true, true, true, true, true, false, true, true, true, true, true, false, true, true, true, true, false, false, false, false, false] rfl rfl (any_of HT_.out (by kernel_rfl)) (fun _ _ _ h => h) (Or.inl ⟨by rfl, ?_⟩) ?_ ?_
           rotate_left
           ·
            intro w'
            go_simp
            with_reducible rfl
           rotate_left
           ·
            simp only [Act.put, List.setIfInBounds_toArray, List.set_cons_zero, List.set_cons_succ, i64_w, i32_w]
            rfl
           refine take_ (i := 16) (N := some 99) (v := ?_) (a' := ?_) #[true, true, true, true, true, false, true, true, true, true, true, false, true, true, true, true, true, false, false, false, false] rfl rfl (take_ofW HT_.out HW_.out (by kernel_rfl)) (fun _ _ _ h => h) (Or.inl ⟨by rfl, ?_⟩) hHeld ?_ ?_
           rotate_left
           ·
            rintro w' ⟨s0, s1, s2, s3, s4, s5, s6, s7, s8, s9, s10, s11, s12, s13⟩
            go_simp
            with_reducible rfl
           rotate_left
           ·
            simp only [Act.put, List.setIfInBounds_toArray, List.set_cons_zero, List.set_cons_succ, i64_w, i32_w]
            rfl
           refine one_ (i := 5) (N := some 88) #[true, true, true, true, true, true, true, true, true, true, true, false, true, true, true, true, true, false, false, false, false] rfl rfl (one_of HT_.out (by kernel_rfl)) (by decide) (fun K hK => ?_)
           refine goes_ Try.func26 (by kernel_rfl) rfl #[.agg #[.int .i64 ((rd_T31 l0_0 x3_1).f0), .string ((rd_T31 l0_0 x3_1).f1), .int .i64 ((rd_T31 l0_0 x3_1).f2), .slice A253_3 ((rd_T31 l0_0 x3_1).f3).length c253_3]] (by rfl) rfl rfl (by (try simp only [List.map_toArray, List.map_cons, List.map_nil]); first | done | rfl | (simp only [List.length_drop, List.length_take]; rfl)) ?_
           with_reducible refine (almagestref1_Ground.calls kj9 ((rd_T31 l0_0 x3_1).f0) ((rd_T31 l0_0 x3_1).f1) ((rd_T31 l0_0 x3_1).f2) _ _ ((rd_T31 l0_0 x3_1).f3) t254 _ ?side1 ?side2 A45.out).mono ?_
           (case side1 => repeat (first | exact (Kd.C_below HR253_3.out HB.out) | (with_reducible refine Kd.C_alloc ?_ _) | (with_reducible refine Kd.C_drewN ?_ _) | (with_reducible refine Kd.C_drew ?_)))
           (case side2 => exact HC253_3.out)
           rintro e w52 ⟨rfl, hb⟩
           refine ⟨_, rfl, ?_⟩
           have n0_ := Aside0.mk (Kd.R_below (by (with_reducible repeat (first | apply Kd.R_alloc | apply Kd.R_drewN | apply Kd.R_drew)); exact HO233.out) hb)
           have n1_ := Aside0.mk (Kd.R_below (by (with_reducible repeat (first | apply Kd.R_alloc | apply Kd.R_drewN | apply Kd.R_drew)); exact HO245.out) hb)
           have n2_ := Aside0.mk (blk_below (g := gb224) (o := .cells #[.slice (some ad227) l0_0.length c0_0, .slice A0_1 l0_1.length c0_1] 25 (0, 0)) (by (with_reducible repeat (first | refine bN ?_ _ | refine bD ?_ | refine bA ?_ _)); exact BK224.out) hb)
           have n3_ := Aside0.mk (blk_below (g := gb234) (o := .cells #[.int .i64 t228, .string t229, .int .i64 t230, .slice Ao30 t231.length co30] 31 (0, 0)) (by (with_reducible repeat (first | refine bN ?_ _ | refine bD ?_ | refine bA ?_ _)); exact BK234.out) hb)
           have n4_ := Aside0.mk (below_step (by repeat (first | (with_reducible first | exact HB.out | apply pA | apply pN | apply pD | refine below_set ?_ GE224.out | refine below_set ?_ GE234.out) | exact HB.out)) hb)
           clear HO233
           clear HO245
           clear BK224
           clear BK234
           clear HB
           have HO233 := n0_
           have HO245 := n1_
           have BK224 := n2_
           have BK234 := n3_
           have HB := n4_
           clear n0_ n1_ n2_ n3_ n4_
           (try clear hb)
           (try clear hb2)
           (try clear hk)
           (try clear hi)
           refine hK.out _ _ ⟨(bc BK224.out 0).trans rfl, (bc BK224.out 1).trans rfl, ((HB.out.cell (bl w _ hw253_0)).trans hw253_0), ((HB.out.cell (bl w _ hw253_1)).trans hw253_1), ((HB.out.cell (bl w _ hw253_2)).trans hw253_2), ((HB.out.cell (bl w _ hw253_3)).trans hw253_3), ((HB.out.cell (bl w _ hw255_0)).trans hw255_0), ((HB.out.cell (bl w _ hw255_1)).trans hw255_1), ((HB.out.cell (bl w _ hw255_2)).trans hw255_2), ((HB.out.cell (bl w _ hw255_3)).trans hw255_3), ((HB.out.cell (bl w _ hw257_0)).trans hw257_0), ((HB.out.cell (bl w _ hw257_1)).trans hw257_1), ((HB.out.cell (bl w _ hw257_2)).trans hw257_2), ((HB.out.cell (bl w _ hw257_3)).trans hw257_3)⟩ (fun hHeld => ?_)
           clear hK K
           refine norm_ (a' := ?_) ?_ ?_
           rotate_left
           ·
            show Act.put _ (some 88) _ = _
            simp only [Act.put, List.setIfInBounds_toArray, List.set_cons_zero, List.set_cons_succ, i64_w, i32_w]
            rfl
           refine one_ (i := 11) (N := some 94) #[true, true, true, true, true, true, true, true, true, true, true, true, true, true, true, true, true, false, false, false, false] rfl rfl (one_of HT_.out (by kernel_rfl)) (by decide) (fun K hK => ?_)
           refine goes_ Try.func27 (by kernel_rfl) rfl #[.agg #[.int .i64 ((rd_T31 l0_0 x3_1).f0), .string ((rd_T31 l0_0 x3_1).f1), .int .i64 ((rd_T31 l0_0 x3_1).f2), .slice A253_3 ((rd_T31 l0_0 x3_1).f3).length c253_3]] (by rfl) rfl rfl (by (try simp only [List.map_toArray, List.map_cons, List.map_nil]); first | done | rfl | (simp only [List.length_drop, List.length_take]; rfl)) ?_
           with_reducible refine (almagestref1_Atom.calls kj9 ((rd_T31 l0_0 x3_1).f0) ((rd_T31 l0_0 x3_1).f1) ((rd_T31 l0_0 x3_1).f2) _ _ ((rd_T31 l0_0 x3_1).f3) t256 _ ?side1 ?side2 A46.out).mono ?_
           (case side1 => repeat (first | exact (Kd.C_below HR255_3.out HB.out) | (with_reducible refine Kd.C_alloc ?_ _) | (with_reducible refine Kd.C_drewN ?_ _) | (with_reducible refine Kd.C_drew ?_)))
           (case side2 => exact HC255_3.out)
           rintro e w53 ⟨rfl, hb⟩
           refine ⟨_, rfl, ?_⟩
           have n0_ := Aside0.mk (Kd.R_below (by (with_reducible repeat (first | apply Kd.R_alloc | apply Kd.R_drewN | apply Kd.R_drew)); exact HO233.out) hb)
           have n1_ := Aside0.mk (Kd.R_below (by (with_reducible repeat (first | apply Kd.R_alloc | apply Kd.R_drewN | apply Kd.R_drew)); exact HO245.out) hb)
           have n2_ := Aside0.mk (blk_below (g := gb224) (o := .cells #[.slice (some ad227) l0_0.length c0_0, .slice A0_1 l0_1.length c0_1] 25 (0, 0)) (by (with_reducible repeat (first | refine bN ?_ _ | refine bD ?_ | refine bA ?_ _)); exact BK224.out) hb)
           have n3_ := Aside0.mk (blk_below (g := gb234) (o := .cells #[.int .i64 t228, .string t229, .int .i64 t230, .slice Ao30 t231.length co30] 31 (0, 0)) (by (with_reducible repeat (first | refine bN ?_ _ | refine bD ?_ | refine bA ?_ _)); exact BK234.out) hb)
           have n4_ := Aside0.mk (below_step (by repeat (first | (with_reducible first | exact HB.out | apply pA | apply pN | apply pD | refine below_set ?_ GE224.out | refine below_set ?_ GE234.out) | exact HB.out)) hb)
           clear HO233
           clear HO245
           clear BK224
           clear BK234
           clear HB
           have HO233 := n0_
           have HO245 := n1_
           have BK224 := n2_
           have BK234 := n3_
           have HB := n4_
           clear n0_ n1_ n2_ n3_ n4_
           (try clear hb)
           (try clear hb2)
           (try clear hk)
           (try clear hi)
           refine hK.out _ _ ⟨(bc BK224.out 0).trans rfl, (bc BK224.out 1).trans rfl, ((HB.out.cell (bl w _ hw253_0)).trans hw253_0), ((HB.out.cell (bl w _ hw253_1)).trans hw253_1), ((HB.out.cell (bl w _ hw253_2)).trans hw253_2), ((HB.out.cell (bl w _ hw253_3)).trans hw253_3), ((HB.out.cell (bl w _ hw255_0)).trans hw255_0), ((HB.out.cell (bl w _ hw255_1)).trans hw255_1), ((HB.out.cell (bl w _ hw255_2)).trans hw255_2), ((HB.out.cell (bl w _ hw255_3)).trans hw255_3), ((HB.out.cell (bl w _ hw257_0)).trans hw257_0), ((HB.out.cell (bl w _ hw257_1)).trans hw257_1), ((HB.out.cell (bl w _ hw257_2)).trans hw257_2), ((HB.out.cell (bl w _ hw257_3)).trans hw257_3)⟩ (fun hHeld => ?_)
           clear hK K
           refine norm_ (a' := ?_) ?_ ?_
           rotate_left
           ·
            show Act.put _ (some 94) _ = _
            simp only [Act.put, List.setIfInBounds_toArray, List.set_cons_zero, List.set_cons_succ, i64_w, i32_w]
            rfl
           refine one_ (i := 17) (N := some 100) #[true, true, true, true, true, true, true, true, true, true, true, true, true, true, true, true, true, true, false, false, false] rfl rfl (one_of HT_.out (by kernel_rfl)) (by decide) (fun K hK => ?_)
           refine goes_ Try.func28 (by kernel_rfl) rfl #[.agg #[.int .i64 ((rd_T31 l0_0 x3_1).f0), .string ((rd_T31 l0_0 x3_1).f1), .int .i64 ((rd_T31 l0_0 x3_1).f2), .slice A253_3 ((rd_T31 l0_0 x3_1).f3).length c253_3]] (by rfl) rfl rfl (by (try simp only [List.map_toArray, List.map_cons, List.map_nil]); first | done | rfl | (simp only [List.length_drop, List.length_take]; rfl)) ?_
           with_reducible refine (almagestref1_Vars.calls kj9 ((rd_T31 l0_0 x3_1).f0) ((rd_T31 l0_0 x3_1).f1) ((rd_T31 l0_0 x3_1).f2) _ _ ((rd_T31 l0_0 x3_1).f3) t258 _ ?side1 ?side2 A47.out).mono ?_
           (case side1 => repeat (first | exact (Kd.C_below HR257_3.out HB.out) | (with_reducible refine Kd.C_alloc ?_ _) | (with_reducible refine Kd.C_drewN ?_ _) | (with_reducible refine Kd.C_drew ?_)))
           (case side2 => exact HC257_3.out)
           rintro e w54 ⟨v259, rfl, ho0, hb⟩
           refine ⟨_, rfl, ?_⟩
           have n0_ := Aside0.mk (Kd.R_below (by (with_reducible repeat (first | apply Kd.R_alloc | apply Kd.R_drewN | apply Kd.R_drew)); exact HO233.out) hb)
           have n1_ := Aside0.mk (Kd.R_elder' (by (with_reducible repeat (first | apply Kd.R_alloc | apply Kd.R_drewN | apply Kd.R_drew)); exact HO245.out) (Kd.R_base ho0) hb)
           have n2_ := Aside0.mk (Kd.R_lower (Kd.R_new' ho0 (Kd.R_lt (by (with_reducible repeat (first | apply Kd.R_alloc | apply Kd.R_drewN | apply Kd.R_drew)); exact HO245.out))) (below_size (by repeat (first | (with_reducible first | exact HB.out | apply pA | apply pN | apply pD | refine below_set ?_ GE224.out | refine below_set ?_ GE234.out) | exact HB.out))))
           have n3_ := Aside0.mk (blk_below (g := gb224) (o := .cells #[.slice (some ad227) l0_0.length c0_0, .slice A0_1 l0_1.length c0_1] 25 (0, 0)) (by (with_reducible repeat (first | refine bN ?_ _ | refine bD ?_ | refine bA ?_ _)); exact BK224.out) hb)
           have n4_ := Aside0.mk (blk_below (g := gb234) (o := .cells #[.int .i64 t228, .string t229, .int .i64 t230, .slice Ao30 t231.length co30] 31 (0, 0)) (by (with_reducible repeat (first | refine bN ?_ _ | refine bD ?_ | refine bA ?_ _)); exact BK234.out) hb)
           have n5_ := Aside0.mk (below_step (by repeat (first | (with_reducible first | exact HB.out | apply pA | apply pN | apply pD | refine below_set ?_ GE224.out | refine below_set ?_ GE234.out) | exact HB.out)) hb)
           clear HO233
           clear HO245
           clear BK224
           clear BK234
           clear HB
           have HO233 := n0_
           have HO245 := n1_
           have HO260 := n2_
           have BK224 := n3_
           have BK234 := n4_
           have HB := n5_
           clear n0_ n1_ n2_ n3_ n4_ n5_
           (try clear hb)
           (try clear hb2)
           (try clear hk)
           (try clear hi)
           (try clear ho0)
           refine hK.out _ _ ⟨(bc BK224.out 0).trans rfl, (bc BK224.out 1).trans rfl, ((HB.out.cell (bl w _ hw253_0)).trans hw253_0), ((HB.out.cell (bl w _ hw253_1)).trans hw253_1), ((HB.out.cell (bl w _ hw253_2)).trans hw253_2), ((HB.out.cell (bl w _ hw253_3)).trans hw253_3), ((HB.out.cell (bl w _ hw255_0)).trans hw255_0), ((HB.out.cell (bl w _ hw255_1)).trans hw255_1), ((HB.out.cell (bl w _ hw255_2)).trans hw255_2), ((HB.out.cell (bl w _ hw255_3)).trans hw255_3), ((HB.out.cell (bl w _ hw257_0)).trans hw257_0), ((HB.out.cell (bl w _ hw257_1)).trans hw257_1), ((HB.out.cell (bl w _ hw257_2)).trans hw257_2), ((HB.out.cell (bl w _ hw257_3)).trans hw257_3)⟩ (fun hHeld => ?_)
           clear hK K
           refine norm_ (a' := ?_) ?_ ?_
           rotate_left
           ·
            show Act.put _ (some 100) _ = _
            simp only [Act.put, List.setIfInBounds_toArray, List.set_cons_zero, List.set_cons_succ, i64_w, i32_w]
            rfl
           refine pure_ (i := 18) (N := some 18) (v := ?_) (a' := ?_) #[true, true, true, true, true, true, true, true, true, true, true, true, true, true, true, true, true, true, true, false, false] rfl rfl (any_of HT_.out (by kernel_rfl)) (fun _ _ _ h => h) (Or.inl ⟨by rfl, ?_⟩) ?_ ?_
           rotate_left
           ·
            intro w'
            go_simp
            with_reducible rfl
           rotate_left
           ·
            simp only [Act.put, List.setIfInBounds_toArray, List.set_cons_zero, List.set_cons_succ, i64_w, i32_w]
            rfl
           refine pure_ (i := 19) (N := some 19) (v := ?_) (a' := ?_) #[true, true, true, true, true, true, true, true, true, true, true, true, true, true, true, true, true, true, true, true, false] rfl rfl (any_of HT_.out (by kernel_rfl)) (fun _ _ _ h => h) (Or.inl ⟨by rfl, ?_⟩) ?_ ?_
           rotate_left
           ·
            intro w'
            go_simp
            with_reducible rfl
           rotate_left
           ·
            simp only [Act.put, List.setIfInBounds_toArray, List.set_cons_zero, List.set_cons_succ, i64_w, i32_w]
            rfl
           refine pure_ (i := 20) (N := some 20) (v := ?_) (a' := ?_) #[true, true, true, true, true, true, true, true, true, true, true, true, true, true, true, true, true, true, true, true, true] rfl rfl (any_of HT_.out (by kernel_rfl)) (fun _ _ _ h => h) (Or.inl ⟨by rfl, ?_⟩) ?_ ?_
           rotate_left
           ·
            intro w'
            go_simp
            with_reducible rfl
           rotate_left
           ·
            simp only [Act.put, List.setIfInBounds_toArray, List.set_cons_zero, List.set_cons_succ, i64_w, i32_w]
            rfl
           refine done_ (done_of HT_.out (by kernel_rfl)) ?_
           try go_wp2
           go_meet
           case rel => exact ⟨_, (0), (t250), (t252), (t254), (t256), (t258), (by first | rfl | (simp; done) | (simp [*]; done)), (by first | rfl | (simp; done) | (simp [*]; done)), (by first | rfl | (simp; done) | (simp [*]; done)), (by first | rfl | (simp; done) | (simp [*]; done)), (by first | rfl | (simp; done) | (simp [*]; done)), H', ⟨by have := HK1.out; have := HJ9.out; first | omega | exact Nat.le_refl _⟩, ⟨by (with_reducible repeat (first | apply Kd.R_alloc | apply Kd.R_drewN | apply Kd.R_drew)); exact Kd.R_mono HO245.out (fun _ hk => hk.2)⟩, ⟨by (with_reducible repeat (first | apply Kd.R_alloc | apply Kd.R_drewN | apply Kd.R_drew)); exact Kd.R_mono HO260.out (fun _ hk => hk.2)⟩, ⟨by (with_reducible repeat (first | apply Kd.R_alloc | apply Kd.R_drewN | apply Kd.R_drew)); exact Kd.R_mono HO233.out (fun _ hk => hk.2)⟩, ⟨by (with_reducible repeat (first | refine bN ?_ _ | refine bD ?_ | refine bA ?_ _)); exact BK224.out⟩, ⟨by (with_reducible repeat (first | refine bN ?_ _ | refine bD ?_ | refine bA ?_ _)); exact BK234.out⟩, ⟨by repeat (first | (with_reducible first | exact HB.out | apply pA | apply pN | apply pD | refine below_set ?_ GE224.out | refine below_set ?_ GE234.out) | exact HB.out)⟩⟩
          ·
           replace c42 := Bool.eq_false_iff.mpr c42
           subst c42
           have H1 : (almagestlaw1_TermTells.j2 kj9 x3_1 t235 t236 t237 t238 t239 t240 t241 t242 t243 t246 1 0 0 false false ([] : List ByteArray) l0_0 l0_1 t228 t229 t230 t231) = some r := by rw [if_neg (show ¬ (false = true) by decide)] at H; exact H
           clear H
           have H := H1
           clear H1
           have H' := Aside0.mk H
           clear H
           go_wp2
           go_meet
           case rel => exact ⟨_, (1), (0), (0), (false), (false), (([] : List ByteArray)), (by first | rfl | (simp; done) | (simp [*]; done)), (by first | rfl | (simp; done) | (simp [*]; done)), (by first | rfl | (simp; done) | (simp [*]; done)), (by first | rfl | (simp; done) | (simp [*]; done)), (by first | rfl | (simp; done) | (simp [*]; done)), H', ⟨by have := HK1.out; have := HJ9.out; first | omega | exact Nat.le_refl _⟩, ⟨by (with_reducible repeat (first | apply Kd.R_alloc | apply Kd.R_drewN | apply Kd.R_drew)); exact Kd.R_mono HO245.out (fun _ hk => (by simp [Value.ownBlock]))⟩, ⟨by first | exact Kd.R_nil _ _ _ _ _ | exact Kd.N_nil _ _ _ _ _ | exact Kd.V_nil _ _ _ _ _ | exact Kd.Q_nil _ _ _ _ _ | exact Kd.S_nil _ _ _ _ _⟩, ⟨by (with_reducible repeat (first | apply Kd.R_alloc | apply Kd.R_drewN | apply Kd.R_drew)); exact Kd.R_mono HO233.out (fun _ hk => hk.2)⟩, ⟨by (with_reducible repeat (first | refine bN ?_ _ | refine bD ?_ | refine bA ?_ _)); exact BK224.out⟩, ⟨by (with_reducible repeat (first | refine bN ?_ _ | refine bD ?_ | refine bA ?_ _)); exact BK234.out⟩, ⟨by repeat (first | (with_reducible first | exact HB.out | apply pA | apply pN | apply pD | refine below_set ?_ GE224.out | refine below_set ?_ GE234.out) | exact HB.out)⟩⟩
         case rest =>
          clear HC24
          try clear c2
          try clear p2
          try clear q2
          try clear hx2
          try clear c4
          try clear c24
          try clear p24
          try clear q24
          try clear hx24
          try clear c25
          try clear p25
          try clear q25
          try clear hx25
          try clear c26
          try clear c27
          try clear c28
          try clear c42
          try clear hx249_0
          try clear hx249_1
          try clear hx249_2
          try clear hx249_3
          try clear hx251_0
          try clear hx251_1
          try clear hx251_2
          try clear hx251_3
          try clear hx253_0
          try clear hx253_1
          try clear hx253_2
          try clear hx253_3
          try clear hx255_0
          try clear hx255_1
          try clear hx255_2
          try clear hx255_3
          try clear hx257_0
          try clear hx257_1
          try clear hx257_2
          try clear hx257_3
          try clear p249
          try clear p251
          try clear p253
          try clear p255
          try clear p257
          try clear q249
          try clear q251
          try clear q253
          try clear q255
          try clear q257
          obtain ⟨kq, x15_23, x16_23, x17_23, x18_23, x19_23, x20_23, rfl, rfl, rfl, rfl, rfl, HA, HJ23, HO_13, HO_20, HO_235003, BK224, BK234, HB⟩ := hcut
          cases kq with
          | zero => exact absurd HA.out (by simp [almagestlaw1_TermTells.j2])
          | succ kj23 =>
           have H := HA.out
           clear HA
           simp only [almagestlaw1_TermTells.j2] at H
           replace H := Option.bind_eq_some_iff.mp H
           obtain ⟨t261, A550, H⟩ := H
           replace H : ((almagestlaw1_num.f t261).bind fun t262 => (if t262 = x15_23 then ((almagestlaw1_num.f t236).bind fun t263 => (if t263 = x15_23 then ((almagestlaw1_num.f t238).bind fun t264 => (if t264 = x15_23 then ((almagestlaw1_num.f t240).bind fun t265 => (if t265 = x15_23 then ((almagestlaw1_num.f t242).bind fun t266 => (if t266 = x15_23 then ((almagestlaw1_num.f t246).bind fun t267 => (if t267 = x15_23 then (if t235 = x16_23 then (if t237 = x17_23 then (if (t239 != x18_23) = true then (none) else (if (t241 != x19_23) = true then (none) else ((almagestref0_EqStrings.f kj23 t243 x20_23).bind fun t268 => (if t268 = true then (if 0 ≤ x3_1 then (if x3_1 < (l0_0.length : Int) then ((almagestref0_EqTerm.f kj23 t228 t229 t230 t231 ((rd_T31 l0_0 x3_1).f0) ((rd_T31 l0_0 x3_1).f1) ((rd_T31 l0_0 x3_1).f2) ((rd_T31 l0_0 x3_1).f3)).bind fun t270 => (if t270 = true then ((almagestlaw0_Strings.f kj23 t243).bind fun t271 => (almagestlaw1_TermTells.l0 kj23 (wrap64 (x3_1 + 1)) l0_0 l0_1)) else (none))) else (none)) else (none)) else (none))))) else (none)) else (none)) else (none))) else (none))) else (none))) else (none))) else (none))) else (none))) = some r := H
           have A55 := Aside0.mk A550
           clear A550
           replace H := Option.bind_eq_some_iff.mp H
           obtain ⟨t262, A560, H⟩ := H
           replace H : (if t262 = x15_23 then ((almagestlaw1_num.f t236).bind fun t263 => (if t263 = x15_23 then ((almagestlaw1_num.f t238).bind fun t264 => (if t264 = x15_23 then ((almagestlaw1_num.f t240).bind fun t265 => (if t265 = x15_23 then ((almagestlaw1_num.f t242).bind fun t266 => (if t266 = x15_23 then ((almagestlaw1_num.f t246).bind fun t267 => (if t267 = x15_23 then (if t235 = x16_23 then (if t237 = x17_23 then (if (t239 != x18_23) = true then (none) else (if (t241 != x19_23) = true then (none) else ((almagestref0_EqStrings.f kj23 t243 x20_23).bind fun t268 => (if t268 = true then (if 0 ≤ x3_1 then (if x3_1 < (l0_0.length : Int) then ((almagestref0_EqTerm.f kj23 t228 t229 t230 t231 ((rd_T31 l0_0 x3_1).f0) ((rd_T31 l0_0 x3_1).f1) ((rd_T31 l0_0 x3_1).f2) ((rd_T31 l0_0 x3_1).f3)).bind fun t270 => (if t270 = true then ((almagestlaw0_Strings.f kj23 t243).bind fun t271 => (almagestlaw1_TermTells.l0 kj23 (wrap64 (x3_1 + 1)) l0_0 l0_1)) else (none))) else (none)) else (none)) else (none))))) else (none)) else (none)) else (none))) else (none))) else (none))) else (none))) else (none))) else (none)) = some r := H
           have A56 := Aside0.mk A560
           clear A560
           by_cases c57 : t262 = x15_23
           ·
            rw [if_pos c57] at H
            have c57b0 : (t262 == x15_23) = true := beq_iff_eq.mpr c57
            have c57b1 : (t262 != x15_23) = false := bne_eq_false_iff_eq.mpr c57
            clear c57
            replace H := Option.bind_eq_some_iff.mp H
            obtain ⟨t263, A580, H⟩ := H
            replace H : (if t263 = x15_23 then ((almagestlaw1_num.f t238).bind fun t264 => (if t264 = x15_23 then ((almagestlaw1_num.f t240).bind fun t265 => (if t265 = x15_23 then ((almagestlaw1_num.f t242).bind fun t266 => (if t266 = x15_23 then ((almagestlaw1_num.f t246).bind fun t267 => (if t267 = x15_23 then (if t235 = x16_23 then (if t237 = x17_23 then (if (t239 != x18_23) = true then (none) else (if (t241 != x19_23) = true then (none) else ((almagestref0_EqStrings.f kj23 t243 x20_23).bind fun t268 => (if t268 = true then (if 0 ≤ x3_1 then (if x3_1 < (l0_0.length : Int) then ((almagestref0_EqTerm.f kj23 t228 t229 t230 t231 ((rd_T31 l0_0 x3_1).f0) ((rd_T31 l0_0 x3_1).f1) ((rd_T31 l0_0 x3_1).f2) ((rd_T31 l0_0 x3_1).f3)).bind fun t270 => (if t270 = true then ((almagestlaw0_Strings.f kj23 t243).bind fun t271 => (almagestlaw1_TermTells.l0 kj23 (wrap64 (x3_1 + 1)) l0_0 l0_1)) else (none))) else (none)) else (none)) else (none))))) else (none)) else (none)) else (none))) else (none))) else (none))) else (none))) else (none)) = some r := H
            have A58 := Aside0.mk A580
            clear A580
            by_cases c59 : t263 = x15_23
            ·
             rw [if_pos c59] at H
             have c59b0 : (t263 == x15_23) = true := beq_iff_eq.mpr c59
             have c59b1 : (t263 != x15_23) = false := bne_eq_false_iff_eq.mpr c59
             clear c59
             replace H := Option.bind_eq_some_iff.mp H
             obtain ⟨t264, A600, H⟩ := H
             replace H : (if t264 = x15_23 then ((almagestlaw1_num.f t240).bind fun t265 => (if t265 = x15_23 then ((almagestlaw1_num.f t242).bind fun t266 => (if t266 = x15_23 then ((almagestlaw1_num.f t246).bind fun t267 => (if t267 = x15_23 then (if t235 = x16_23 then (if t237 = x17_23 then (if (t239 != x18_23) = true then (none) else (if (t241 != x19_23) = true then (none) else ((almagestref0_EqStrings.f kj23 t243 x20_23).bind fun t268 => (if t268 = true then (if 0 ≤ x3_1 then (if x3_1 < (l0_0.length : Int) then ((almagestref0_EqTerm.f kj23 t228 t229 t230 t231 ((rd_T31 l0_0 x3_1).f0) ((rd_T31 l0_0 x3_1).f1) ((rd_T31 l0_0 x3_1).f2) ((rd_T31 l0_0 x3_1).f3)).bind fun t270 => (if t270 = true then ((almagestlaw0_Strings.f kj23 t243).bind fun t271 => (almagestlaw1_TermTells.l0 kj23 (wrap64 (x3_1 + 1)) l0_0 l0_1)) else (none))) else (none)) else (none)) else (none))))) else (none)) else (none)) else (none))) else (none))) else (none))) else (none)) = some r := H
             have A60 := Aside0.mk A600
             clear A600
             by_cases c61 : t264 = x15_23
             ·
              rw [if_pos c61] at H
              have c61b0 : (t264 == x15_23) = true := beq_iff_eq.mpr c61
              have c61b1 : (t264 != x15_23) = false := bne_eq_false_iff_eq.mpr c61
              clear c61
              replace H := Option.bind_eq_some_iff.mp H
              obtain ⟨t265, A620, H⟩ := H
              replace H : (if t265 = x15_23 then ((almagestlaw1_num.f t242).bind fun t266 => (if t266 = x15_23 then ((almagestlaw1_num.f t246).bind fun t267 => (if t267 = x15_23 then (if t235 = x16_23 then (if t237 = x17_23 then (if (t239 != x18_23) = true then (none) else (if (t241 != x19_23) = true then (none) else ((almagestref0_EqStrings.f kj23 t243 x20_23).bind fun t268 => (if t268 = true then (if 0 ≤ x3_1 then (if x3_1 < (l0_0.length : Int) then ((almagestref0_EqTerm.f kj23 t228 t229 t230 t231 ((rd_T31 l0_0 x3_1).f0) ((rd_T31 l0_0 x3_1).f1) ((rd_T31 l0_0 x3_1).f2) ((rd_T31 l0_0 x3_1).f3)).bind fun t270 => (if t270 = true then ((almagestlaw0_Strings.f kj23 t243).bind fun t271 => (almagestlaw1_TermTells.l0 kj23 (wrap64 (x3_1 + 1)) l0_0 l0_1)) else (none))) else (none)) else (none)) else (none))))) else (none)) else (none)) else (none))) else (none))) else (none)) = some r := H
              have A62 := Aside0.mk A620
              clear A620
              by_cases c63 : t265 = x15_23
              ·
               rw [if_pos c63] at H
               have c63b0 : (t265 == x15_23) = true := beq_iff_eq.mpr c63
               have c63b1 : (t265 != x15_23) = false := bne_eq_false_iff_eq.mpr c63
               clear c63
               replace H := Option.bind_eq_some_iff.mp H
               obtain ⟨t266, A640, H⟩ := H
               replace H : (if t266 = x15_23 then ((almagestlaw1_num.f t246).bind fun t267 => (if t267 = x15_23 then (if t235 = x16_23 then (if t237 = x17_23 then (if (t239 != x18_23) = true then (none) else (if (t241 != x19_23) = true then (none) else ((almagestref0_EqStrings.f kj23 t243 x20_23).bind fun t268 => (if t268 = true then (if 0 ≤ x3_1 then (if x3_1 < (l0_0.length : Int) then ((almagestref0_EqTerm.f kj23 t228 t229 t230 t231 ((rd_T31 l0_0 x3_1).f0) ((rd_T31 l0_0 x3_1).f1) ((rd_T31 l0_0 x3_1).f2) ((rd_T31 l0_0 x3_1).f3)).bind fun t270 => (if t270 = true then ((almagestlaw0_Strings.f kj23 t243).bind fun t271 => (almagestlaw1_TermTells.l0 kj23 (wrap64 (x3_1 + 1)) l0_0 l0_1)) else (none))) else (none)) else (none)) else (none))))) else (none)) else (none)) else (none))) else (none)) = some r := H
               have A64 := Aside0.mk A640
               clear A640
               by_cases c65 : t266 = x15_23
               ·
                rw [if_pos c65] at H
                have c65b0 : (t266 == x15_23) = true := beq_iff_eq.mpr c65
                have c65b1 : (t266 != x15_23) = false := bne_eq_false_iff_eq.mpr c65
                clear c65
                replace H := Option.bind_eq_some_iff.mp H
                obtain ⟨t267, A660, H⟩ := H
                replace H : (if t267 = x15_23 then (if t235 = x16_23 then (if t237 = x17_23 then (if (t239 != x18_23) = true then (none) else (if (t241 != x19_23) = true then (none) else ((almagestref0_EqStrings.f kj23 t243 x20_23).bind fun t268 => (if t268 = true then (if 0 ≤ x3_1 then (if x3_1 < (l0_0.length : Int) then ((almagestref0_EqTerm.f kj23 t228 t229 t230 t231 ((rd_T31 l0_0 x3_1).f0) ((rd_T31 l0_0 x3_1).f1) ((rd_T31 l0_0 x3_1).f2) ((rd_T31 l0_0 x3_1).f3)).bind fun t270 => (if t270 = true then ((almagestlaw0_Strings.f kj23 t243).bind fun t271 => (almagestlaw1_TermTells.l0 kj23 (wrap64 (x3_1 + 1)) l0_0 l0_1)) else (none))) else (none)) else (none)) else (none))))) else (none)) else (none)) else (none)) = some r := H
                have A66 := Aside0.mk A660
                clear A660
                by_cases c67 : t267 = x15_23
                ·
                 rw [if_pos c67] at H
                 have c67b0 : (t267 == x15_23) = true := beq_iff_eq.mpr c67
                 have c67b1 : (t267 != x15_23) = false := bne_eq_false_iff_eq.mpr c67
                 clear c67
                 by_cases c68 : t235 = x16_23
                 ·
                  rw [if_pos c68] at H
                  have c68b0 : (t235 == x16_23) = true := beq_iff_eq.mpr c68
                  have c68b1 : (t235 != x16_23) = false := bne_eq_false_iff_eq.mpr c68
                  clear c68
                  by_cases c69 : t237 = x17_23
                  ·
                   rw [if_pos c69] at H
                   have c69b0 : (t237 == x17_23) = true := beq_iff_eq.mpr c69
                   have c69b1 : (t237 != x17_23) = false := bne_eq_false_iff_eq.mpr c69
                   clear c69
                   by_cases c70 : (t239 != x18_23) = true
                   ·
                    rw [if_pos c70] at H
                    exact absurd H (by simp)
                   ·
                    rw [if_neg c70] at H
                    have c70b0 : (t239 != x18_23) = false := by simpa using c70
                    (try (have c70b1 : decide (t239 = x18_23) = true := by simpa using c70))
                    (try (have c70b2 : (t239 == x18_23) = true := by simpa using c70))
                    clear c70
                    by_cases c71 : (t241 != x19_23) = true
                    ·
                     rw [if_pos c71] at H
                     exact absurd H (by simp)
                    ·
                     rw [if_neg c71] at H
                     have c71b0 : (t241 != x19_23) = false := by simpa using c71
                     (try (have c71b1 : decide (t241 = x19_23) = true := by simpa using c71))
                     (try (have c71b2 : (t241 == x19_23) = true := by simpa using c71))
                     clear c71
                     replace H := Option.bind_eq_some_iff.mp H
                     obtain ⟨t268, A720, H⟩ := H
                     replace H : (if t268 = true then (if 0 ≤ x3_1 then (if x3_1 < (l0_0.length : Int) then ((almagestref0_EqTerm.f kj23 t228 t229 t230 t231 ((rd_T31 l0_0 x3_1).f0) ((rd_T31 l0_0 x3_1).f1) ((rd_T31 l0_0 x3_1).f2) ((rd_T31 l0_0 x3_1).f3)).bind fun t270 => (if t270 = true then ((almagestlaw0_Strings.f kj23 t243).bind fun t271 => (almagestlaw1_TermTells.l0 kj23 (wrap64 (x3_1 + 1)) l0_0 l0_1)) else (none))) else (none)) else (none)) else (none)) = some r := H
                     have A72 := Aside0.mk A720
                     clear A720
                     by_cases c73 : t268 = true
                     ·
                      subst c73
                      have H1 : (if 0 ≤ x3_1 then (if x3_1 < (l0_0.length : Int) then ((almagestref0_EqTerm.f kj23 t228 t229 t230 t231 ((rd_T31 l0_0 x3_1).f0) ((rd_T31 l0_0 x3_1).f1) ((rd_T31 l0_0 x3_1).f2) ((rd_T31 l0_0 x3_1).f3)).bind fun t270 => (if t270 = true then ((almagestlaw0_Strings.f kj23 t243).bind fun t271 => (almagestlaw1_TermTells.l0 kj23 (wrap64 (x3_1 + 1)) l0_0 l0_1)) else (none))) else (none)) else (none)) = some r := by rw [if_pos rfl] at H; exact H
                      clear H
                      have H := H1
                      clear H1
                      by_cases c74 : 0 ≤ x3_1
                      ·
                       rw [if_pos c74] at H
                       have c74b0 : decide (0 ≤ x3_1) = true := decide_eq_true c74
                       clear c74
                       by_cases c75 : x3_1 < (l0_0.length : Int)
                       ·
                        rw [if_pos c75] at H
                        have c75b0 : decide (x3_1 < (l0_0.length : Int)) = true := decide_eq_true c75
                        clear c75
                        replace H := Option.bind_eq_some_iff.mp H
                        obtain ⟨t270, A760, H⟩ := H
                        replace H : (if t270 = true then ((almagestlaw0_Strings.f kj23 t243).bind fun t271 => (almagestlaw1_TermTells.l0 kj23 (wrap64 (x3_1 + 1)) l0_0 l0_1)) else (none)) = some r := H
                        have A76 := Aside0.mk A760
                        clear A760
                        by_cases c77 : t270 = true
                        ·
                         subst c77
                         have H1 : ((almagestlaw0_Strings.f kj23 t243).bind fun t271 => (almagestlaw1_TermTells.l0 kj23 (wrap64 (x3_1 + 1)) l0_0 l0_1)) = some r := by rw [if_pos rfl] at H; exact H
                         clear H
                         have H := H1
                         clear H1
                         replace H := Option.bind_eq_some_iff.mp H
                         obtain ⟨t271, A780, H⟩ := H
                         replace H : (almagestlaw1_TermTells.l0 kj23 (wrap64 (x3_1 + 1)) l0_0 l0_1) = some r := H
                         have A78 := Aside0.mk A780
                         clear A780
                         have H' := Aside0.mk H
                         clear H
                         try go_wp2
                         have n0_ := Aside0.mk (Kd.R_drew HO_13.out)
                         have n1_ := Aside0.mk (Kd.R_drew HO_20.out)
                         have n2_ := Aside0.mk (Kd.R_drew HO_235003.out)
                         have n3_ := Aside0.mk (bD BK224.out)
                         have n4_ := Aside0.mk (bD BK234.out)
                         have n5_ := Aside0.mk (pD HB.out)
                         clear HO_13
                         clear HO_20
                         clear HO_235003
                         clear BK224
                         clear BK234
                         clear HB
                         have HO_13 := n0_
                         have HO_20 := n1_
                         have HO_235003 := n2_
                         have BK224 := n3_
                         have BK234 := n4_
                         have HB := n5_
                         clear n0_ n1_ n2_ n3_ n4_ n5_
                         have p269 : 0 ≤ (x3_1 : Int) := of_decide_eq_true (by first | (with_reducible assumption) | assumption)
                         have q269 : x3_1 < (l0_0.length : Int) := of_decide_eq_true (by first | (with_reducible assumption) | assumption)
                         obtain ⟨ad269, A269_3, c269_3, e269, hx269_0, hx269_1, hx269_2, hx269_3, hl269_3, hi269_3⟩ := at_T31 HR0_0.out x3_1 p269 q269
                         have hw269_3 := hx269_3
                         have hw269_2 := hx269_2
                         have hw269_1 := hx269_1
                         have hw269_0 := hx269_0
                         obtain rfl : ad227 = ad269 := (by injection e269)
                         replace hx269_0 := (HB.out.cell (bl w _ hx269_0)).trans hx269_0
                         replace hx269_1 := (HB.out.cell (bl w _ hx269_1)).trans hx269_1
                         replace hx269_2 := (HB.out.cell (bl w _ hx269_2)).trans hx269_2
                         replace hx269_3 := (HB.out.cell (bl w _ hx269_3)).trans hx269_3
                         have HR269_3 := Aside0.mk hi269_3
                         have HC269_3 := Aside0.mk hl269_3
                         clear hi269_3 hl269_3
                         replace p269 := eq_true p269
                         replace q269 := eq_true q269
                         refine start_ (n := 71) (S := fun w' => w'.cell? ⟨gb234, 0, none⟩ = some (.int .i64 t228) ∧ w'.cell? ⟨gb234, 1, none⟩ = some (.string t229) ∧ w'.cell? ⟨gb234, 2, none⟩ = some (.int .i64 t230) ∧ w'.cell? ⟨gb234, 3, none⟩ = some (.slice Ao30 t231.length co30) ∧ w'.cell? ⟨gb224, 0, none⟩ = some (.slice (some ad227) l0_0.length c0_0) ∧ w'.cell? ⟨gb224, 1, none⟩ = some (.slice A0_1 l0_1.length c0_1) ∧ w'.cell? (ad227.add ((x3_1).toNat * 4)) = some (.int .i64 ((rd_T31 l0_0 x3_1).f0)) ∧ w'.cell? ⟨(ad227.add ((x3_1).toNat * 4)).block, (ad227.add ((x3_1).toNat * 4)).off + 1, none⟩ = some (.string ((rd_T31 l0_0 x3_1).f1)) ∧ w'.cell? ⟨(ad227.add ((x3_1).toNat * 4)).block, (ad227.add ((x3_1).toNat * 4)).off + 2, none⟩ = some (.int .i64 ((rd_T31 l0_0 x3_1).f2)) ∧ w'.cell? ⟨(ad227.add ((x3_1).toNat * 4)).block, (ad227.add ((x3_1).toNat * 4)).off + 3, none⟩ = some (.slice A269_3 ((rd_T31 l0_0 x3_1).f3).length c269_3)) (ds := []) #[false, false, false, false, false, false, false, false, false, false, false, false, false, false, false, false, false, false, false, false, false, false, false, false, false, false, false, false, false, false, false, false, false, false, false, false, false, false, false, false, false, false, false, false, false, false, false, false, false, false, false, false, false, false, false, false, false, false, false, false, false, false, false, false, false, false, false, false, false, false, false] (by kernel_rfl) rfl rfl ⟨(bc BK234.out 0).trans rfl, (bc BK234.out 1).trans rfl, (bc BK234.out 2).trans rfl, (bc BK234.out 3).trans rfl, (bc BK224.out 0).trans rfl, (bc BK224.out 1).trans rfl, ((HB.out.cell (bl w _ hw269_0)).trans hw269_0), ((HB.out.cell (bl w _ hw269_1)).trans hw269_1), ((HB.out.cell (bl w _ hw269_2)).trans hw269_2), ((HB.out.cell (bl w _ hw269_3)).trans hw269_3)⟩ (fun hHeld => ?_); refine with_tabW almagestlaw1_TermTells.tab18 almagestlaw1_TermTells.bits18 (fun HT_ HW_ => ?_)
                         generalize wc.drew = w79 at HO_13 HO_20 HO_235003 BK224 BK234 HB HR269_3 hx269_0 hx269_1 hx269_2 hx269_3 hHeld ⊢
                         refine pure_ (i := 3) (N := some 104) (v := ?_) (a' := ?_) #[false, false, false, true, false, false, false, false, false, false, false, false, false, false, false, false, false, false, false, false, false, false, false, false, false, false, false, false, false, false, false, false, false, false, false, false, false, false, false, false, false, false, false, false, false, false, false, false, false, false, false, false, false, false, false, false, false, false, false, false, false, false, false, false, false, false, false, false, false, false, false] rfl rfl (any_of HT_.out (by kernel_rfl)) (fun _ _ _ h => h) (Or.inl ⟨by rfl, ?_⟩) ?_ ?_
                         rotate_left
                         ·
                          intro w'
                          go_simp
                          with_reducible rfl
                         rotate_left
                         ·
                          simp only [Act.put, List.setIfInBounds_toArray, List.set_cons_zero, List.set_cons_succ, i64_w, i32_w]
                          rfl
                         refine take_ (i := 0) (N := some 101) (v := ?_) (a' := ?_) #[true, false, false, true, false, false, false, false, false, false, false, false, false, false, false, false, false, false, false, false, false, false, false, false, false, false, false, false, false, false, false, false, false, false, false, false, false, false, false, false, false, false, false, false, false, false, false, false, false, false, false, false, false, false, false, false, false, false, false, false, false, false, false, false, false, false, false, false, false, false, false] rfl rfl (take_ofW HT_.out HW_.out (by kernel_rfl)) (fun _ _ _ h => h) (Or.inl ⟨by rfl, ?_⟩) hHeld ?_ ?_
                         rotate_left
                         ·
                          rintro w' ⟨s0, s1, s2, s3, s4, s5, s6, s7, s8, s9⟩
                          go_simp
                          with_reducible rfl
                         rotate_left
                         ·
                          simp only [Act.put, List.setIfInBounds_toArray, List.set_cons_zero, List.set_cons_succ, i64_w, i32_w]
                          rfl
                         refine one_ (i := 1) (N := some 102) #[true, true, false, true, false, false, false, false, false, false, false, false, false, false, false, false, false, false, false, false, false, false, false, false, false, false, false, false, false, false, false, false, false, false, false, false, false, false, false, false, false, false, false, false, false, false, false, false, false, false, false, false, false, false, false, false, false, false, false, false, false, false, false, false, false, false, false, false, false, false, false] rfl rfl (one_of HT_.out (by kernel_rfl)) (by decide) (fun K hK => ?_)
                         refine goes_ Try.func13 (by kernel_rfl) rfl #[.agg #[.int .i64 t228, .string t229, .int .i64 t230, .slice Ao30 t231.length co30]] (by rfl) rfl rfl (by (try simp only [List.map_toArray, List.map_cons, List.map_nil]); first | done | rfl | (simp only [List.length_drop, List.length_take]; rfl)) ?_
                         with_reducible refine (term_Check.calls t228 t229 t230 _ _ t231 t261 _ ?side1 ?side2 A55.out).mono ?_
                         (case side1 => repeat (first | exact (Kd.R_reads' HO_235003.out).2.2 | (with_reducible refine Kd.C_alloc ?_ _) | (with_reducible refine Kd.C_drewN ?_ _) | (with_reducible refine Kd.C_drew ?_)))
                         (case side2 => exact (Kd.R_reads' HO_235003.out).2.1)
                         rintro e w80 ⟨rfl, hb⟩
                         refine ⟨_, rfl, ?_⟩
                         have n0_ := Aside0.mk (Kd.R_below (by (with_reducible repeat (first | apply Kd.R_alloc | apply Kd.R_drewN | apply Kd.R_drew)); exact HO_13.out) hb)
                         have n1_ := Aside0.mk (Kd.R_below (by (with_reducible repeat (first | apply Kd.R_alloc | apply Kd.R_drewN | apply Kd.R_drew)); exact HO_20.out) hb)
                         have n2_ := Aside0.mk (Kd.R_below (by (with_reducible repeat (first | apply Kd.R_alloc | apply Kd.R_drewN | apply Kd.R_drew)); exact HO_235003.out) hb)
                         have n3_ := Aside0.mk (blk_below (g := gb224) (o := .cells #[.slice (some ad227) l0_0.length c0_0, .slice A0_1 l0_1.length c0_1] 25 (0, 0)) (by (with_reducible repeat (first | refine bN ?_ _ | refine bD ?_ | refine bA ?_ _)); exact BK224.out) hb)
                         have n4_ := Aside0.mk (blk_below (g := gb234) (o := .cells #[.int .i64 t228, .string t229, .int .i64 t230, .slice Ao30 t231.length co30] 31 (0, 0)) (by (with_reducible repeat (first | refine bN ?_ _ | refine bD ?_ | refine bA ?_ _)); exact BK234.out) hb)
                         have n5_ := Aside0.mk (below_step (by repeat (first | (with_reducible first | exact HB.out | apply pA | apply pN | apply pD | refine below_set ?_ GE224.out | refine below_set ?_ GE234.out) | exact HB.out)) hb)
                         clear HO_13
                         clear HO_20
                         clear HO_235003
                         clear BK224
                         clear BK234
                         clear HB
                         have HO_13 := n0_
                         have HO_20 := n1_
                         have HO_235003 := n2_
                         have BK224 := n3_
                         have BK234 := n4_
                         have HB := n5_
                         clear n0_ n1_ n2_ n3_ n4_ n5_
                         (try clear hb)
                         (try clear hb2)
                         (try clear hk)
                         (try clear hi)
                         refine hK.out _ _ ⟨(bc BK234.out 0).trans rfl, (bc BK234.out 1).trans rfl, (bc BK234.out 2).trans rfl, (bc BK234.out 3).trans rfl, (bc BK224.out 0).trans rfl, (bc BK224.out 1).trans rfl, ((HB.out.cell (bl w _ hw269_0)).trans hw269_0), ((HB.out.cell (bl w _ hw269_1)).trans hw269_1), ((HB.out.cell (bl w _ hw269_2)).trans hw269_2), ((HB.out.cell (bl w _ hw269_3)).trans hw269_3)⟩ (fun hHeld => ?_)
                         clear hK K
                         refine norm_ (a' := ?_) ?_ ?_
                         rotate_left
                         ·
                          show Act.put _ (some 102) _ = _
                          simp only [Act.put, List.setIfInBounds_toArray, List.set_cons_zero, List.set_cons_succ, i64_w, i32_w]
                          rfl
                         refine one_ (i := 2) (N := some 103) #[true, true, true, true, false, false, false, false, false, false, false, false, false, false, false, false, false, false, false, false, false, false, false, false, false, false, false, false, false, false, false, false, false, false, false, false, false, false, false, false, false, false, false, false, false, false, false, false, false, false, false, false, false, false, false, false, false, false, false, false, false, false, false, false, false, false, false, false, false, false, false] rfl rfl (one_of HT_.out (by kernel_rfl)) (by decide) (fun K hK => ?_)
                         refine goes_ Try.func12 (by kernel_rfl) rfl #[.int .i64 t261] (by rfl) rfl rfl (by (try simp only [List.map_toArray, List.map_cons, List.map_nil]); first | done | rfl | (simp only [List.length_drop, List.length_take]; rfl)) ?_
                         with_reducible refine (almagestlaw1_num.calls t261 t262 _ A56.out).mono ?_
                         rintro e w' ⟨rfl, ⟨nd, rfl⟩⟩
                         refine ⟨_, rfl, ?_⟩
                         refine hK.out _ _ ⟨(bc BK234.out 0).trans rfl, (bc BK234.out 1).trans rfl, (bc BK234.out 2).trans rfl, (bc BK234.out 3).trans rfl, (bc BK224.out 0).trans rfl, (bc BK224.out 1).trans rfl, ((HB.out.cell (bl w _ hw269_0)).trans hw269_0), ((HB.out.cell (bl w _ hw269_1)).trans hw269_1), ((HB.out.cell (bl w _ hw269_2)).trans hw269_2), ((HB.out.cell (bl w _ hw269_3)).trans hw269_3)⟩ (fun hHeld => ?_)
                         clear hK K
                         refine norm_ (a' := ?_) ?_ ?_
                         rotate_left
                         ·
                          show Act.put _ (some 103) _ = _
                          simp only [Act.put, List.setIfInBounds_toArray, List.set_cons_zero, List.set_cons_succ, i64_w, i32_w]
                          rfl
                         refine pure_ (i := 4) (N := some 105) (v := ?_) (a' := ?_) #[true, true, true, true, true, false, false, false, false, false, false, false, false, false, false, false, false, false, false, false, false, false, false, false, false, false, false, false, false, false, false, false, false, false, false, false, false, false, false, false, false, false, false, false, false, false, false, false, false, false, false, false, false, false, false, false, false, false, false, false, false, false, false, false, false, false, false, false, false, false, false] rfl rfl (any_of HT_.out (by kernel_rfl)) (fun _ _ _ h => h) (Or.inl ⟨by rfl, ?_⟩) ?_ ?_
                         rotate_left
                         ·
                          intro w'
                          go_simp
                          with_reducible rfl
                         rotate_left
                         ·
                          simp only [Act.put, List.setIfInBounds_toArray, List.set_cons_zero, List.set_cons_succ, i64_w, i32_w]
                          rfl
                         refine pure_ (i := 5) (N := some 106) (v := ?_) (a' := ?_) #[true, true, true, true, true, true, false, false, false, false, false, false, false, false, false, false, false, false, false, false, false, false, false, false, false, false, false, false, false, false, false, false, false, false, false, false, false, false, false, false, false, false, false, false, false, false, false, false, false, false, false, false, false, false, false, false, false, false, false, false, false, false, false, false, false, false, false, false, false, false, false] rfl rfl (any_of HT_.out (by kernel_rfl)) (fun _ _ _ h => h) (Or.inl ⟨by rfl, ?_⟩) ?_ ?_
                         rotate_left
                         ·
                          intro w'
                          go_simp
                          with_reducible rfl
                         rotate_left
                         ·
                          simp only [Act.put, List.setIfInBounds_toArray, List.set_cons_zero, List.set_cons_succ, i64_w, i32_w]
                          rfl
                         refine pure_ (i := 6) (N := some 107) (v := ?_) (a' := ?_) #[true, true, true, true, true, true, true, false, false, false, false, false, false, false, false, false, false, false, false, false, false, false, false, false, false, false, false, false, false, false, false, false, false, false, false, false, false, false, false, false, false, false, false, false, false, false, false, false, false, false, false, false, false, false, false, false, false, false, false, false, false, false, false, false, false, false, false, false, false, false, false] rfl rfl (any_of HT_.out (by kernel_rfl)) (fun _ _ _ h => h) (Or.inl ⟨by rfl, ?_⟩) ?_ ?_
                         rotate_left
                         ·
                          intro w'
                          go_simp
                          with_reducible rfl
                         rotate_left
                         ·
                          simp only [Act.put, List.setIfInBounds_toArray, List.set_cons_zero, List.set_cons_succ, i64_w, i32_w]
                          rfl
                         refine pure_ (i := 8) (N := some 109) (v := ?_) (a' := ?_) #[true, true, true, true, true, true, true, false, true, false, false, false, false, false, false, false, false, false, false, false, false, false, false, false, false, false, false, false, false, false, false, false, false, false, false, false, false, false, false, false, false, false, false, false, false, false, false, false, false, false, false, false, false, false, false, false, false, false, false, false, false, false, false, false, false, false, false, false, false, false, false] rfl rfl (any_of HT_.out (by kernel_rfl)) (fun _ _ _ h => h) (Or.inl ⟨by rfl, ?_⟩) ?_ ?_
                         rotate_left
                         ·
                          intro w'
                          go_simp
                          with_reducible rfl
                         rotate_left
                         ·
                          simp only [Act.put, List.setIfInBounds_toArray, List.set_cons_zero, List.set_cons_succ, i64_w, i32_w]
                          rfl
                         refine one_ (i := 7) (N := some 108) #[true, true, true, true, true, true, true, true, true, false, false, false, false, false, false, false, false, false, false, false, false, false, false, false, false, false, false, false, false, false, false, false, false, false, false, false, false, false, false, false, false, false, false, false, false, false, false, false, false, false, false, false, false, false, false, false, false, false, false, false, false, false, false, false, false, false, false, false, false, false, false] rfl rfl (one_of HT_.out (by kernel_rfl)) (by decide) (fun K hK => ?_)
                         refine goes_ Try.func12 (by kernel_rfl) rfl #[.int .i64 t236] (by rfl) rfl rfl (by (try simp only [List.map_toArray, List.map_cons, List.map_nil]); first | done | rfl | (simp only [List.length_drop, List.length_take]; rfl)) ?_
                         with_reducible refine (almagestlaw1_num.calls t236 t263 _ A58.out).mono ?_
                         rintro e w' ⟨rfl, ⟨nd, rfl⟩⟩
                         refine ⟨_, rfl, ?_⟩
                         refine hK.out _ _ ⟨(bc BK234.out 0).trans rfl, (bc BK234.out 1).trans rfl, (bc BK234.out 2).trans rfl, (bc BK234.out 3).trans rfl, (bc BK224.out 0).trans rfl, (bc BK224.out 1).trans rfl, ((HB.out.cell (bl w _ hw269_0)).trans hw269_0), ((HB.out.cell (bl w _ hw269_1)).trans hw269_1), ((HB.out.cell (bl w _ hw269_2)).trans hw269_2), ((HB.out.cell (bl w _ hw269_3)).trans hw269_3)⟩ (fun hHeld => ?_)
                         clear hK K
                         refine norm_ (a' := ?_) ?_ ?_
                         rotate_left
                         ·
                          show Act.put _ (some 108) _ = _
                          simp only [Act.put, List.setIfInBounds_toArray, List.set_cons_zero, List.set_cons_succ, i64_w, i32_w]
                          rfl
                         refine pure_ (i := 9) (N := some 110) (v := ?_) (a' := ?_) #[true, true, true, true, true, true, true, true, true, true, false, false, false, false, false, false, false, false, false, false, false, false, false, false, false, false, false, false, false, false, false, false, false, false, false, false, false, false, false, false, false, false, false, false, false, false, false, false, false, false, false, false, false, false, false, false, false, false, false, false, false, false, false, false, false, false, false, false, false, false, false] rfl rfl (any_of HT_.out (by kernel_rfl)) (fun _ _ _ h => h) (Or.inl ⟨by rfl, ?_⟩) ?_ ?_
                         rotate_left
                         ·
                          intro w'
                          go_simp
                          with_reducible rfl
                         rotate_left
                         ·
                          simp only [Act.put, List.setIfInBounds_toArray, List.set_cons_zero, List.set_cons_succ, i64_w, i32_w]
                          rfl
                         refine pure_ (i := 10) (N := some 111) (v := ?_) (a' := ?_) #[true, true, true, true, true, true, true, true, true, true, true, false, false, false, false, false, false, false, false, false, false, false, false, false, false, false, false, false, false, false, false, false, false, false, false, false, false, false, false, false, false, false, false, false, false, false, false, false, false, false, false, false, false, false, false, false, false, false, false, false, false, false, false, false, false, false, false, false, false, false, false] rfl rfl (any_of HT_.out (by kernel_rfl)) (fun _ _ _ h => h) (Or.inl ⟨by rfl, ?_⟩) ?_ ?_
                         rotate_left
                         ·
                          intro w'
                          go_simp
                          with_reducible rfl
                         rotate_left
                         ·
                          simp only [Act.put, List.setIfInBounds_toArray, List.set_cons_zero, List.set_cons_succ, i64_w, i32_w]
                          rfl
                         refine pure_ (i := 11) (N := some 112) (v := ?_) (a' := ?_) #[true, true, true, true, true, true, true, true, true, true, true, true, false, false, false, false, false, false, false, false, false, false, false, false, false, false, false, false, false, false, false, false, false, false, false, false, false, false, false, false, false, false, false, false, false, false, false, false, false, false, false, false, false, false, false, false, false, false, false, false, false, false, false, false, false, false, false, false, false, false, false] rfl rfl (any_of HT_.out (by kernel_rfl)) (fun _ _ _ h => h) (Or.inl ⟨by rfl, ?_⟩) ?_ ?_
                         rotate_left
                         ·
                          intro w'
                          go_simp
                          with_reducible rfl
                         rotate_left
                         ·
                          simp only [Act.put, List.setIfInBounds_toArray, List.set_cons_zero, List.set_cons_succ, i64_w, i32_w]
                          rfl
                         refine pure_ (i := 12) (N := some 113) (v := ?_) (a' := ?_) #[true, true, true, true, true, true, true, true, true, true, true, true, true, false, false, false, false, false, false, false, false, false, false, false, false, false, false, false, false, false, false, false, false, false, false, false, false, false, false, false, false, false, false, false, false, false, false, false, false, false, false, false, false, false, false, false, false, false, false, false, false, false, false, false, false, false, false, false, false, false, false] rfl rfl (any_of HT_.out (by kernel_rfl)) (fun _ _ _ h => h) (Or.inl ⟨by rfl, ?_⟩) ?_ ?_
                         rotate_left
                         ·
                          intro w'
                          go_simp
                          with_reducible rfl
                         rotate_left
                         ·
                          simp only [Act.put, List.setIfInBounds_toArray, List.set_cons_zero, List.set_cons_succ, i64_w, i32_w]
                          rfl
                         refine pure_ (i := 14) (N := some 115) (v := ?_) (a' := ?_) #[true, true, true, true, true, true, true, true, true, true, true, true, true, false, true, false, false, false, false, false, false, false, false, false, false, false, false, false, false, false, false, false, false, false, false, false, false, false, false, false, false, false, false, false, false, false, false, false, false, false, false, false, false, false, false, false, false, false, false, false, false, false, false, false, false, false, false, false, false, false, false] rfl rfl (any_of HT_.out (by kernel_rfl)) (fun _ _ _ h => h) (Or.inl ⟨by rfl, ?_⟩) ?_ ?_
                         rotate_left
                         ·
                          intro w'
                          go_simp
                          with_reducible rfl
                         rotate_left
                         ·
                          simp only [Act.put, List.setIfInBounds_toArray, List.set_cons_zero, List.set_cons_succ, i64_w, i32_w]
                          rfl
                         refine one_ (i := 13) (N := some 114) #[true, true, true, true, true, true, true, true, true, true, true, true, true, true, true, false, false, false, false, false, false, false, false, false, false, false, false, false, false, false, false, false, false, false, false, false, false, false, false, false, false, false, false, false, false, false, false, false, false, false, false, false, false, false, false, false, false, false, false, false, false, false, false, false, false, false, false, false, false, false, false] rfl rfl (one_of HT_.out (by kernel_rfl)) (by decide) (fun K hK => ?_)
                         refine goes_ Try.func12 (by kernel_rfl) rfl #[.int .i64 t238] (by rfl) rfl rfl (by (try simp only [List.map_toArray, List.map_cons, List.map_nil]); first | done | rfl | (simp only [List.length_drop, List.length_take]; rfl)) ?_
                         with_reducible refine (almagestlaw1_num.calls t238 t264 _ A60.out).mono ?_
                         rintro e w' ⟨rfl, ⟨nd, rfl⟩⟩
                         refine ⟨_, rfl, ?_⟩
                         refine hK.out _ _ ⟨(bc BK234.out 0).trans rfl, (bc BK234.out 1).trans rfl, (bc BK234.out 2).trans rfl, (bc BK234.out 3).trans rfl, (bc BK224.out 0).trans rfl, (bc BK224.out 1).trans rfl, ((HB.out.cell (bl w _ hw269_0)).trans hw269_0), ((HB.out.cell (bl w _ hw269_1)).trans hw269_1), ((HB.out.cell (bl w _ hw269_2)).trans hw269_2), ((HB.out.cell (bl w _ hw269_3)).trans hw269_3)⟩ (fun hHeld => ?_)
                         clear hK K
                         refine norm_ (a' := ?_) ?_ ?_
                         rotate_left
                         ·
                          show Act.put _ (some 114) _ = _
                          simp only [Act.put, List.setIfInBounds_toArray, List.set_cons_zero, List.set_cons_succ, i64_w, i32_w]
                          rfl
                         refine pure_ (i := 15) (N := some 116) (v := ?_) (a' := ?_) #[true, true, true, true, true, true, true, true, true, true, true, true, true, true, true, true, false, false, false, false, false, false, false, false, false, false, false, false, false, false, false, false, false, false, false, false, false, false, false, false, false, false, false, false, false, false, false, false, false, false, false, false, false, false, false, false, false, false, false, false, false, false, false, false, false, false, false, false, false, false, false] rfl rfl (any_of HT_.out (by kernel_rfl)) (fun _ _ _ h => h) (Or.inl ⟨by rfl, ?_⟩) ?_ ?_
                         rotate_left
                         ·
                          intro w'
                          go_simp
                          with_reducible rfl
                         rotate_left
                         ·
                          simp only [Act.put, List.setIfInBounds_toArray, List.set_cons_zero, List.set_cons_succ, i64_w, i32_w]
                          rfl
                         refine pure_ (i := 16) (N := some 117) (v := ?_) (a' := ?_) #[true, true, true, true, true, true, true, true, true, true, true, true, true, true, true, true, true, false, false, false, false, false, false, false, false, false, false, false, false, false, false, false, false, false, false, false, false, false, false, false, false, false, false, false, false, false, false, false, false, false, false, false, false, false, false, false, false, false, false, false, false, false, false, false, false, false, false, false, false, false, false] rfl rfl (any_of HT_.out (by kernel_rfl)) (fun _ _ _ h => h) (Or.inl ⟨by rfl, ?_⟩) ?_ ?_
                         rotate_left
                         ·
                          intro w'
                          go_simp
                          with_reducible rfl
                         rotate_left
                         ·
                          simp only [Act.put, List.setIfInBounds_toArray, List.set_cons_zero, List.set_cons_succ, i64_w, i32_w]
                          rfl
                         refine pure_ (i := 17) (N := some 118) (v := ?_) (a' := ?_) #[true, true, true, true, true, true, true, true, true, true, true, true, true, true, true, true, true, true, false, false, false, false, false, false, false, false, false, false, false, false, false, false, false, false, false, false, false, false, false, false, false, false, false, false, false, false, false, false, false, false, false, false, false, false, false, false, false, false, false, false, false, false, false, false, false, false, false, false, false, false, false] rfl rfl (any_of HT_.out (by kernel_rfl)) (fun _ _ _ h => h) (Or.inl ⟨by rfl, ?_⟩) ?_ ?_
                         rotate_left
                         ·
                          intro w'
                          go_simp
                          with_reducible rfl
                         rotate_left
                         ·
                          simp only [Act.put, List.setIfInBounds_toArray, List.set_cons_zero, List.set_cons_succ, i64_w, i32_w]
                          rfl
                         refine pure_ (i := 18) (N := some 119) (v := ?_) (a' := ?_) #[true, true, true, true, true, true, true, true, true, true, true, true, true, true, true, true, true, true, true, false, false, false, false, false, false, false, false, false, false, false, false, false, false, false, false, false, false, false, false, false, false, false, false, false, false, false, false, false, false, false, false, false, false, false, false, false, false, false, false, false, false, false, false, false, false, false, false, false, false, false, false] rfl rfl (any_of HT_.out (by kernel_rfl)) (fun _ _ _ h => h) (Or.inl ⟨by rfl, ?_⟩) ?_ ?_
                         rotate_left
                         ·
                          intro w'
                          go_simp
                          with_reducible rfl
                         rotate_left
                         ·
                          simp only [Act.put, List.setIfInBounds_toArray, List.set_cons_zero, List.set_cons_succ, i64_w, i32_w]
                          rfl
                         refine pure_ (i := 20) (N := some 121) (v := ?_) (a' := ?_) #[true, true, true, true, true, true, true, true, true, true, true, true, true, true, true, true, true, true, true, false, true, false, false, false, false, false, false, false, false, false, false, false, false, false, false, false, false, false, false, false, false, false, false, false, false, false, false, false, false, false, false, false, false, false, false, false, false, false, false, false, false, false, false, false, false, false, false, false, false, false, false] rfl rfl (any_of HT_.out (by kernel_rfl)) (fun _ _ _ h => h) (Or.inl ⟨by rfl, ?_⟩) ?_ ?_
                         rotate_left
                         ·
                          intro w'
                          go_simp
                          with_reducible rfl
                         rotate_left
                         ·
                          simp only [Act.put, List.setIfInBounds_toArray, List.set_cons_zero, List.set_cons_succ, i64_w, i32_w]
                          rfl
                         refine one_ (i := 19) (N := some 120) #[true, true, true, true, true, true, true, true, true, true, true, true, true, true, true, true, true, true, true, true, true, false, false, false, false, false, false, false, false, false, false, false, false, false, false, false, false, false, false, false, false, false, false, false, false, false, false, false, false, false, false, false, false, false, false, false, false, false, false, false, false, false, false, false, false, false, false, false, false, false, false] rfl rfl (one_of HT_.out (by kernel_rfl)) (by decide) (fun K hK => ?_)
                         refine goes_ Try.func12 (by kernel_rfl) rfl #[.int .i64 t240] (by rfl) rfl rfl (by (try simp only [List.map_toArray, List.map_cons, List.map_nil]); first | done | rfl | (simp only [List.length_drop, List.length_take]; rfl)) ?_
                         with_reducible refine (almagestlaw1_num.calls t240 t265 _ A62.out).mono ?_
                         rintro e w' ⟨rfl, ⟨nd, rfl⟩⟩
                         refine ⟨_, rfl, ?_⟩
                         refine hK.out _ _ ⟨(bc BK234.out 0).trans rfl, (bc BK234.out 1).trans rfl, (bc BK234.out 2).trans rfl, (bc BK234.out 3).trans rfl, (bc BK224.out 0).trans rfl, (bc BK224.out 1).trans rfl, ((HB.out.cell (bl w _ hw269_0)).trans hw269_0), ((HB.out.cell (bl w _ hw269_1)).trans hw269_1), ((HB.out.cell (bl w _ hw269_2)).trans hw269_2), ((HB.out.cell (bl w _ hw269_3)).trans hw269_3)⟩ (fun hHeld => ?_)
                         clear hK K
                         refine norm_ (a' := ?_) ?_ ?_
                         rotate_left
                         ·
                          show Act.put _ (some 120) _ = _
                          simp only [Act.put, List.setIfInBounds_toArray, List.set_cons_zero, List.set_cons_succ, i64_w, i32_w]
                          rfl
                         refine pure_ (i := 21) (N := some 122) (v := ?_) (a' := ?_) #[true, true, true, true, true, true, true, true, true, true, true, true, true, true, true, true, true, true, true, true, true, true, false, false, false, false, false, false, false, false, false, false, false, false, false, false, false, false, false, false, false, false, false, false, false, false, false, false, false, false, false, false, false, false, false, false, false, false, false, false, false, false, false, false, false, false, false, false, false, false, false] rfl rfl (any_of HT_.out (by kernel_rfl)) (fun _ _ _ h => h) (Or.inl ⟨by rfl, ?_⟩) ?_ ?_
                         rotate_left
                         ·
                          intro w'
                          go_simp
                          with_reducible rfl
                         rotate_left
                         ·
                          simp only [Act.put, List.setIfInBounds_toArray, List.set_cons_zero, List.set_cons_succ, i64_w, i32_w]
                          rfl
                         refine pure_ (i := 22) (N := some 123) (v := ?_) (a' := ?_) #[true, true, true, true, true, true, true, true, true, true, true, true, true, true, true, true, true, true, true, true, true, true, true, false, false, false, false, false, false, false, false, false, false, false, false, false, false, false, false, false, false, false, false, false, false, false, false, false, false, false, false, false, false, false, false, false, false, false, false, false, false, false, false, false, false, false, false, false, false, false, false] rfl rfl (any_of HT_.out (by kernel_rfl)) (fun _ _ _ h => h) (Or.inl ⟨by rfl, ?_⟩) ?_ ?_
                         rotate_left
                         ·
                          intro w'
                          go_simp
                          with_reducible rfl
                         rotate_left
                         ·
                          simp only [Act.put, List.setIfInBounds_toArray, List.set_cons_zero, List.set_cons_succ, i64_w, i32_w]
                          rfl
                         refine pure_ (i := 23) (N := some 124) (v := ?_) (a' := ?_) #[true, true, true, true, true, true, true, true, true, true, true, true, true, true, true, true, true, true, true, true, true, true, true, true, false, false, false, false, false, false, false, false, false, false, false, false, false, false, false, false, false, false, false, false, false, false, false, false, false, false, false, false, false, false, false, false, false, false, false, false, false, false, false, false, false, false, false, false, false, false, false] rfl rfl (any_of HT_.out (by kernel_rfl)) (fun _ _ _ h => h) (Or.inl ⟨by rfl, ?_⟩) ?_ ?_
                         rotate_left
                         ·
                          intro w'
                          go_simp
                          with_reducible rfl
                         rotate_left
                         ·
                          simp only [Act.put, List.setIfInBounds_toArray, List.set_cons_zero, List.set_cons_succ, i64_w, i32_w]
                          rfl
                         refine pure_ (i := 24) (N := some 125) (v := ?_) (a' := ?_) #[true, true, true, true, true, true, true, true, true, true, true, true, true, true, true, true, true, true, true, true, true, true, true, true, true, false, false, false, false, false, false, false, false, false, false, false, false, false, false, false, false, false, false, false, false, false, false, false, false, false, false, false, false, false, false, false, false, false, false, false, false, false, false, false, false, false, false, false, false, false, false] rfl rfl (any_of HT_.out (by kernel_rfl)) (fun _ _ _ h => h) (Or.inl ⟨by rfl, ?_⟩) ?_ ?_
                         rotate_left
                         ·
                          intro w'
                          go_simp
                          with_reducible rfl
                         rotate_left
                         ·
                          simp only [Act.put, List.setIfInBounds_toArray, List.set_cons_zero, List.set_cons_succ, i64_w, i32_w]
                          rfl
                         refine pure_ (i := 26) (N := some 127) (v := ?_) (a' := ?_) #[true, true, true, true, true, true, true, true, true, true, true, true, true, true, true, true, true, true, true, true, true, true, true, true, true, false, true, false, false, false, false, false, false, false, false, false, false, false, false, false, false, false, false, false, false, false, false, false, false, false, false, false, false, false, false, false, false, false, false, false, false, false, false, false, false, false, false, false, false, false, false] rfl rfl (any_of HT_.out (by kernel_rfl)) (fun _ _ _ h => h) (Or.inl ⟨by rfl, ?_⟩) ?_ ?_
                         rotate_left
                         ·
                          intro w'
                          go_simp
                          with_reducible rfl
                         rotate_left
                         ·
                          simp only [Act.put, List.setIfInBounds_toArray, List.set_cons_zero, List.set_cons_succ, i64_w, i32_w]
                          rfl
                         refine one_ (i := 25) (N := some 126) #[true, true, true, true, true, true, true, true, true, true, true, true, true, true, true, true, true, true, true, true, true, true, true, true, true, true, true, false, false, false, false, false, false, false, false, false, false, false, false, false, false, false, false, false, false, false, false, false, false, false, false, false, false, false, false, false, false, false, false, false, false, false, false, false, false, false, false, false, false, false, false] rfl rfl (one_of HT_.out (by kernel_rfl)) (by decide) (fun K hK => ?_)
                         refine goes_ Try.func12 (by kernel_rfl) rfl #[.int .i64 t242] (by rfl) rfl rfl (by (try simp only [List.map_toArray, List.map_cons, List.map_nil]); first | done | rfl | (simp only [List.length_drop, List.length_take]; rfl)) ?_
                         with_reducible refine (almagestlaw1_num.calls t242 t266 _ A64.out).mono ?_
                         rintro e w' ⟨rfl, ⟨nd, rfl⟩⟩
                         refine ⟨_, rfl, ?_⟩
                         refine hK.out _ _ ⟨(bc BK234.out 0).trans rfl, (bc BK234.out 1).trans rfl, (bc BK234.out 2).trans rfl, (bc BK234.out 3).trans rfl, (bc BK224.out 0).trans rfl, (bc BK224.out 1).trans rfl, ((HB.out.cell (bl w _ hw269_0)).trans hw269_0), ((HB.out.cell (bl w _ hw269_1)).trans hw269_1), ((HB.out.cell (bl w _ hw269_2)).trans hw269_2), ((HB.out.cell (bl w _ hw269_3)).trans hw269_3)⟩ (fun hHeld => ?_)
                         clear hK K
                         refine norm_ (a' := ?_) ?_ ?_
                         rotate_left
                         ·
                          show Act.put _ (some 126) _ = _
                          simp only [Act.put, List.setIfInBounds_toArray, List.set_cons_zero, List.set_cons_succ, i64_w, i32_w]
                          rfl
                         refine pure_ (i := 27) (N := some 128) (v := ?_) (a' := ?_) #[true, true, true, true, true, true, true, true, true, true, true, true, true, true, true, true, true, true, true, true, true, true, true, true, true, true, true, true, false, false, false, false, false, false, false, false, false, false, false, false, false, false, false, false, false, false, false, false, false, false, false, false, false, false, false, false, false, false, false, false, false, false, false, false, false, false, false, false, false, false, false] rfl rfl (any_of HT_.out (by kernel_rfl)) (fun _ _ _ h => h) (Or.inl ⟨by rfl, ?_⟩) ?_ ?_
                         rotate_left
                         ·
                          intro w'
                          go_simp
                          with_reducible rfl
                         rotate_left
                         ·
                          simp only [Act.put, List.setIfInBounds_toArray, List.set_cons_zero, List.set_cons_succ, i64_w, i32_w]
                          rfl
                         refine pure_ (i := 28) (N := some 129) (v := ?_) (a' := ?_) #[true, true, true, true, true, true, true, true, true, true, true, true, true, true, true, true, true, true, true, true, true, true, true, true, true, true, true, true, true, false, false, false, false, false, false, false, false, false, false, false, false, false, false, false, false, false, false, false, false, false, false, false, false, false, false, false, false, false, false, false, false, false, false, false, false, false, false, false, false, false, false] rfl rfl (any_of HT_.out (by kernel_rfl)) (fun _ _ _ h => h) (Or.inl ⟨by rfl, ?_⟩) ?_ ?_
                         rotate_left
                         ·
                          intro w'
                          go_simp
                          with_reducible rfl
                         rotate_left
                         ·
                          simp only [Act.put, List.setIfInBounds_toArray, List.set_cons_zero, List.set_cons_succ, i64_w, i32_w]
                          rfl
                         refine pure_ (i := 29) (N := some 130) (v := ?_) (a' := ?_) #[true, true, true, true, true, true, true, true, true, true, true, true, true, true, true, true, true, true, true, true, true, true, true, true, true, true, true, true, true, true, false, false, false, false, false, false, false, false, false, false, false, false, false, false, false, false, false, false, false, false, false, false, false, false, false, false, false, false, false, false, false, false, false, false, false, false, false, false, false, false, false] rfl rfl (any_of HT_.out (by kernel_rfl)) (fun _ _ _ h => h) (Or.inl ⟨by rfl, ?_⟩) ?_ ?_
                         rotate_left
                         ·
                          intro w'
                          go_simp
                          with_reducible rfl
                         rotate_left
                         ·
                          simp only [Act.put, List.setIfInBounds_toArray, List.set_cons_zero, List.set_cons_succ, i64_w, i32_w]
                          rfl
                         refine pure_ (i := 30) (N := some 131) (v := ?_) (a' := ?_) #[true, true, true, true, true, true, true, true, true, true, true, true, true, true, true, true, true, true, true, true, true, true, true, true, true, true, true, true, true, true, true, false, false, false, false, false, false, false, false, false, false, false, false, false, false, false, false, false, false, false, false, false, false, false, false, false, false, false, false, false, false, false, false, false, false, false, false, false, false, false, false] rfl rfl (any_of HT_.out (by kernel_rfl)) (fun _ _ _ h => h) (Or.inl ⟨by rfl, ?_⟩) ?_ ?_
                         rotate_left
                         ·
                          intro w'
                          go_simp
                          with_reducible rfl
                         rotate_left
                         ·
                          simp only [Act.put, List.setIfInBounds_toArray, List.set_cons_zero, List.set_cons_succ, i64_w, i32_w]
                          rfl
                         refine pure_ (i := 32) (N := some 133) (v := ?_) (a' := ?_) #[true, true, true, true, true, true, true, true, true, true, true, true, true, true, true, true, true, true, true, true, true, true, true, true, true, true, true, true, true, true, true, false, true, false, false, false, false, false, false, false, false, false, false, false, false, false, false, false, false, false, false, false, false, false, false, false, false, false, false, false, false, false, false, false, false, false, false, false, false, false, false] rfl rfl (any_of HT_.out (by kernel_rfl)) (fun _ _ _ h => h) (Or.inl ⟨by rfl, ?_⟩) ?_ ?_
                         rotate_left
                         ·
                          intro w'
                          go_simp
                          with_reducible rfl
                         rotate_left
                         ·
                          simp only [Act.put, List.setIfInBounds_toArray, List.set_cons_zero, List.set_cons_succ, i64_w, i32_w]
                          rfl
                         refine one_ (i := 31) (N := some 132) #[true, true, true, true, true, true, true, true, true, true, true, true, true, true, true, true, true, true, true, true, true, true, true, true, true, true, true, true, true, true, true, true, true, false, false, false, false, false, false, false, false, false, false, false, false, false, false, false, false, false, false, false, false, false, false, false, false, false, false, false, false, false, false, false, false, false, false, false, false, false, false] rfl rfl (one_of HT_.out (by kernel_rfl)) (by decide) (fun K hK => ?_)
                         refine goes_ Try.func12 (by kernel_rfl) rfl #[.int .i64 t246] (by rfl) rfl rfl (by (try simp only [List.map_toArray, List.map_cons, List.map_nil]); first | done | rfl | (simp only [List.length_drop, List.length_take]; rfl)) ?_
                         with_reducible refine (almagestlaw1_num.calls t246 t267 _ A66.out).mono ?_
                         rintro e w' ⟨rfl, ⟨nd, rfl⟩⟩
                         refine ⟨_, rfl, ?_⟩
                         obtain ⟨Ao81, co81, eo81⟩ := Kd.R_slice HO_13.out
                         (first | subst eo81 | (injection eo81 with f1_ f2_ f3_; have f4_ := f1_.symm; have f5_ := f3_.symm; clear f1_ f2_ f3_; subst f4_; subst f5_))
                         obtain ⟨Ao82, co82, eo82⟩ := Kd.R_slice HO_20.out
                         (first | subst eo82 | (injection eo82 with f1_ f2_ f3_; have f4_ := f1_.symm; have f5_ := f3_.symm; clear f1_ f2_ f3_; subst f4_; subst f5_))
                         refine hK.out _ _ ⟨(bc BK234.out 0).trans rfl, (bc BK234.out 1).trans rfl, (bc BK234.out 2).trans rfl, (bc BK234.out 3).trans rfl, (bc BK224.out 0).trans rfl, (bc BK224.out 1).trans rfl, ((HB.out.cell (bl w _ hw269_0)).trans hw269_0), ((HB.out.cell (bl w _ hw269_1)).trans hw269_1), ((HB.out.cell (bl w _ hw269_2)).trans hw269_2), ((HB.out.cell (bl w _ hw269_3)).trans hw269_3)⟩ (fun hHeld => ?_)
                         clear hK K
                         refine norm_ (a' := ?_) ?_ ?_
                         rotate_left
                         ·
                          show Act.put _ (some 132) _ = _
                          simp only [Act.put, List.setIfInBounds_toArray, List.set_cons_zero, List.set_cons_succ, i64_w, i32_w]
                          rfl
                         refine pure_ (i := 33) (N := some 134) (v := ?_) (a' := ?_) #[true, true, true, true, true, true, true, true, true, true, true, true, true, true, true, true, true, true, true, true, true, true, true, true, true, true, true, true, true, true, true, true, true, true, false, false, false, false, false, false, false, false, false, false, false, false, false, false, false, false, false, false, false, false, false, false, false, false, false, false, false, false, false, false, false, false, false, false, false, false, false] rfl rfl (any_of HT_.out (by kernel_rfl)) (fun _ _ _ h => h) (Or.inl ⟨by rfl, ?_⟩) ?_ ?_
                         rotate_left
                         ·
                          intro w'
                          go_simp
                          with_reducible rfl
                         rotate_left
                         ·
                          simp only [Act.put, List.setIfInBounds_toArray, List.set_cons_zero, List.set_cons_succ, i64_w, i32_w]
                          rfl
                         refine pure_ (i := 34) (N := some 135) (v := ?_) (a' := ?_) #[true, true, true, true, true, true, true, true, true, true, true, true, true, true, true, true, true, true, true, true, true, true, true, true, true, true, true, true, true, true, true, true, true, true, true, false, false, false, false, false, false, false, false, false, false, false, false, false, false, false, false, false, false, false, false, false, false, false, false, false, false, false, false, false, false, false, false, false, false, false, false] rfl rfl (any_of HT_.out (by kernel_rfl)) (fun _ _ _ h => h) (Or.inl ⟨by rfl, ?_⟩) ?_ ?_
                         rotate_left
                         ·
                          intro w'
                          go_simp
                          with_reducible rfl
                         rotate_left
                         ·
                          simp only [Act.put, List.setIfInBounds_toArray, List.set_cons_zero, List.set_cons_succ, i64_w, i32_w]
                          rfl
                         refine pure_ (i := 35) (N := some 136) (v := ?_) (a' := ?_) #[true, true, true, true, true, true, true, true, true, true, true, true, true, true, true, true, true, true, true, true, true, true, true, true, true, true, true, true, true, true, true, true, true, true, true, true, false, false, false, false, false, false, false, false, false, false, false, false, false, false, false, false, false, false, false, false, false, false, false, false, false, false, false, false, false, false, false, false, false, false, false] rfl rfl (any_of HT_.out (by kernel_rfl)) (fun _ _ _ h => h) (Or.inl ⟨by rfl, ?_⟩) ?_ ?_
                         rotate_left
                         ·
                          intro w'
                          go_simp
                          with_reducible rfl
                         rotate_left
                         ·
                          simp only [Act.put, List.setIfInBounds_toArray, List.set_cons_zero, List.set_cons_succ, i64_w, i32_w]
                          rfl
                         refine pure_ (i := 36) (N := some 137) (v := ?_) (a' := ?_) #[true, true, true, true, true, true, true, true, true, true, true, true, true, true, true, true, true, true, true, true, true, true, true, true, true, true, true, true, true, true, true, true, true, true, true, true, true, false, false, false, false, false, false, false, false, false, false, false, false, false, false, false, false, false, false, false, false, false, false, false, false, false, false, false, false, false, false, false, false, false, false] rfl rfl (any_of HT_.out (by kernel_rfl)) (fun _ _ _ h => h) (Or.inl ⟨by rfl, ?_⟩) ?_ ?_
                         rotate_left
                         ·
                          intro w'
                          go_simp
                          with_reducible rfl
                         rotate_left
                         ·
                          simp only [Act.put, List.setIfInBounds_toArray, List.set_cons_zero, List.set_cons_succ, i64_w, i32_w]
                          rfl
                         refine pure_ (i := 37) (N := some 138) (v := ?_) (a' := ?_) #[true, true, true, true, true, true, true, true, true, true, true, true, true, true, true, true, true, true, true, true, true, true, true, true, true, true, true, true, true, true, true, true, true, true, true, true, true, true, false, false, false, false, false, false, false, false, false, false, false, false, false, false, false, false, false, false, false, false, false, false, false, false, false, false, false, false, false, false, false, false, false] rfl rfl (any_of HT_.out (by kernel_rfl)) (fun _ _ _ h => h) (Or.inl ⟨by rfl, ?_⟩) ?_ ?_
                         rotate_left
                         ·
                          intro w'
                          go_simp
                          with_reducible rfl
                         rotate_left
                         ·
                          simp only [Act.put, List.setIfInBounds_toArray, List.set_cons_zero, List.set_cons_succ, i64_w, i32_w]
                          rfl
                         refine pure_ (i := 38) (N := some 139) (v := ?_) (a' := ?_) #[true, true, true, true, true, true, true, true, true, true, true, true, true, true, true, true, true, true, true, true, true, true, true, true, true, true, true, true, true, true, true, true, true, true, true, true, true, true, true, false, false, false, false, false, false, false, false, false, false, false, false, false, false, false, false, false, false, false, false, false, false, false, false, false, false, false, false, false, false, false, false] rfl rfl (any_of HT_.out (by kernel_rfl)) (fun _ _ _ h => h) (Or.inl ⟨by rfl, ?_⟩) ?_ ?_
                         rotate_left
                         ·
                          intro w'
                          go_simp
                          with_reducible rfl
                         rotate_left
                         ·
                          simp only [Act.put, List.setIfInBounds_toArray, List.set_cons_zero, List.set_cons_succ, i64_w, i32_w]
                          rfl
                         refine pure_ (i := 39) (N := some 140) (v := ?_) (a' := ?_) #[true, true, true, true, true, true, true, true, true, true, true, true, true, true, true, true, true, true, true, true, true, true, true, true, true, true, true, true, true, true, true, true, true, true, true, true, true, true, true, true, false, false, false, false, false, false, false, false, false, false, false, false, false, false, false, false, false, false, false, false, false, false, false, false, false, false, false, false, false, false, false] rfl rfl (any_of HT_.out (by kernel_rfl)) (fun _ _ _ h => h) (Or.inl ⟨by rfl, ?_⟩) ?_ ?_
                         rotate_left
                         ·
                          intro w'
                          go_simp
                          with_reducible rfl
                         rotate_left
                         ·
                          simp only [Act.put, List.setIfInBounds_toArray, List.set_cons_zero, List.set_cons_succ, i64_w, i32_w]
                          rfl
                         refine pure_ (i := 40) (N := some 141) (v := ?_) (a' := ?_) #[true, true, true, true, true, true, true, true, true, true, true, true, true, true, true, true, true, true, true, true, true, true, true, true, true, true, true, true, true, true, true, true, true, true, true, true, true, true, true, true, true, false, false, false, false, false, false, false, false, false, false, false, false, false, false, false, false, false, false, false, false, false, false, false, false, false, false, false, false, false, false] rfl rfl (any_of HT_.out (by kernel_rfl)) (fun _ _ _ h => h) (Or.inl ⟨by rfl, ?_⟩) ?_ ?_
                         rotate_left
                         ·
                          intro w'
                          go_simp
                          with_reducible rfl
                         rotate_left
                         ·
                          simp only [Act.put, List.setIfInBounds_toArray, List.set_cons_zero, List.set_cons_succ, i64_w, i32_w]
                          rfl
                         refine pure_ (i := 41) (N := some 142) (v := ?_) (a' := ?_) #[true, true, true, true, true, true, true, true, true, true, true, true, true, true, true, true, true, true, true, true, true, true, true, true, true, true, true, true, true, true, true, true, true, true, true, true, true, true, true, true, true, true, false, false, false, false, false, false, false, false, false, false, false, false, false, false, false, false, false, false, false, false, false, false, false, false, false, false, false, false, false] rfl rfl (any_of HT_.out (by kernel_rfl)) (fun _ _ _ h => h) (Or.inl ⟨by rfl, ?_⟩) ?_ ?_
                         rotate_left
                         ·
                          intro w'
                          go_simp
                          with_reducible rfl
                         rotate_left
                         ·
                          simp only [Act.put, List.setIfInBounds_toArray, List.set_cons_zero, List.set_cons_succ, i64_w, i32_w]
                          rfl
                         refine pure_ (i := 42) (N := some 143) (v := ?_) (a' := ?_) #[true, true, true, true, true, true, true, true, true, true, true, true, true, true, true, true, true, true, true, true, true, true, true, true, true, true, true, true, true, true, true, true, true, true, true, true, true, true, true, true, true, true, true, false, false, false, false, false, false, false, false, false, false, false, false, false, false, false, false, false, false, false, false, false, false, false, false, false, false, false, false] rfl rfl (any_of HT_.out (by kernel_rfl)) (fun _ _ _ h => h) (Or.inl ⟨by rfl, ?_⟩) ?_ ?_
                         rotate_left
                         ·
                          intro w'
                          go_simp
                          with_reducible rfl
                         rotate_left
                         ·
                          simp only [Act.put, List.setIfInBounds_toArray, List.set_cons_zero, List.set_cons_succ, i64_w, i32_w]
                          rfl
                         refine pure_ (i := 43) (N := some 144) (v := ?_) (a' := ?_) #[true, true, true, true, true, true, true, true, true, true, true, true, true, true, true, true, true, true, true, true, true, true, true, true, true, true, true, true, true, true, true, true, true, true, true, true, true, true, true, true, true, true, true, true, false, false, false, false, false, false, false, false, false, false, false, false, false, false, false, false, false, false, false, false, false, false, false, false, false, false, false] rfl rfl (any_of HT_.out (by kernel_rfl)) (fun _ _ _ h => h) (Or.inl ⟨by rfl, ?_⟩) ?_ ?_
                         rotate_left
                         ·
                          intro w'
                          go_simp
                          with_reducible rfl
                         rotate_left
                         ·
                          simp only [Act.put, List.setIfInBounds_toArray, List.set_cons_zero, List.set_cons_succ, i64_w, i32_w]
                          rfl
                         refine pure_ (i := 44) (N := some 145) (v := ?_) (a' := ?_) #[true, true, true, true, true, true, true, true, true, true, true, true, true, true, true, true, true, true, true, true, true, true, true, true, true, true, true, true, true, true, true, true, true, true, true, true, true, true, true, true, true, true, true, true, true, false, false, false, false, false, false, false, false, false, false, false, false, false, false, false, false, false, false, false, false, false, false, false, false, false, false] rfl rfl (any_of HT_.out (by kernel_rfl)) (fun _ _ _ h => h) (Or.inl ⟨by rfl, ?_⟩) ?_ ?_
                         rotate_left
                         ·
                          intro w'
                          go_simp
                          with_reducible rfl
                         rotate_left
                         ·
                          simp only [Act.put, List.setIfInBounds_toArray, List.set_cons_zero, List.set_cons_succ, i64_w, i32_w]
                          rfl
                         refine pure_ (i := 45) (N := some 146) (v := ?_) (a' := ?_) #[true, true, true, true, true, true, true, true, true, true, true, true, true, true, true, true, true, true, true, true, true, true, true, true, true, true, true, true, true, true, true, true, true, true, true, true, true, true, true, true, true, true, true, true, true, true, false, false, false, false, false, false, false, false, false, false, false, false, false, false, false, false, false, false, false, false, false, false, false, false, false] rfl rfl (any_of HT_.out (by kernel_rfl)) (fun _ _ _ h => h) (Or.inl ⟨by rfl, ?_⟩) ?_ ?_
                         rotate_left
                         ·
                          intro w'
                          go_simp
                          with_reducible rfl
                         rotate_left
                         ·
                          simp only [Act.put, List.setIfInBounds_toArray, List.set_cons_zero, List.set_cons_succ, i64_w, i32_w]
                          rfl
                         refine pure_ (i := 46) (N := some 147) (v := ?_) (a' := ?_) #[true, true, true, true, true, true, true, true, true, true, true, true, true, true, true, true, true, true, true, true, true, true, true, true, true, true, true, true, true, true, true, true, true, true, true, true, true, true, true, true, true, true, true, true, true, true, true, false, false, false, false, false, false, false, false, false, false, false, false, false, false, false, false, false, false, false, false, false, false, false, false] rfl rfl (any_of HT_.out (by kernel_rfl)) (fun _ _ _ h => h) (Or.inl ⟨by rfl, ?_⟩) ?_ ?_
                         rotate_left
                         ·
                          intro w'
                          go_simp
                          with_reducible rfl
                         rotate_left
                         ·
                          simp only [Act.put, List.setIfInBounds_toArray, List.set_cons_zero, List.set_cons_succ, i64_w, i32_w]
                          rfl
                         refine pure_ (i := 47) (N := some 148) (v := ?_) (a' := ?_) #[true, true, true, true, true, true, true, true, true, true, true, true, true, true, true, true, true, true, true, true, true, true, true, true, true, true, true, true, true, true, true, true, true, true, true, true, true, true, true, true, true, true, true, true, true, true, true, true, false, false, false, false, false, false, false, false, false, false, false, false, false, false, false, false, false, false, false, false, false, false, false] rfl rfl (any_of HT_.out (by kernel_rfl)) (fun _ _ _ h => h) (Or.inl ⟨by rfl, ?_⟩) ?_ ?_
                         rotate_left
                         ·
                          intro w'
                          go_simp
                          with_reducible rfl
                         rotate_left
                         ·
                          simp only [Act.put, List.setIfInBounds_toArray, List.set_cons_zero, List.set_cons_succ, i64_w, i32_w]
                          rfl
                         refine pure_ (i := 48) (N := some 149) (v := ?_) (a' := ?_) #[true, true, true, true, true, true, true, true, true, true, true, true, true, true, true, true, true, true, true, true, true, true, true, true, true, true, true, true, true, true, true, true, true, true, true, true, true, true, true, true, true, true, true, true, true, true, true, true, true, false, false, false, false, false, false, false, false, false, false, false, false, false, false, false, false, false, false, false, false, false, false] rfl rfl (any_of HT_.out (by kernel_rfl)) (fun _ _ _ h => h) (Or.inl ⟨by rfl, ?_⟩) ?_ ?_
                         rotate_left
                         ·
                          intro w'
                          go_simp
                          with_reducible rfl
                         rotate_left
                         ·
                          simp only [Act.put, List.setIfInBounds_toArray, List.set_cons_zero, List.set_cons_succ, i64_w, i32_w]
                          rfl
                         refine pure_ (i := 49) (N := some 150) (v := ?_) (a' := ?_) #[true, true, true, true, true, true, true, true, true, true, true, true, true, true, true, true, true, true, true, true, true, true, true, true, true, true, true, true, true, true, true, true, true, true, true, true, true, true, true, true, true, true, true, true, true, true, true, true, true, true, false, false, false, false, false, false, false, false, false, false, false, false, false, false, false, false, false, false, false, false, false] rfl rfl (any_of HT_.out (by kernel_rfl)) (fun _ _ _ h => h) (Or.inl ⟨by rfl, ?_⟩) ?_ ?_
                         rotate_left
                         ·
                          intro w'
                          go_simp
                          with_reducible rfl
                         rotate_left
                         ·
                          simp only [Act.put, List.setIfInBounds_toArray, List.set_cons_zero, List.set_cons_succ, i64_w, i32_w]
                          rfl
                         refine pure_ (i := 50) (N := some 151) (v := ?_) (a' := ?_) #[true, true, true, true, true, true, true, true, true, true, true, true, true, true, true, true, true, true, true, true, true, true, true, true, true, true, true, true, true, true, true, true, true, true, true, true, true, true, true, true, true, true, true, true, true, true, true, true, true, true, true, false, false, false, false, false, false, false, false, false, false, false, false, false, false, false, false, false, false, false, false] rfl rfl (any_of HT_.out (by kernel_rfl)) (fun _ _ _ h => h) (Or.inl ⟨by rfl, ?_⟩) ?_ ?_
                         rotate_left
                         ·
                          intro w'
                          go_simp
                          with_reducible rfl
                         rotate_left
                         ·
                          simp only [Act.put, List.setIfInBounds_toArray, List.set_cons_zero, List.set_cons_succ, i64_w, i32_w]
                          rfl
                         refine pure_ (i := 51) (N := some 152) (v := ?_) (a' := ?_) #[true, true, true, true, true, true, true, true, true, true, true, true, true, true, true, true, true, true, true, true, true, true, true, true, true, true, true, true, true, true, true, true, true, true, true, true, true, true, true, true, true, true, true, true, true, true, true, true, true, true, true, true, false, false, false, false, false, false, false, false, false, false, false, false, false, false, false, false, false, false, false] rfl rfl (any_of HT_.out (by kernel_rfl)) (fun _ _ _ h => h) (Or.inl ⟨by rfl, ?_⟩) ?_ ?_
                         rotate_left
                         ·
                          intro w'
                          go_simp
                          with_reducible rfl
                         rotate_left
                         ·
                          simp only [Act.put, List.setIfInBounds_toArray, List.set_cons_zero, List.set_cons_succ, i64_w, i32_w]
                          rfl
                         refine pure_ (i := 52) (N := some 153) (v := ?_) (a' := ?_) #[true, true, true, true, true, true, true, true, true, true, true, true, true, true, true, true, true, true, true, true, true, true, true, true, true, true, true, true, true, true, true, true, true, true, true, true, true, true, true, true, true, true, true, true, true, true, true, true, true, true, true, true, true, false, false, false, false, false, false, false, false, false, false, false, false, false, false, false, false, false, false] rfl rfl (any_of HT_.out (by kernel_rfl)) (fun _ _ _ h => h) (Or.inl ⟨by rfl, ?_⟩) ?_ ?_
                         rotate_left
                         ·
                          intro w'
                          go_simp
                          with_reducible rfl
                         rotate_left
                         ·
                          simp only [Act.put, List.setIfInBounds_toArray, List.set_cons_zero, List.set_cons_succ, i64_w, i32_w]
                          rfl
                         refine pure_ (i := 53) (N := some 154) (v := ?_) (a' := ?_) #[true, true, true, true, true, true, true, true, true, true, true, true, true, true, true, true, true, true, true, true, true, true, true, true, true, true, true, true, true, true, true, true, true, true, true, true, true, true, true, true, true, true, true, true, true, true, true, true, true, true, true, true, true, true, false, false, false, false, false, false, false, false, false, false, false, false, false, false, false, false, false] rfl rfl (any_of HT_.out (by kernel_rfl)) (fun _ _ _ h => h) (Or.inl ⟨by rfl, ?_⟩) ?_ ?_
                         rotate_left
                         ·
                          intro w'
                          go_simp
                          with_reducible rfl
                         rotate_left
                         ·
                          simp only [Act.put, List.setIfInBounds_toArray, List.set_cons_zero, List.set_cons_succ, i64_w, i32_w]
                          rfl
                         refine pure_ (i := 54) (N := some 155) (v := ?_) (a' := ?_) #[true, true, true, true, true, true, true, true, true, true, true, true, true, true, true, true, true, true, true, true, true, true, true, true, true, true, true, true, true, true, true, true, true, true, true, true, true, true, true, true, true, true, true, true, true, true, true, true, true, true, true, true, true, true, true, false, false, false, false, false, false, false, false, false, false, false, false, false, false, false, false] rfl rfl (any_of HT_.out (by kernel_rfl)) (fun _ _ _ h => h) (Or.inl ⟨by rfl, ?_⟩) ?_ ?_
                         rotate_left
                         ·
                          intro w'
                          go_simp
                          with_reducible rfl
                         rotate_left
                         ·
                          simp only [Act.put, List.setIfInBounds_toArray, List.set_cons_zero, List.set_cons_succ, i64_w, i32_w]
                          rfl
                         refine pure_ (i := 55) (N := some 156) (v := ?_) (a' := ?_) #[true, true, true, true, true, true, true, true, true, true, true, true, true, true, true, true, true, true, true, true, true, true, true, true, true, true, true, true, true, true, true, true, true, true, true, true, true, true, true, true, true, true, true, true, true, true, true, true, true, true, true, true, true, true, true, true, false, false, false, false, false, false, false, false, false, false, false, false, false, false, false] rfl rfl (any_of HT_.out (by kernel_rfl)) (fun _ _ _ h => h) (Or.inl ⟨by rfl, ?_⟩) ?_ ?_
                         rotate_left
                         ·
                          intro w'
                          go_simp
                          with_reducible rfl
                         rotate_left
                         ·
                          simp only [Act.put, List.setIfInBounds_toArray, List.set_cons_zero, List.set_cons_succ, i64_w, i32_w]
                          rfl
                         refine pure_ (i := 56) (N := some 157) (v := ?_) (a' := ?_) #[true, true, true, true, true, true, true, true, true, true, true, true, true, true, true, true, true, true, true, true, true, true, true, true, true, true, true, true, true, true, true, true, true, true, true, true, true, true, true, true, true, true, true, true, true, true, true, true, true, true, true, true, true, true, true, true, true, false, false, false, false, false, false, false, false, false, false, false, false, false, false] rfl rfl (any_of HT_.out (by kernel_rfl)) (fun _ _ _ h => h) (Or.inl ⟨by rfl, ?_⟩) ?_ ?_
                         rotate_left
                         ·
                          intro w'
                          go_simp
                          with_reducible rfl
                         rotate_left
                         ·
                          simp only [Act.put, List.setIfInBounds_toArray, List.set_cons_zero, List.set_cons_succ, i64_w, i32_w]
                          rfl
                         refine pure_ (i := 57) (N := some 158) (v := ?_) (a' := ?_) #[true, true, true, true, true, true, true, true, true, true, true, true, true, true, true, true, true, true, true, true, true, true, true, true, true, true, true, true, true, true, true, true, true, true, true, true, true, true, true, true, true, true, true, true, true, true, true, true, true, true, true, true, true, true, true, true, true, true, false, false, false, false, false, false, false, false, false, false, false, false, false] rfl rfl (any_of HT_.out (by kernel_rfl)) (fun _ _ _ h => h) (Or.inl ⟨by rfl, ?_⟩) ?_ ?_
                         rotate_left
                         ·
                          intro w'
                          go_simp
                          with_reducible rfl
                         rotate_left
                         ·
                          simp only [Act.put, List.setIfInBounds_toArray, List.set_cons_zero, List.set_cons_succ, i64_w, i32_w]
                          rfl
                         refine one_ (i := 58) (N := some 159) #[true, true, true, true, true, true, true, true, true, true, true, true, true, true, true, true, true, true, true, true, true, true, true, true, true, true, true, true, true, true, true, true, true, true, true, true, true, true, true, true, true, true, true, true, true, true, true, true, true, true, true, true, true, true, true, true, true, true, true, false, false, false, false, false, false, false, false, false, false, false, false] rfl rfl (one_of HT_.out (by kernel_rfl)) (by decide) (fun K hK => ?_)
                         refine goes_ Try.func29 (by kernel_rfl) rfl #[.slice Ao81 t243.length co81, .slice Ao82 x20_23.length co82] (by rfl) rfl rfl (by (try simp only [List.map_toArray, List.map_cons, List.map_nil]); first | done | rfl | (simp only [List.length_drop, List.length_take]; rfl)) ?_
                         with_reducible refine (almagestref0_EqStrings.calls kj23 _ _ t243 _ _ x20_23 true _ ?side1 ?side2 ?side3 ?side4 A72.out).mono ?_
                         (case side1 => repeat (first | exact (Kd.R_reads' HO_13.out).2.2 | (with_reducible refine Kd.C_alloc ?_ _) | (with_reducible refine Kd.C_drewN ?_ _) | (with_reducible refine Kd.C_drew ?_)))
                         (case side2 => exact (Kd.R_reads' HO_13.out).2.1)
                         (case side3 => repeat (first | exact (Kd.R_reads' HO_20.out).2.2 | (with_reducible refine Kd.C_alloc ?_ _) | (with_reducible refine Kd.C_drewN ?_ _) | (with_reducible refine Kd.C_drew ?_)))
                         (case side4 => exact (Kd.R_reads' HO_20.out).2.1)
                         rintro e w' ⟨rfl, ⟨nd, rfl⟩⟩
                         refine ⟨_, rfl, ?_⟩
                         refine hK.out _ _ ⟨(bc BK234.out 0).trans rfl, (bc BK234.out 1).trans rfl, (bc BK234.out 2).trans rfl, (bc BK234.out 3).trans rfl, (bc BK224.out 0).trans rfl, (bc BK224.out 1).trans rfl, ((HB.out.cell (bl w _ hw269_0)).trans hw269_0), ((HB.out.cell (bl w _ hw269_1)).trans hw269_1), ((HB.out.cell (bl w _ hw269_2)).trans hw269_2), ((HB.out.cell (bl w _ hw269_3)).trans hw269_3)⟩ (fun hHeld => ?_)
                         clear hK K
                         refine norm_ (a' := ?_) ?_ ?_
                         rotate_left
                         ·
                          show Act.put _ (some 159) _ = _
                          simp only [Act.put, List.setIfInBounds_toArray, List.set_cons_zero, List.set_cons_succ, i64_w, i32_w]
                          rfl
                         refine pure_ (i := 59) (N := some 160) (v := ?_) (a' := ?_) #[true, true, true, true, true, true, true, true, true, true, true, true, true, true, true, true, true, true, true, true, true, true, true, true, true, true, true, true, true, true, true, true, true, true, true, true, true, true, true, true, true, true, true, true, true, true, true, true, true, true, true, true, true, true, true, true, true, true, true, true, false, false, false, false, false, false, false, false, false, false, false] rfl rfl (any_of HT_.out (by kernel_rfl)) (fun _ _ _ h => h) (Or.inl ⟨by rfl, ?_⟩) ?_ ?_
                         rotate_left
                         ·
                          intro w'
                          go_simp
                          with_reducible rfl
                         rotate_left
                         ·
                          simp only [Act.put, List.setIfInBounds_toArray, List.set_cons_zero, List.set_cons_succ, i64_w, i32_w]
                          rfl
                         refine pure_ (i := 60) (N := some 161) (v := ?_) (a' := ?_) #[true, true, true, true, true, true, true, true, true, true, true, true, true, true, true, true, true, true, true, true, true, true, true, true, true, true, true, true, true, true, true, true, true, true, true, true, true, true, true, true, true, true, true, true, true, true, true, true, true, true, true, true, true, true, true, true, true, true, true, true, true, false, false, false, false, false, false, false, false, false, false] rfl rfl (any_of HT_.out (by kernel_rfl)) (fun _ _ _ h => h) (Or.inl ⟨by rfl, ?_⟩) ?_ ?_
                         rotate_left
                         ·
                          intro w'
                          go_simp
                          with_reducible rfl
                         rotate_left
                         ·
                          simp only [Act.put, List.setIfInBounds_toArray, List.set_cons_zero, List.set_cons_succ, i64_w, i32_w]
                          rfl
                         refine pure_ (i := 61) (N := some 162) (v := ?_) (a' := ?_) #[true, true, true, true, true, true, true, true, true, true, true, true, true, true, true, true, true, true, true, true, true, true, true, true, true, true, true, true, true, true, true, true, true, true, true, true, true, true, true, true, true, true, true, true, true, true, true, true, true, true, true, true, true, true, true, true, true, true, true, true, true, true, false, false, false, false, false, false, false, false, false] rfl rfl (any_of HT_.out (by kernel_rfl)) (fun _ _ _ h => h) (Or.inl ⟨by rfl, ?_⟩) ?_ ?_
                         rotate_left
                         ·
                          intro w'
                          go_simp
                          with_reducible rfl
                         rotate_left
                         ·
                          simp only [Act.put, List.setIfInBounds_toArray, List.set_cons_zero, List.set_cons_succ, i64_w, i32_w]
                          rfl
                         refine pure_ (i := 63) (N := some 164) (v := ?_) (a' := ?_) #[true, true, true, true, true, true, true, true, true, true, true, true, true, true, true, true, true, true, true, true, true, true, true, true, true, true, true, true, true, true, true, true, true, true, true, true, true, true, true, true, true, true, true, true, true, true, true, true, true, true, true, true, true, true, true, true, true, true, true, true, true, true, false, true, false, false, false, false, false, false, false] rfl rfl (any_of HT_.out (by kernel_rfl)) (fun _ _ _ h => h) (Or.inl ⟨by rfl, ?_⟩) ?_ ?_
                         rotate_left
                         ·
                          intro w'
                          go_simp
                          with_reducible rfl
                         rotate_left
                         ·
                          simp only [Act.put, List.setIfInBounds_toArray, List.set_cons_zero, List.set_cons_succ, i64_w, i32_w]
                          rfl
                         refine pure_ (i := 65) (N := some 166) (v := ?_) (a' := ?_) #[true, true, true, true, true, true, true, true, true, true, true, true, true, true, true, true, true, true, true, true, true, true, true, true, true, true, true, true, true, true, true, true, true, true, true, true, true, true, true, true, true, true, true, true, true, true, true, true, true, true, true, true, true, true, true, true, true, true, true, true, true, true, false, true, false, true, false, false, false, false, false] rfl rfl (any_of HT_.out (by kernel_rfl)) (fun _ _ _ h => h) (Or.inl ⟨by rfl, ?_⟩) ?_ ?_
                         rotate_left
                         ·
                          intro w'
                          go_simp
                          with_reducible rfl
                         rotate_left
                         ·
                          simp only [Act.put, List.setIfInBounds_toArray, List.set_cons_zero, List.set_cons_succ, i64_w, i32_w]
                          rfl
                         refine take_ (i := 62) (N := some 163) (v := ?_) (a' := ?_) #[true, true, true, true, true, true, true, true, true, true, true, true, true, true, true, true, true, true, true, true, true, true, true, true, true, true, true, true, true, true, true, true, true, true, true, true, true, true, true, true, true, true, true, true, true, true, true, true, true, true, true, true, true, true, true, true, true, true, true, true, true, true, true, true, false, true, false, false, false, false, false] rfl rfl (take_ofW HT_.out HW_.out (by kernel_rfl)) (fun _ _ _ h => h) (Or.inl ⟨by rfl, ?_⟩) hHeld ?_ ?_
                         rotate_left
                         ·
                          rintro w' ⟨s0, s1, s2, s3, s4, s5, s6, s7, s8, s9⟩
                          go_simp
                          with_reducible rfl
                         rotate_left
                         ·
                          simp only [Act.put, List.setIfInBounds_toArray, List.set_cons_zero, List.set_cons_succ, i64_w, i32_w]
                          rfl
                         refine take_ (i := 64) (N := some 165) (v := ?_) (a' := ?_) #[true, true, true, true, true, true, true, true, true, true, true, true, true, true, true, true, true, true, true, true, true, true, true, true, true, true, true, true, true, true, true, true, true, true, true, true, true, true, true, true, true, true, true, true, true, true, true, true, true, true, true, true, true, true, true, true, true, true, true, true, true, true, true, true, true, true, false, false, false, false, false] rfl rfl (take_ofW HT_.out HW_.out (by kernel_rfl)) (fun _ _ _ h => h) (Or.inl ⟨by rfl, ?_⟩) hHeld ?_ ?_
                         rotate_left
                         ·
                          rintro w' ⟨s0, s1, s2, s3, s4, s5, s6, s7, s8, s9⟩
                          go_simp
                          with_reducible rfl
                         rotate_left
                         ·
                          simp only [Act.put, List.setIfInBounds_toArray, List.set_cons_zero, List.set_cons_succ, i64_w, i32_w]
                          rfl
                         refine pure_ (i := 66) (N := some 167) (v := ?_) (a' := ?_) #[true, true, true, true, true, true, true, true, true, true, true, true, true, true, true, true, true, true, true, true, true, true, true, true, true, true, true, true, true, true, true, true, true, true, true, true, true, true, true, true, true, true, true, true, true, true, true, true, true, true, true, true, true, true, true, true, true, true, true, true, true, true, true, true, true, true, true, false, false, false, false] rfl rfl (any_of HT_.out (by kernel_rfl)) (fun _ _ _ h => h) (Or.inl ⟨by rfl, ?_⟩) ?_ ?_
                         rotate_left
                         ·
                          intro w'
                          go_simp
                          with_reducible rfl
                         rotate_left
                         ·
                          simp only [Act.put, List.setIfInBounds_toArray, List.set_cons_zero, List.set_cons_succ, i64_w, i32_w]
                          rfl
                         refine take_ (i := 67) (N := some 168) (v := ?_) (a' := ?_) #[true, true, true, true, true, true, true, true, true, true, true, true, true, true, true, true, true, true, true, true, true, true, true, true, true, true, true, true, true, true, true, true, true, true, true, true, true, true, true, true, true, true, true, true, true, true, true, true, true, true, true, true, true, true, true, true, true, true, true, true, true, true, true, true, true, true, true, true, false, false, false] rfl rfl (take_ofW HT_.out HW_.out (by kernel_rfl)) (fun _ _ _ h => h) (Or.inl ⟨by rfl, ?_⟩) hHeld ?_ ?_
                         rotate_left
                         ·
                          rintro w' ⟨s0, s1, s2, s3, s4, s5, s6, s7, s8, s9⟩
                          go_simp
                          with_reducible rfl
                         rotate_left
                         ·
                          simp only [Act.put, List.setIfInBounds_toArray, List.set_cons_zero, List.set_cons_succ, i64_w, i32_w]
                          rfl
                         refine one_ (i := 68) (N := some 169) #[true, true, true, true, true, true, true, true, true, true, true, true, true, true, true, true, true, true, true, true, true, true, true, true, true, true, true, true, true, true, true, true, true, true, true, true, true, true, true, true, true, true, true, true, true, true, true, true, true, true, true, true, true, true, true, true, true, true, true, true, true, true, true, true, true, true, true, true, true, false, false] rfl rfl (one_of HT_.out (by kernel_rfl)) (by decide) (fun K hK => ?_)
                         refine goes_ Try.func15 (by kernel_rfl) rfl #[.agg #[.int .i64 t228, .string t229, .int .i64 t230, .slice Ao30 t231.length co30], .agg #[.int .i64 ((rd_T31 l0_0 x3_1).f0), .string ((rd_T31 l0_0 x3_1).f1), .int .i64 ((rd_T31 l0_0 x3_1).f2), .slice A269_3 ((rd_T31 l0_0 x3_1).f3).length c269_3]] (by rfl) rfl rfl (by (try simp only [List.map_toArray, List.map_cons, List.map_nil]); first | done | rfl | (simp only [List.length_drop, List.length_take]; rfl)) ?_
                         with_reducible refine (almagestref0_EqTerm.calls kj23 t228 t229 t230 _ _ t231 ((rd_T31 l0_0 x3_1).f0) ((rd_T31 l0_0 x3_1).f1) ((rd_T31 l0_0 x3_1).f2) _ _ ((rd_T31 l0_0 x3_1).f3) true _ ?side1 ?side2 ?side3 ?side4 A76.out).mono ?_
                         (case side1 => repeat (first | exact (Kd.R_reads' HO_235003.out).2.2 | (with_reducible refine Kd.C_alloc ?_ _) | (with_reducible refine Kd.C_drewN ?_ _) | (with_reducible refine Kd.C_drew ?_)))
                         (case side2 => exact (Kd.R_reads' HO_235003.out).2.1)
                         (case side3 => repeat (first | exact (Kd.C_below HR269_3.out (by repeat (first | (with_reducible first | exact HB.out | apply pA | apply pN | apply pD | refine below_set ?_ GE224.out | refine below_set ?_ GE234.out) | exact HB.out))) | (with_reducible refine Kd.C_alloc ?_ _) | (with_reducible refine Kd.C_drewN ?_ _) | (with_reducible refine Kd.C_drew ?_)))
                         (case side4 => exact HC269_3.out)
                         rintro e w83 ⟨rfl, hb⟩
                         refine ⟨_, rfl, ?_⟩
                         have n0_ := Aside0.mk (Kd.R_below (by (with_reducible repeat (first | apply Kd.R_alloc | apply Kd.R_drewN | apply Kd.R_drew)); exact HO_13.out) hb)
                         have n1_ := Aside0.mk (Kd.R_below (by (with_reducible repeat (first | apply Kd.R_alloc | apply Kd.R_drewN | apply Kd.R_drew)); exact HO_20.out) hb)
                         have n2_ := Aside0.mk (Kd.R_below (by (with_reducible repeat (first | apply Kd.R_alloc | apply Kd.R_drewN | apply Kd.R_drew)); exact HO_235003.out) hb)
                         have n3_ := Aside0.mk (blk_below (g := gb224) (o := .cells #[.slice (some ad227) l0_0.length c0_0, .slice A0_1 l0_1.length c0_1] 25 (0, 0)) (by (with_reducible repeat (first | refine bN ?_ _ | refine bD ?_ | refine bA ?_ _)); exact BK224.out) hb)
                         have n4_ := Aside0.mk (blk_below (g := gb234) (o := .cells #[.int .i64 t228, .string t229, .int .i64 t230, .slice Ao30 t231.length co30] 31 (0, 0)) (by (with_reducible repeat (first | refine bN ?_ _ | refine bD ?_ | refine bA ?_ _)); exact BK234.out) hb)
                         have n5_ := Aside0.mk (below_step (by repeat (first | (with_reducible first | exact HB.out | apply pA | apply pN | apply pD | refine below_set ?_ GE224.out | refine below_set ?_ GE234.out) | exact HB.out)) hb)
                         clear HO_13
                         clear HO_20
                         clear HO_235003
                         clear BK224
                         clear BK234
                         clear HB
                         have HO_13 := n0_
                         have HO_20 := n1_
                         have HO_235003 := n2_
                         have BK224 := n3_
                         have BK234 := n4_
                         have HB := n5_
                         clear n0_ n1_ n2_ n3_ n4_ n5_
                         (try clear hb)
                         (try clear hb2)
                         (try clear hk)
                         (try clear hi)
                         refine hK.out _ _ ⟨(bc BK234.out 0).trans rfl, (bc BK234.out 1).trans rfl, (bc BK234.out 2).trans rfl, (bc BK234.out 3).trans rfl, (bc BK224.out 0).trans rfl, (bc BK224.out 1).trans rfl, ((HB.out.cell (bl w _ hw269_0)).trans hw269_0), ((HB.out.cell (bl w _ hw269_1)).trans hw269_1), ((HB.out.cell (bl w _ hw269_2)).trans hw269_2), ((HB.out.cell (bl w _ hw269_3)).trans hw269_3)⟩ (fun hHeld => ?_)
                         clear hK K
                         refine norm_ (a' := ?_) ?_ ?_
                         rotate_left
                         ·
                          show Act.put _ (some 169) _ = _
                          simp only [Act.put, List.setIfInBounds_toArray, List.set_cons_zero, List.set_cons_succ, i64_w, i32_w]
                          rfl
                         refine pure_ (i := 69) (N := some 170) (v := ?_) (a' := ?_) #[true, true, true, true, true, true, true, true, true, true, true, true, true, true, true, true, true, true, true, true, true, true, true, true, true, true, true, true, true, true, true, true, true, true, true, true, true, true, true, true, true, true, true, true, true, true, true, true, true, true, true, true, true, true, true, true, true, true, true, true, true, true, true, true, true, true, true, true, true, true, false] rfl rfl (any_of HT_.out (by kernel_rfl)) (fun _ _ _ h => h) (Or.inl ⟨by rfl, ?_⟩) ?_ ?_
                         rotate_left
                         ·
                          intro w'
                          go_simp
                          with_reducible rfl
                         rotate_left
                         ·
                          simp only [Act.put, List.setIfInBounds_toArray, List.set_cons_zero, List.set_cons_succ, i64_w, i32_w]
                          rfl
                         refine pure_ (i := 70) (N := some 171) (v := ?_) (a' := ?_) #[true, true, true, true, true, true, true, true, true, true, true, true, true, true, true, true, true, true, true, true, true, true, true, true, true, true, true, true, true, true, true, true, true, true, true, true, true, true, true, true, true, true, true, true, true, true, true, true, true, true, true, true, true, true, true, true, true, true, true, true, true, true, true, true, true, true, true, true, true, true, true] rfl rfl (any_of HT_.out (by kernel_rfl)) (fun _ _ _ h => h) (Or.inl ⟨by rfl, ?_⟩) ?_ ?_
                         rotate_left
                         ·
                          intro w'
                          go_simp
                          with_reducible rfl
                         rotate_left
                         ·
                          simp only [Act.put, List.setIfInBounds_toArray, List.set_cons_zero, List.set_cons_succ, i64_w, i32_w]
                          rfl
                         refine done_ (done_of HT_.out (by kernel_rfl)) ?_
                         try go_wp2_with (first | ((with_reducible refine gc (f := 30) rfl ?_); refine goesL_ (some 173) rfl rfl Try.func30 (by kernel_rfl) rfl #[.slice Ao81 t243.length co81] rfl (by (try simp only [List.map_toArray, List.map_cons, List.map_nil]); first | done | rfl | (simp only [List.length_drop, List.length_take]; rfl)) ?_; (with_reducible refine (almagestlaw0_Strings.calls kj23 (fun k_ => some k_ = (.slice Ao81 t243.length co81 : Value).ownBlock) (.slice Ao81 t243.length co81) t243 t271 w _ ?side1 ?side2 A78.out).mono ?_); (case side1 => repeat (first | (with_reducible first | exact HB.out | apply pA | apply pN | apply pD | refine below_set ?_ GE224.out | refine below_set ?_ GE234.out) | exact HB.out)); (case side2 => exact Kd.R_tight rfl HO_13.out); rintro e w84 ⟨rfl, hy0, hb, hkp⟩; refine ⟨_, rfl, ?_⟩; have n0_ := Aside0.mk (Kd.R_reok rfl hy0 (fun k_ e_ => HO_13.out.1 k_ e_)); have n1_ := Aside0.mk (Kd.R_mono (ok' := fun k_ => some k_ ≠ (.slice Ao81 t243.length co81 : Value).ownBlock) (Kd.R_keptB (HO_20.out) hkp (fun k_ hk_ hs_ => (hk_) hs_)) (fun k_ hk_ => hk_.1)); have n2_ := Aside0.mk (Kd.R_mono (ok' := fun k_ => k_ ≠ gb234) (Kd.R_keptB ((Kd.R_apart' HO_235003.out (Kd.R_typed HO_13.out) (by decide))) hkp (fun k_ hk_ hs_ => (hk_.2) hs_)) (fun k_ hk_ => hk_.1.1)); have n3_ := Aside0.mk (blk_kept (by (with_reducible repeat (first | refine bN ?_ _ | refine bD ?_ | refine bA ?_ _)); exact BK224.out) hkp (fun hs_ => (fun e_ => (Kd.R_ne HO_13.out BK224.out (by decide)) e_) hs_)); have n4_ := Aside0.mk (blk_kept (by (with_reducible repeat (first | refine bN ?_ _ | refine bD ?_ | refine bA ?_ _)); exact BK234.out) hkp (fun hs_ => (fun e_ => (Kd.R_ne HO_13.out BK234.out (by decide)) e_) hs_)); have n5_ := Aside0.mk (hb); clear HO_13; clear HO_20; clear HO_235003; clear BK224; clear BK234; clear HB; have HO_13 := n0_; have HO_20 := n1_; have HO_235003 := n2_; have BK224 := n3_; have BK234 := n4_; have HB := n5_; clear n0_ n1_ n2_ n3_ n4_ n5_; (try clear hb); (try clear hkp); (try clear hy0)))
                         go_roundg kj23
                         case measure => have := HK1.out; have := HJ9.out; have := HJ23.out; omega
                         case rel => exact ⟨(wrap64 (x3_1 + 1)), (by first | rfl | (simp; done) | (simp [*]; done)), H', ⟨by have := HK1.out; have := HJ9.out; have := HJ23.out; omega⟩, ⟨by (with_reducible repeat (first | refine bN ?_ _ | refine bD ?_ | refine bA ?_ _)); exact BK224.out⟩, ⟨by repeat (first | (with_reducible first | exact HB.out | apply pA | apply pN | apply pD | refine below_set ?_ GE224.out | refine below_set ?_ GE234.out) | exact HB.out)⟩⟩
                        ·
                         replace c77 := Bool.eq_false_iff.mpr c77
                         subst c77
                         have H1 : (none) = some r := by rw [if_neg (show ¬ (false = true) by decide)] at H; exact H
                         clear H
                         have H := H1
                         clear H1
                         exact absurd H (by simp)
                       ·
                        rw [if_neg c75] at H
                        exact absurd H (by simp)
                      ·
                       rw [if_neg c74] at H
                       exact absurd H (by simp)
                     ·
                      replace c73 := Bool.eq_false_iff.mpr c73
                      subst c73
                      have H1 : (none) = some r := by rw [if_neg (show ¬ (false = true) by decide)] at H; exact H
                      clear H
                      have H := H1
                      clear H1
                      exact absurd H (by simp)
                  ·
                   rw [if_neg c69] at H
                   exact absurd H (by simp)
                 ·
                  rw [if_neg c68] at H
                  exact absurd H (by simp)
                ·
                 rw [if_neg c67] at H
                 exact absurd H (by simp)
               ·
                rw [if_neg c65] at H
                exact absurd H (by simp)
              ·
               rw [if_neg c63] at H
               exact absurd H (by simp)
             ·
              rw [if_neg c61] at H
              exact absurd H (by simp)
            ·
             rw [if_neg c59] at H
             exact absurd H (by simp)
           ·
            rw [if_neg c57] at H
            exact absurd H (by simp)
        ·
         rw [if_neg c16] at H
         exact absurd H (by simp)
       ·
        rw [if_neg c15] at H
        exact absurd H (by simp)
      ·
       replace c14 := Bool.eq_false_iff.mpr c14
       subst c14
       have H1 : ((almagestlaw1_wakes.f kj9).bind fun t226 => (some t226)) = some r := by rw [if_neg (show ¬ (false = true) by decide)] at H; exact H
       clear H
       have H := H1
       clear H1
       replace H := Option.bind_eq_some_iff.mp H
       obtain ⟨t226, A850, H⟩ := H
       replace H : (some t226) = some r := H
       have A85 := Aside0.mk A850
       clear A850
       obtain rfl := Option.some.inj H
       go_wp2_with (first | ((with_reducible refine gc (f := 16) rfl ?_); refine goesL_ (some 174) rfl rfl Try.func16 (by kernel_rfl) rfl #[] rfl (by (try simp only [List.map_toArray, List.map_cons, List.map_nil]); first | done | rfl | (simp only [List.length_drop, List.length_take]; rfl)) ?_; (with_reducible refine (almagestlaw1_wakes.calls kj9  t226 _ A85.out).mono ?_); rintro e w86 ⟨rfl, hb⟩; refine ⟨_, rfl, ?_⟩; have n0_ := Aside0.mk (blk_below (g := gb224) (o := .cells #[.slice A0_0 l0_0.length c0_0, .slice A0_1 l0_1.length c0_1] 25 (0, 0)) (by (with_reducible repeat (first | refine bN ?_ _ | refine bD ?_ | refine bA ?_ _)); exact BK224.out) hb); have n1_ := Aside0.mk (below_step (by repeat (first | (with_reducible first | exact HB.out | apply pA | apply pN | apply pD | refine below_set ?_ GE224.out) | exact HB.out)) hb); clear BK224; clear HB; have BK224 := n0_; have HB := n1_; clear n0_ n1_; (try clear hb); (try clear hb2); (try clear hk); (try clear hi)))
       go_ret
       exact ⟨by first | rfl | (simp [errW_none, errW_some] <;> rfl) | (simp [*, errW_none, errW_some] <;> rfl), by repeat (first | (with_reducible first | exact HB.out | apply pA | apply pN | apply pD | refine below_set ?_ GE224.out) | exact HB.out)⟩

end Go.Proofs.Ythaoooohomfkcaa.C
