/- Words of a text: the document's way; small functions, inner loops. No condition. -/
import Derived.Test.YtnibelnjflhkgaaDoorLx4
namespace Go.Proofs.YtnibelnjflhkgaaDoor.Ab
set_option linter.unusedVariables false
set_option linter.unusedSimpArgs false
set_option maxRecDepth 10000
attribute [local go_sem] decide_true decide_false Nat.zero_le Bool.not_true Bool.not_false Bool.false_eq_true if_false if_true forall_const true_and and_true List.map Option.map Bool.and_self Bool.and_true Bool.true_and Bool.false_and Bool.and_false List.getElem?_cons_zero List.getElem?_nil List.getElem?_cons_succ Int.natCast_nonneg Int.toNat_natCast List.length_map List.length_cons List.length_nil Nat.zero_add Nat.le_refl List.drop_zero List.drop_succ_cons List.take_succ_cons List.take_zero List.take_nil ne_eq not_true_eq_false not_false_eq_true upd_same Nat.add_assoc Nat.left_eq_add Nat.add_eq_left Nat.add_left_cancel_iff Nat.succ_ne_self Nat.one_ne_zero Nat.add_zero Nat.le_add_right ite_self List.set_cons_zero List.set_cons_succ List.all_cons List.all_nil bne_self_eq_false List.isEmpty_cons Int.cast_ofNat_Int Nat.mul_one List.nil_append or_self or_true true_or List.cons_append List.append_nil Option.none_beq_some Option.some_beq_some beq_self_eq_true
theorem c27 : compF Tryd.prog ow Tryd.f27 = (some (9, ([(.t 2)], (.seq (.ops [(none, (.set 2 (.bool false)))]) (.seq (.ops [(none, (.cp 3 0)), (none, (.bin (some 4) .geq (.t 3) (.k (.int .u8 48)) false false)), (none, (.cp 5 4)), ((some (5, true)), (.cp 6 0)), ((some (5, true)), (.bin (some 7) .leq (.t 6) (.k (.int .u8 57)) false false)), (none, (.pick (some 8) (.t 5) (.t 7) (.k (.bool false)))), (none, (.mv 2 8))]) .ret))))) := by kernel_rfl
theorem c26 : compF Tryd.prog ow Tryd.f26 = (some (25, ([(.t 2)], (.seq (.ops [(none, (.set 2 (.bool false)))]) (.seq (.ops [(none, (.cp 3 0)), (none, (.bin (some 4) .geq (.t 3) (.k (.int .u8 97)) false false)), (none, (.cp 5 4)), ((some (5, true)), (.cp 6 0)), ((some (5, true)), (.bin (some 7) .leq (.t 6) (.k (.int .u8 122)) false false)), (none, (.pick (some 8) (.t 5) (.t 7) (.k (.bool false)))), (none, (.cp 9 8)), ((some (9, false)), (.cp 10 0)), ((some (9, false)), (.bin (some 11) .geq (.t 10) (.k (.int .u8 65)) false false)), ((some (9, false)), (.cp 12 11)), ((some (12, true)), (.cp 13 0)), ((some (12, true)), (.bin (some 14) .leq (.t 13) (.k (.int .u8 90)) false false)), ((some (9, false)), (.pick (some 15) (.t 12) (.t 14) (.k (.bool false)))), (none, (.pick (some 16) (.t 9) (.k (.bool true)) (.t 15))), (none, (.cp 17 16)), ((some (17, false)), (.cp 18 0)), ((some (17, false)), (.call (some 19) (.k (.func 27 [] [])) [(.t 18)] none)), (none, (.pick (some 20) (.t 17) (.k (.bool true)) (.t 19))), (none, (.cp 21 20)), ((some (21, false)), (.cp 22 0)), ((some (21, false)), (.bin (some 23) .eql (.t 22) (.k (.int .u8 95)) false false)), (none, (.pick (some 24) (.t 21) (.k (.bool true)) (.t 23))), (none, (.mv 2 24))]) .ret))))) := by kernel_rfl
theorem fnr_digit (c : Int) : PFn Tryd.prog 27 [.int .u8 c] (.bool (inR 48 57 c)) := by
  intro h
  refine fnC mixed Tryd.func27 c27 (by simp) ?_
  unfold inR
  simp only [go_sem, Nat.reduceEqDiff, Nat.reduceAdd, Nat.reduceLeDiff, Nat.reduceLT, ↓reduceIte, reduceCtorEq, Int.reduceLT, Int.reduceToNat, Int.reduceEq, Int.reduceBEq, Int.reduceBNe, Nat.reduceBEq]
  refine cog (fun h1 => ?_) (fun h1 => ?_)
  · simp only [go_sem, Nat.reduceEqDiff, Nat.reduceAdd, Nat.reduceLeDiff, Nat.reduceLT, ↓reduceIte, reduceCtorEq, Int.reduceLT, Int.reduceToNat, Int.reduceEq, Int.reduceBEq, Int.reduceBNe, Nat.reduceBEq, h1]
  · simp only [go_sem, Nat.reduceEqDiff, Nat.reduceAdd, Nat.reduceLeDiff, Nat.reduceLT, ↓reduceIte, reduceCtorEq, Int.reduceLT, Int.reduceToNat, Int.reduceEq, Int.reduceBEq, Int.reduceBNe, Nat.reduceBEq, h1]
theorem fnr_letter (c : UInt8) : PFn Tryd.prog 26 [.int .u8 (c.toNat : Nat)] (.bool (innB c)) := by
  intro h
  have e : (((c.toNat : Nat) : Int) == 95) = (c == 95) := u8_eqb c 95 (by omega)
  have hD := fnr_digit (c.toNat : Nat)
  unfold innB smaB greB digB
  generalize inR 48 57 (c.toNat : Nat) = b3 at *
  unfold inR
  refine fnC mixed Tryd.func26 c26 (by simp) ?_
  simp only [go_sem, Nat.reduceEqDiff, Nat.reduceAdd, Nat.reduceLeDiff, Nat.reduceLT, ↓reduceIte, reduceCtorEq, Int.reduceLT, Int.reduceToNat, Int.reduceEq, Int.reduceBEq, Int.reduceBNe, Nat.reduceBEq]
  cases h1 : decide ((c.toNat : Int) ≥ 97) with
  | true =>
    simp only [go_sem, Nat.reduceEqDiff, Nat.reduceAdd, Nat.reduceLeDiff, Nat.reduceLT, ↓reduceIte, reduceCtorEq, Int.reduceLT, Int.reduceToNat, Int.reduceEq, Int.reduceBEq, Int.reduceBNe, Nat.reduceBEq, h1]
    cases h2 : decide ((c.toNat : Int) ≤ 122) with
    | true => simp only [go_sem, Nat.reduceEqDiff, Nat.reduceAdd, Nat.reduceLeDiff, Nat.reduceLT, ↓reduceIte, reduceCtorEq, Int.reduceLT, Int.reduceToNat, Int.reduceEq, Int.reduceBEq, Int.reduceBNe, Nat.reduceBEq, h2, Bool.true_or]
    | false =>
      have g : decide ((c.toNat : Int) ≤ 90) = false := by simp at h1 h2 ⊢; omega
      have g2 : decide ((c.toNat : Int) ≥ 65) = true := by simp at h1 h2 ⊢; omega
      simp only [go_sem, Nat.reduceEqDiff, Nat.reduceAdd, Nat.reduceLeDiff, Nat.reduceLT, ↓reduceIte, reduceCtorEq, Int.reduceLT, Int.reduceToNat, Int.reduceEq, Int.reduceBEq, Int.reduceBNe, Nat.reduceBEq, h2, g, g2, Bool.false_or]
      refine pcall hD (by simp only [go_sem, Nat.reduceEqDiff, Nat.reduceAdd, Nat.reduceLeDiff, Nat.reduceLT, ↓reduceIte, reduceCtorEq, Int.reduceLT, Int.reduceToNat, Int.reduceEq, Int.reduceBEq, Int.reduceBNe, Nat.reduceBEq]) ?_
      cases b3 with
      | true => simp only [go_sem, Nat.reduceEqDiff, Nat.reduceAdd, Nat.reduceLeDiff, Nat.reduceLT, ↓reduceIte, reduceCtorEq, Int.reduceLT, Int.reduceToNat, Int.reduceEq, Int.reduceBEq, Int.reduceBNe, Nat.reduceBEq, Bool.true_or]
      | false => simp only [go_sem, Nat.reduceEqDiff, Nat.reduceAdd, Nat.reduceLeDiff, Nat.reduceLT, ↓reduceIte, reduceCtorEq, Int.reduceLT, Int.reduceToNat, Int.reduceEq, Int.reduceBEq, Int.reduceBNe, Nat.reduceBEq, e, Bool.false_or]
  | false =>
    simp only [go_sem, Nat.reduceEqDiff, Nat.reduceAdd, Nat.reduceLeDiff, Nat.reduceLT, ↓reduceIte, reduceCtorEq, Int.reduceLT, Int.reduceToNat, Int.reduceEq, Int.reduceBEq, Int.reduceBNe, Nat.reduceBEq, h1, Bool.false_or]
    cases h2 : decide ((c.toNat : Int) ≥ 65) with
    | true =>
      simp only [go_sem, Nat.reduceEqDiff, Nat.reduceAdd, Nat.reduceLeDiff, Nat.reduceLT, ↓reduceIte, reduceCtorEq, Int.reduceLT, Int.reduceToNat, Int.reduceEq, Int.reduceBEq, Int.reduceBNe, Nat.reduceBEq, h2]
      cases h3 : decide ((c.toNat : Int) ≤ 90) with
      | true => simp only [go_sem, Nat.reduceEqDiff, Nat.reduceAdd, Nat.reduceLeDiff, Nat.reduceLT, ↓reduceIte, reduceCtorEq, Int.reduceLT, Int.reduceToNat, Int.reduceEq, Int.reduceBEq, Int.reduceBNe, Nat.reduceBEq, h3, Bool.true_or]
      | false =>
        simp only [go_sem, Nat.reduceEqDiff, Nat.reduceAdd, Nat.reduceLeDiff, Nat.reduceLT, ↓reduceIte, reduceCtorEq, Int.reduceLT, Int.reduceToNat, Int.reduceEq, Int.reduceBEq, Int.reduceBNe, Nat.reduceBEq, h3, Bool.false_or]
        refine pcall hD (by simp only [go_sem, Nat.reduceEqDiff, Nat.reduceAdd, Nat.reduceLeDiff, Nat.reduceLT, ↓reduceIte, reduceCtorEq, Int.reduceLT, Int.reduceToNat, Int.reduceEq, Int.reduceBEq, Int.reduceBNe, Nat.reduceBEq]) ?_
        cases b3 with
        | true => simp only [go_sem, Nat.reduceEqDiff, Nat.reduceAdd, Nat.reduceLeDiff, Nat.reduceLT, ↓reduceIte, reduceCtorEq, Int.reduceLT, Int.reduceToNat, Int.reduceEq, Int.reduceBEq, Int.reduceBNe, Nat.reduceBEq, Bool.true_or]
        | false => simp only [go_sem, Nat.reduceEqDiff, Nat.reduceAdd, Nat.reduceLeDiff, Nat.reduceLT, ↓reduceIte, reduceCtorEq, Int.reduceLT, Int.reduceToNat, Int.reduceEq, Int.reduceBEq, Int.reduceBNe, Nat.reduceBEq, e, Bool.false_or]
    | false =>
      simp only [go_sem, Nat.reduceEqDiff, Nat.reduceAdd, Nat.reduceLeDiff, Nat.reduceLT, ↓reduceIte, reduceCtorEq, Int.reduceLT, Int.reduceToNat, Int.reduceEq, Int.reduceBEq, Int.reduceBNe, Nat.reduceBEq, h2, Bool.false_or]
      refine pcall hD (by simp only [go_sem, Nat.reduceEqDiff, Nat.reduceAdd, Nat.reduceLeDiff, Nat.reduceLT, ↓reduceIte, reduceCtorEq, Int.reduceLT, Int.reduceToNat, Int.reduceEq, Int.reduceBEq, Int.reduceBNe, Nat.reduceBEq]) ?_
      cases b3 with
      | true => simp only [go_sem, Nat.reduceEqDiff, Nat.reduceAdd, Nat.reduceLeDiff, Nat.reduceLT, ↓reduceIte, reduceCtorEq, Int.reduceLT, Int.reduceToNat, Int.reduceEq, Int.reduceBEq, Int.reduceBNe, Nat.reduceBEq, Bool.true_or]
      | false => simp only [go_sem, Nat.reduceEqDiff, Nat.reduceAdd, Nat.reduceLeDiff, Nat.reduceLT, ↓reduceIte, reduceCtorEq, Int.reduceLT, Int.reduceToNat, Int.reduceEq, Int.reduceBEq, Int.reduceBNe, Nat.reduceBEq, e, Bool.false_or]
/-- The row of marks in the document's order. -/
def marksR : List (List UInt8) := [[58, 45], [60, 45], [61, 60], [92, 61], [92, 43], [40], [41], [44], [46], [59], [60], [61], [38], [124], [64]]
theorem pre_1 (a c : UInt8) (r : List UInt8) : [a].isPrefixOf (c :: r) = (a == c) := by simp [List.isPrefixOf]
theorem pre_2 (a b c : UInt8) (r : List UInt8) : [a, b].isPrefixOf (c :: r) = (a == c && [b].isPrefixOf r) := by simp [List.isPrefixOf]
theorem marks_same (s : List UInt8) : marksR.find? (·.isPrefixOf s) = marksL.find? (·.isPrefixOf s) := by
  cases s with
  | nil => rfl
  | cons c r =>
    unfold marksR marksL
    simp only [List.find?_cons, pre_1, pre_2, List.find?_nil]
    generalize [45].isPrefixOf r = x1
    generalize [60].isPrefixOf r = x2
    generalize [61].isPrefixOf r = x3
    generalize [43].isPrefixOf r = x4
    by_cases c1 : c = 58
    · subst c1; cases x1 <;> rfl
    by_cases c2 : c = 60
    · subst c2; cases x1 <;> rfl
    by_cases c3 : c = 61
    · subst c3; cases x2 <;> rfl
    by_cases c4 : c = 92
    · subst c4; cases x3 <;> cases x4 <;> rfl
    have e1 : (58 == c) = false := by simpa using fun h => c1 h.symm
    have e2 : (60 == c) = false := by simpa using fun h => c2 h.symm
    have e3 : (61 == c) = false := by simpa using fun h => c3 h.symm
    have e4 : (92 == c) = false := by simpa using fun h => c4 h.symm
    simp only [e1, e2, e3, e4, Bool.false_and]
theorem toksF_skip (f p n : Nat) (s : List UInt8) (acc : List Tk) (h : skipN false s = n + skipN false (s.drop n)) : toksF (f + 1) p s acc = toksF (f + 1) (p + n) (s.drop n) acc := by
  rw [toksF_succ, toksF_succ, h, List.drop_drop]
  congr 1
  omega
theorem skip_bla {c : UInt8} {r : List UInt8} (h : blaB c = true) : skipN false (c :: r) = 1 + skipN false ((c :: r).drop 1) := by rw [skipN, if_pos h]; simp; omega
theorem skip_rem {r : List UInt8} : skipN false (37 :: r) = spanN (fun c => c != 10) (37 :: r) + skipN false ((37 :: r).drop (spanN (fun c => c != 10) (37 :: r))) := by
  have e : spanN (fun c => c != 10) (37 :: r) = spanN (fun c => c != 10) r + 1 := by rw [spanN]; rfl
  rw [e, List.drop_succ_cons, skipN, if_neg (by decide), if_pos rfl, skipN_rem]; omega
theorem toksF_tok (f p : Nat) (c : UInt8) (r : List UInt8) (acc : List Tk) (h1 : blaB c = false) (h2 : c ≠ 37) : toksF (f + 1) p (c :: r) acc = toksG f p (c :: r) acc := by
  rw [toksF_succ]
  have : skipN false (c :: r) = 0 := by rw [skipN, if_neg (by rw [h1]; simp), if_neg h2]
  rw [this]; rfl
end Go.Proofs.YtnibelnjflhkgaaDoor.Ab
