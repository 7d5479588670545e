/- Names and terms that may be, the document's way; a term's bytes, the document's way. -/
import Derived.Test.YthaoooohomfkcaaWy0
import Derived.Test.YthaoooohomfkcaaWw3
namespace Go.Proofs.Ythaoooohomfkcaa.Ab
set_option linter.unusedVariables false
set_option linter.unusedSimpArgs false
set_option maxRecDepth 10000
attribute [local go_sem] Nat.zero_le Bool.not_true Bool.not_false Bool.false_eq_true if_false if_true forall_const true_and and_true List.map Option.map Bool.and_self Bool.and_true Bool.true_and Bool.false_and Bool.and_false List.getElem?_cons_zero List.getElem?_nil List.getElem?_cons_succ Int.natCast_nonneg Int.toNat_natCast List.length_map List.length_cons List.length_nil Nat.zero_add Nat.le_refl List.drop_zero List.drop_succ_cons List.take_succ_cons List.take_zero List.take_nil ne_eq not_true_eq_false not_false_eq_true upd_same Nat.add_assoc Nat.left_eq_add Nat.add_eq_left Nat.add_left_cancel_iff Nat.succ_ne_self Nat.one_ne_zero Nat.add_zero Nat.le_add_right ite_self List.set_cons_zero List.set_cons_succ List.all_cons List.all_nil bne_self_eq_false List.isEmpty_cons Int.cast_ofNat_Int Nat.mul_one List.nil_append or_self or_true true_or List.cons_append List.append_nil Option.none_beq_some Option.some_beq_some beq_self_eq_true
theorem c82 : compF Try.prog ow Try.f82 = (some (41, ([(.t 2)], (.seq (.ops [(none, (.set 2 (.bool false)))]) (.seq (.seq (.ops [(none, (.set 3 (.int .i64 0)))]) (.block 0 (.loop (.seq (.seq (.ops [(none, (.cp 5 3)), (none, (.cp 6 0)), (none, (.len (some 7) (.t 6) true false)), (none, (.bin (some 8) .lss (.t 5) (.t 7) false false))]) (.cond (.t 8) .skip (.exit 0))) (.seq (.block 1 (.seq (.ops [(none, (.cp 11 0)), (none, (.cp 12 3)), (none, (.idx (some 13) (.t 11) (.t 12) true none)), (none, (.mv 4 13))]) (.seq (.ops [(none, (.cp 14 4)), (none, (.bin (some 15) .geq (.t 14) (.k (.int .u8 97)) false false)), (none, (.cp 16 15)), ((some (16, true)), (.cp 17 4)), ((some (16, true)), (.bin (some 18) .leq (.t 17) (.k (.int .u8 122)) false false)), (none, (.pick (some 19) (.t 16) (.t 18) (.k (.bool false)))), (none, (.cp 20 19)), ((some (20, false)), (.cp 21 4)), ((some (20, false)), (.bin (some 22) .geq (.t 21) (.k (.int .u8 65)) false false)), ((some (20, false)), (.cp 23 22)), ((some (23, true)), (.cp 24 4)), ((some (23, true)), (.bin (some 25) .leq (.t 24) (.k (.int .u8 90)) false false)), ((some (20, false)), (.pick (some 26) (.t 23) (.t 25) (.k (.bool false)))), (none, (.pick (some 27) (.t 20) (.k (.bool true)) (.t 26))), (none, (.cp 28 27)), ((some (28, false)), (.cp 29 4)), ((some (28, false)), (.bin (some 30) .geq (.t 29) (.k (.int .u8 48)) false false)), ((some (28, false)), (.cp 31 30)), ((some (31, true)), (.cp 32 4)), ((some (31, true)), (.bin (some 33) .leq (.t 32) (.k (.int .u8 57)) false false)), ((some (28, false)), (.pick (some 34) (.t 31) (.t 33) (.k (.bool false)))), (none, (.pick (some 35) (.t 28) (.k (.bool true)) (.t 34))), (none, (.cp 36 35)), ((some (36, false)), (.cp 37 4)), ((some (36, false)), (.bin (some 38) .eql (.t 37) (.k (.int .u8 95)) false false)), (none, (.pick (some 39) (.t 36) (.k (.bool true)) (.t 38))), (none, (.un (some 40) .not (.t 39)))]) (.cond (.t 40) (.seq (.ops [(none, (.set 2 (.bool false)))]) .ret) .skip)))) (.ops [(none, (.cp 9 3)), (none, (.bin (some 10) .add (.t 9) (.k (.int .i64 1)) false false)), (none, (.mv 3 10))])))))) (.seq (.ops [(none, (.set 2 (.bool true)))]) .ret)))))) := by kernel_rfl
theorem c124 : compF Try.prog ow Try.f124 = (some (29, ([(.t 6)], (.seq (.ops [(none, (.set 6 (.bool false)))]) (.seq (.seq (.ops [(none, (.cp 7 0)), (none, (.len (some 8) (.t 7) true false)), (none, (.bin (some 9) .eql (.t 8) (.k (.int .i64 0)) false false)), (none, (.cp 10 9)), ((some (10, false)), (.cp 11 0)), ((some (10, false)), (.len (some 12) (.t 11) true false)), ((some (10, false)), (.bin (some 13) .gtr (.t 12) (.k (.int .i64 16)) false false)), (none, (.pick (some 14) (.t 10) (.k (.bool true)) (.t 13))), (none, (.cp 15 14)), ((some (15, false)), (.cp 16 0)), ((some (15, false)), (.idx (some 17) (.t 16) (.k (.int .i64 0)) true none)), ((some (15, false)), (.cp 18 1)), ((some (15, false)), (.bin (some 19) .lss (.t 17) (.t 18) false false)), (none, (.pick (some 20) (.t 15) (.k (.bool true)) (.t 19))), (none, (.cp 21 20)), ((some (21, false)), (.cp 22 0)), ((some (21, false)), (.idx (some 23) (.t 22) (.k (.int .i64 0)) true none)), ((some (21, false)), (.cp 24 2)), ((some (21, false)), (.bin (some 25) .gtr (.t 23) (.t 24) false false)), (none, (.pick (some 26) (.t 21) (.k (.bool true)) (.t 25)))]) (.cond (.t 26) (.seq (.ops [(none, (.set 6 (.bool false)))]) .ret) .skip)) (.seq (.ops [(none, (.cp 27 0)), (none, (.call (some 28) (.k (.func 82 [] [])) [(.t 27)] none)), (none, (.mv 6 28))]) .ret)))))) := by kernel_rfl
theorem c109 : compF Try.prog ow Try.f109 = (some (5, ([(.t 2)], (.seq (.ops [(none, (.set 2 (.bool false)))]) (.seq (.ops [(none, (.cp 3 0)), (none, (.call (some 4) (.k (.func 124 [] [])) [(.t 3), (.k (.int .u8 65)), (.k (.int .u8 90))] none)), (none, (.mv 2 4))]) .ret))))) := by kernel_rfl
theorem c110 : compF Try.prog ow Try.f110 = (some (5, ([(.t 2)], (.seq (.ops [(none, (.set 2 (.bool false)))]) (.seq (.ops [(none, (.cp 3 0)), (none, (.call (some 4) (.k (.func 124 [] [])) [(.t 3), (.k (.int .u8 97)), (.k (.int .u8 122))] none)), (none, (.mv 2 4))]) .ret))))) := by kernel_rfl
theorem fn_tail (s : List UInt8) (hl : s.length < 1000000000000000) : PFn Try.prog 82 [.str s] (.bool (s.all fun c => innerB c.toNat)) := by
  intro h
  refine fnC mixed Try.func82 c82 (by simp) ?_
  simp only [go_sem, Nat.reduceEqDiff, Nat.reduceAdd, Nat.reduceLeDiff, Nat.reduceLT, ↓reduceIte, reduceCtorEq, Int.reduceLT, Int.reduceToNat, Int.reduceEq, Int.reduceBEq, Int.reduceBNe, Nat.reduceBEq]
  refine cloop (fun k t => ∃ i, i + k = s.length ∧ t.fr 0 = .str s ∧ t.fr 3 = .int .i64 (i : Nat) ∧ ((s.drop i).all fun c => innerB c.toNat) = (s.all fun c => innerB c.toNat) ∧ t.hp = h) s.length ⟨0, by simp [fr_apply, argsF]⟩ ?_
  rintro k ⟨g, hp⟩ ⟨i, hk, g0, g3, he, rfl⟩
  simp only at g0 g3
  simp only [go_sem, Nat.reduceEqDiff, Nat.reduceAdd, Nat.reduceLeDiff, Nat.reduceLT, ↓reduceIte, reduceCtorEq, Int.reduceLT, Int.reduceToNat, Int.reduceEq, Int.reduceBEq, Int.reduceBNe, Nat.reduceBEq, g0, g3]
  refine cif (fun hb => ?_) (fun hb => ?_)
  · have hi : i < s.length := by simpa using hb
    rw [List.drop_eq_getElem_cons hi, List.all_cons] at he
    have hw : IntKind.i64.wrap ((i : Int) + 1) = ((i + 1 : Nat) : Int) := by rw [wrap64] <;> omega
    generalize hC : s[i].toNat = c at he
    have hc : c < 256 := by rw [← hC]; exact s[i].toNat_lt
    have hcase : (97 ≤ c ∧ c ≤ 122) ∨ (65 ≤ c ∧ c ≤ 90) ∨ (48 ≤ c ∧ c ≤ 57) ∨ (95 ≤ c ∧ c ≤ 95) ∨ (0 ≤ c ∧ c ≤ 47) ∨ (58 ≤ c ∧ c ≤ 64) ∨ (91 ≤ c ∧ c ≤ 94) ∨ (96 ≤ c ∧ c ≤ 96) ∨ (123 ≤ c ∧ c ≤ 255) := by omega
    rcases hcase with hc | hc | hc | hc | hc | hc | hc | hc | hc
    · have e1 : decide ((c : Int) ≥ 97) = true := decide_eq_true (by omega)
      have e2 : decide ((c : Int) ≤ 122) = true := decide_eq_true (by omega)
      have e3 : decide ((c : Int) ≥ 65) = true := decide_eq_true (by omega)
      have e4 : decide ((c : Int) ≤ 90) = false := decide_eq_false (by omega)
      have e5 : decide ((c : Int) ≥ 48) = true := decide_eq_true (by omega)
      have e6 : decide ((c : Int) ≤ 57) = false := decide_eq_false (by omega)
      have e7 : ((c : Int) == 95) = false := by simp; omega
      have ei : innerB (c : Int) = true := by simp [innerB, betw]; omega
      simp only [go_sem, Nat.reduceEqDiff, Nat.reduceAdd, Nat.reduceLeDiff, Nat.reduceLT, ↓reduceIte, reduceCtorEq, Int.reduceLT, Int.reduceToNat, Int.reduceEq, Int.reduceBEq, Int.reduceBNe, Nat.reduceBEq, g0, g3, decide_true, List.getElem?_eq_getElem hi, hw, hC, e1, e2, e3, e4, e5, e6, e7]
      exact ⟨k - 1, by omega, i + 1, by omega, rfl, by rw [ei] at he; simpa using he⟩
    · have e1 : decide ((c : Int) ≥ 97) = false := decide_eq_false (by omega)
      have e2 : decide ((c : Int) ≤ 122) = true := decide_eq_true (by omega)
      have e3 : decide ((c : Int) ≥ 65) = true := decide_eq_true (by omega)
      have e4 : decide ((c : Int) ≤ 90) = true := decide_eq_true (by omega)
      have e5 : decide ((c : Int) ≥ 48) = true := decide_eq_true (by omega)
      have e6 : decide ((c : Int) ≤ 57) = false := decide_eq_false (by omega)
      have e7 : ((c : Int) == 95) = false := by simp; omega
      have ei : innerB (c : Int) = true := by simp [innerB, betw]; omega
      simp only [go_sem, Nat.reduceEqDiff, Nat.reduceAdd, Nat.reduceLeDiff, Nat.reduceLT, ↓reduceIte, reduceCtorEq, Int.reduceLT, Int.reduceToNat, Int.reduceEq, Int.reduceBEq, Int.reduceBNe, Nat.reduceBEq, g0, g3, decide_true, List.getElem?_eq_getElem hi, hw, hC, e1, e2, e3, e4, e5, e6, e7]
      exact ⟨k - 1, by omega, i + 1, by omega, rfl, by rw [ei] at he; simpa using he⟩
    · have e1 : decide ((c : Int) ≥ 97) = false := decide_eq_false (by omega)
      have e2 : decide ((c : Int) ≤ 122) = true := decide_eq_true (by omega)
      have e3 : decide ((c : Int) ≥ 65) = false := decide_eq_false (by omega)
      have e4 : decide ((c : Int) ≤ 90) = true := decide_eq_true (by omega)
      have e5 : decide ((c : Int) ≥ 48) = true := decide_eq_true (by omega)
      have e6 : decide ((c : Int) ≤ 57) = true := decide_eq_true (by omega)
      have e7 : ((c : Int) == 95) = false := by simp; omega
      have ei : innerB (c : Int) = true := by simp [innerB, betw]; omega
      simp only [go_sem, Nat.reduceEqDiff, Nat.reduceAdd, Nat.reduceLeDiff, Nat.reduceLT, ↓reduceIte, reduceCtorEq, Int.reduceLT, Int.reduceToNat, Int.reduceEq, Int.reduceBEq, Int.reduceBNe, Nat.reduceBEq, g0, g3, decide_true, List.getElem?_eq_getElem hi, hw, hC, e1, e2, e3, e4, e5, e6, e7]
      exact ⟨k - 1, by omega, i + 1, by omega, rfl, by rw [ei] at he; simpa using he⟩
    · have e1 : decide ((c : Int) ≥ 97) = false := decide_eq_false (by omega)
      have e2 : decide ((c : Int) ≤ 122) = true := decide_eq_true (by omega)
      have e3 : decide ((c : Int) ≥ 65) = true := decide_eq_true (by omega)
      have e4 : decide ((c : Int) ≤ 90) = false := decide_eq_false (by omega)
      have e5 : decide ((c : Int) ≥ 48) = true := decide_eq_true (by omega)
      have e6 : decide ((c : Int) ≤ 57) = false := decide_eq_false (by omega)
      have e7 : ((c : Int) == 95) = true := by simp; omega
      have ei : innerB (c : Int) = true := by simp [innerB, betw]; omega
      simp only [go_sem, Nat.reduceEqDiff, Nat.reduceAdd, Nat.reduceLeDiff, Nat.reduceLT, ↓reduceIte, reduceCtorEq, Int.reduceLT, Int.reduceToNat, Int.reduceEq, Int.reduceBEq, Int.reduceBNe, Nat.reduceBEq, g0, g3, decide_true, List.getElem?_eq_getElem hi, hw, hC, e1, e2, e3, e4, e5, e6, e7]
      exact ⟨k - 1, by omega, i + 1, by omega, rfl, by rw [ei] at he; simpa using he⟩
    · have e1 : decide ((c : Int) ≥ 97) = false := decide_eq_false (by omega)
      have e2 : decide ((c : Int) ≤ 122) = true := decide_eq_true (by omega)
      have e3 : decide ((c : Int) ≥ 65) = false := decide_eq_false (by omega)
      have e4 : decide ((c : Int) ≤ 90) = true := decide_eq_true (by omega)
      have e5 : decide ((c : Int) ≥ 48) = false := decide_eq_false (by omega)
      have e6 : decide ((c : Int) ≤ 57) = true := decide_eq_true (by omega)
      have e7 : ((c : Int) == 95) = false := by simp; omega
      have ei : innerB (c : Int) = false := by simp [innerB, betw]; omega
      simp only [go_sem, Nat.reduceEqDiff, Nat.reduceAdd, Nat.reduceLeDiff, Nat.reduceLT, ↓reduceIte, reduceCtorEq, Int.reduceLT, Int.reduceToNat, Int.reduceEq, Int.reduceBEq, Int.reduceBNe, Nat.reduceBEq, g0, g3, decide_true, List.getElem?_eq_getElem hi, hw, hC, e1, e2, e3, e4, e5, e6, e7]
      rw [← he, ei]; rfl
    · have e1 : decide ((c : Int) ≥ 97) = false := decide_eq_false (by omega)
      have e2 : decide ((c : Int) ≤ 122) = true := decide_eq_true (by omega)
      have e3 : decide ((c : Int) ≥ 65) = false := decide_eq_false (by omega)
      have e4 : decide ((c : Int) ≤ 90) = true := decide_eq_true (by omega)
      have e5 : decide ((c : Int) ≥ 48) = true := decide_eq_true (by omega)
      have e6 : decide ((c : Int) ≤ 57) = false := decide_eq_false (by omega)
      have e7 : ((c : Int) == 95) = false := by simp; omega
      have ei : innerB (c : Int) = false := by simp [innerB, betw]; omega
      simp only [go_sem, Nat.reduceEqDiff, Nat.reduceAdd, Nat.reduceLeDiff, Nat.reduceLT, ↓reduceIte, reduceCtorEq, Int.reduceLT, Int.reduceToNat, Int.reduceEq, Int.reduceBEq, Int.reduceBNe, Nat.reduceBEq, g0, g3, decide_true, List.getElem?_eq_getElem hi, hw, hC, e1, e2, e3, e4, e5, e6, e7]
      rw [← he, ei]; rfl
    · have e1 : decide ((c : Int) ≥ 97) = false := decide_eq_false (by omega)
      have e2 : decide ((c : Int) ≤ 122) = true := decide_eq_true (by omega)
      have e3 : decide ((c : Int) ≥ 65) = true := decide_eq_true (by omega)
      have e4 : decide ((c : Int) ≤ 90) = false := decide_eq_false (by omega)
      have e5 : decide ((c : Int) ≥ 48) = true := decide_eq_true (by omega)
      have e6 : decide ((c : Int) ≤ 57) = false := decide_eq_false (by omega)
      have e7 : ((c : Int) == 95) = false := by simp; omega
      have ei : innerB (c : Int) = false := by simp [innerB, betw]; omega
      simp only [go_sem, Nat.reduceEqDiff, Nat.reduceAdd, Nat.reduceLeDiff, Nat.reduceLT, ↓reduceIte, reduceCtorEq, Int.reduceLT, Int.reduceToNat, Int.reduceEq, Int.reduceBEq, Int.reduceBNe, Nat.reduceBEq, g0, g3, decide_true, List.getElem?_eq_getElem hi, hw, hC, e1, e2, e3, e4, e5, e6, e7]
      rw [← he, ei]; rfl
    · have e1 : decide ((c : Int) ≥ 97) = false := decide_eq_false (by omega)
      have e2 : decide ((c : Int) ≤ 122) = true := decide_eq_true (by omega)
      have e3 : decide ((c : Int) ≥ 65) = true := decide_eq_true (by omega)
      have e4 : decide ((c : Int) ≤ 90) = false := decide_eq_false (by omega)
      have e5 : decide ((c : Int) ≥ 48) = true := decide_eq_true (by omega)
      have e6 : decide ((c : Int) ≤ 57) = false := decide_eq_false (by omega)
      have e7 : ((c : Int) == 95) = false := by simp; omega
      have ei : innerB (c : Int) = false := by simp [innerB, betw]; omega
      simp only [go_sem, Nat.reduceEqDiff, Nat.reduceAdd, Nat.reduceLeDiff, Nat.reduceLT, ↓reduceIte, reduceCtorEq, Int.reduceLT, Int.reduceToNat, Int.reduceEq, Int.reduceBEq, Int.reduceBNe, Nat.reduceBEq, g0, g3, decide_true, List.getElem?_eq_getElem hi, hw, hC, e1, e2, e3, e4, e5, e6, e7]
      rw [← he, ei]; rfl
    · have e1 : decide ((c : Int) ≥ 97) = true := decide_eq_true (by omega)
      have e2 : decide ((c : Int) ≤ 122) = false := decide_eq_false (by omega)
      have e3 : decide ((c : Int) ≥ 65) = true := decide_eq_true (by omega)
      have e4 : decide ((c : Int) ≤ 90) = false := decide_eq_false (by omega)
      have e5 : decide ((c : Int) ≥ 48) = true := decide_eq_true (by omega)
      have e6 : decide ((c : Int) ≤ 57) = false := decide_eq_false (by omega)
      have e7 : ((c : Int) == 95) = false := by simp; omega
      have ei : innerB (c : Int) = false := by simp [innerB, betw]; omega
      simp only [go_sem, Nat.reduceEqDiff, Nat.reduceAdd, Nat.reduceLeDiff, Nat.reduceLT, ↓reduceIte, reduceCtorEq, Int.reduceLT, Int.reduceToNat, Int.reduceEq, Int.reduceBEq, Int.reduceBNe, Nat.reduceBEq, g0, g3, decide_true, List.getElem?_eq_getElem hi, hw, hC, e1, e2, e3, e4, e5, e6, e7]
      rw [← he, ei]; rfl
  · have hi : s.length ≤ i := by simpa using hb
    simp only [go_sem, Nat.reduceEqDiff, Nat.reduceAdd, Nat.reduceLeDiff, Nat.reduceLT, ↓reduceIte, reduceCtorEq, Int.reduceLT, Int.reduceToNat, Int.reduceEq, Int.reduceBEq, Int.reduceBNe, Nat.reduceBEq, g0, g3]
    rw [List.drop_eq_nil_of_le hi] at he
    rw [← he]; rfl
end Go.Proofs.Ythaoooohomfkcaa.Ab
