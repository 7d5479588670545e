/- What the laws' functions take: terms. -/
import Derived.Test.YthaoooohomfkcaaAb25
import Derived.Test.YthaoooohomfkcaaProg
import Derived.KernelRfl
namespace Go.Proofs.Ythaoooohomfkcaa.Ab
set_option linter.unusedVariables false
set_option linter.unusedSimpArgs false
set_option maxRecDepth 10000
attribute [local go_sem] Nat.zero_le Bool.not_true Bool.not_false Bool.false_eq_true if_false if_true forall_const true_and and_true List.map Option.map Bool.and_self Bool.and_true Bool.true_and Bool.false_and Bool.and_false List.getElem?_cons_zero List.getElem?_nil List.getElem?_cons_succ Int.natCast_nonneg Int.toNat_natCast List.length_map List.length_cons List.length_nil Nat.zero_add Nat.le_refl List.drop_zero List.drop_succ_cons List.take_succ_cons List.take_zero List.take_nil ne_eq not_true_eq_false not_false_eq_true upd_same Nat.add_assoc Nat.left_eq_add Nat.add_eq_left Nat.add_left_cancel_iff Nat.succ_ne_self Nat.one_ne_zero Nat.add_zero Nat.le_add_right ite_self List.set_cons_zero List.set_cons_succ List.all_cons List.all_nil bne_self_eq_false List.isEmpty_cons Int.cast_ofNat_Int Nat.mul_one List.nil_append or_self or_true true_or List.cons_append List.append_nil Option.none_beq_some Option.some_beq_some beq_self_eq_true
def ow : FuncId → Option Nat := fun f => match f with | 85 => some 0 | 88 => some 0 | 89 => some 100 | 90 => some 100 | 91 => some 100 | 92 => some 100 | 94 => some 100 | 95 => some 100 | 96 => some 100 | 100 => some 100 | 101 => some 100 | 106 => some 100 | _ => none
theorem mixed : Try.prog.follows .mixedOrders = true := by kernel_rfl
theorem c12 : compF Try.prog ow Try.f12 = (some (4, ([(.t 2)], (.seq (.ops [(none, (.set 2 (.int .i64 0)))]) (.seq (.ops [(none, (.mv 3 0)), (none, (.mv 2 3))]) .ret))))) := by kernel_rfl
theorem c119 : compF Try.prog ow Try.f119 = (some (6, ([(.t 2)], (.seq (.ops [(none, (.set 2 (.bool false)))]) (.seq (.ops [(none, (.cp 3 0)), (none, (.cp 4 0)), (none, (.bin (some 5) .neq (.t 3) (.t 4) false false)), (none, (.mv 2 5))]) .ret))))) := by kernel_rfl
theorem c103 : compF Try.prog ow Try.f103 = (some (20, ([(.t 4)], (.seq (.ops [(none, (.set 4 (.int .i64 0)))]) (.seq (.ops [(none, (.cp 7 0)), (none, (.call (some 8) (.k (.func 119 [] [])) [(.t 7)] none)), (none, (.mv 5 8))]) (.seq (.ops [(none, (.cp 9 1)), (none, (.call (some 10) (.k (.func 119 [] [])) [(.t 9)] none)), (none, (.mv 6 10))]) (.seq (.seq (.ops [(none, (.cp 11 5))]) (.cond (.t 11) (.seq (.seq (.ops [(none, (.cp 12 6))]) (.cond (.t 12) (.seq (.ops [(none, (.set 4 (.int .i64 0)))]) .ret) .skip)) (.seq (.ops [(none, (.set 4 (.int .i64 (-1))))]) .ret)) .skip)) (.seq (.seq (.ops [(none, (.cp 13 6))]) (.cond (.t 13) (.seq (.ops [(none, (.set 4 (.int .i64 1)))]) .ret) .skip)) (.seq (.seq (.ops [(none, (.cp 14 0)), (none, (.cp 15 1)), (none, (.bin (some 16) .lss (.t 14) (.t 15) false false))]) (.cond (.t 16) (.seq (.ops [(none, (.set 4 (.int .i64 (-1))))]) .ret) .skip)) (.seq (.seq (.ops [(none, (.cp 17 0)), (none, (.cp 18 1)), (none, (.bin (some 19) .gtr (.t 17) (.t 18) false false))]) (.cond (.t 19) (.seq (.ops [(none, (.set 4 (.int .i64 1)))]) .ret) .skip)) (.seq (.ops [(none, (.set 4 (.int .i64 0)))]) .ret))))))))))) := by kernel_rfl
theorem c102 : compF Try.prog ow Try.f102 = (some (18, ([(.t 2)], (.seq (.ops [(none, (.set 2 (.int .i64 0)))]) (.seq (.ops [(none, (.set 3 (.int .i64 0)))]) (.seq (.seq (.ops [(none, (.cp 6 0)), (none, (.len (some 7) (.t 6) false true)), (none, (.set 8 (.int .i64 0)))]) (.block 0 (.loop (.seq (.ops [(none, (.bin (some 9) .lss (.t 8) (.t 7) false false))]) (.seq (.cond (.t 9) .skip (.exit 0)) (.seq (.block 1 (.seq (.ops [(none, (.ia (some 10) (.t 6) (.t 8) (some 1) none)), (none, (.ld (some 11) (.t 10) (.one none))), (none, (.mv 5 11))]) (.seq (.ops [(none, (.cp 12 5)), (none, (.cp 13 3)), (none, (.bin (some 14) .neq (.t 12) (.t 13) false false))]) (.cond (.t 14) (.seq (.ops [(none, (.mv 15 5)), (none, (.mv 2 15))]) .ret) .skip)))) (.ops [(none, (.bin (some 16) .add (.t 8) (.k (.int .i64 1)) false false)), (none, (.cp 8 16))]))))))) (.seq (.ops [(none, (.mv 17 3)), (none, (.mv 2 17))]) .ret))))))) := by kernel_rfl
theorem fn_num (c : Int) : PFn Try.prog 12 [.int .i64 c] (.int .i64 c) := by
  intro h
  refine fnC mixed Try.func12 c12 (by simp) ?_
  simp only [go_sem, Nat.reduceEqDiff, Nat.reduceAdd, Nat.reduceLeDiff, Nat.reduceLT, ↓reduceIte, reduceCtorEq, Int.reduceLT, Int.reduceToNat, Int.reduceEq, Int.reduceBEq, Int.reduceBNe, Nat.reduceBEq]
theorem fn_isNaN (c : Int) : PFn Try.prog 119 [.int .i64 c] (.bool false) := by
  intro h
  refine fnC mixed Try.func119 c119 (by simp) ?_
  simp only [go_sem, Nat.reduceEqDiff, Nat.reduceAdd, Nat.reduceLeDiff, Nat.reduceLT, ↓reduceIte, reduceCtorEq, Int.reduceLT, Int.reduceToNat, Int.reduceEq, Int.reduceBEq, Int.reduceBNe, Nat.reduceBEq]
def cmpI (a b : Int) : Int := if a < b then -1 else if b < a then 1 else 0
theorem fn_cmp (a b : Int) : PFn Try.prog 103 [.int .i64 a, .int .i64 b] (.int .i64 (cmpI a b)) := by
  intro h
  refine fnC mixed Try.func103 c103 (by simp) ?_
  simp only [go_sem, Nat.reduceEqDiff, Nat.reduceAdd, Nat.reduceLeDiff, Nat.reduceLT, ↓reduceIte, reduceCtorEq, Int.reduceLT, Int.reduceToNat, Int.reduceEq, Int.reduceBEq, Int.reduceBNe, Nat.reduceBEq]
  refine pcall (fn_isNaN a) (by simp only [go_sem, Nat.reduceEqDiff, Nat.reduceAdd, Nat.reduceLeDiff, Nat.reduceLT, ↓reduceIte, reduceCtorEq, Int.reduceLT, Int.reduceToNat, Int.reduceEq, Int.reduceBEq, Int.reduceBNe, Nat.reduceBEq]) ?_
  simp only [go_sem, Nat.reduceEqDiff, Nat.reduceAdd, Nat.reduceLeDiff, Nat.reduceLT, ↓reduceIte, reduceCtorEq, Int.reduceLT, Int.reduceToNat, Int.reduceEq, Int.reduceBEq, Int.reduceBNe, Nat.reduceBEq]
  refine pcall (fn_isNaN b) (by simp only [go_sem, Nat.reduceEqDiff, Nat.reduceAdd, Nat.reduceLeDiff, Nat.reduceLT, ↓reduceIte, reduceCtorEq, Int.reduceLT, Int.reduceToNat, Int.reduceEq, Int.reduceBEq, Int.reduceBNe, Nat.reduceBEq]) ?_
  simp only [go_sem, Nat.reduceEqDiff, Nat.reduceAdd, Nat.reduceLeDiff, Nat.reduceLT, ↓reduceIte, reduceCtorEq, Int.reduceLT, Int.reduceToNat, Int.reduceEq, Int.reduceBEq, Int.reduceBNe, Nat.reduceBEq]
  refine cif (fun h1 => ?_) (fun h1 => ?_)
  · simp only [go_sem, Nat.reduceEqDiff, Nat.reduceAdd, Nat.reduceLeDiff, Nat.reduceLT, ↓reduceIte, reduceCtorEq, Int.reduceLT, Int.reduceToNat, Int.reduceEq, Int.reduceBEq, Int.reduceBNe, Nat.reduceBEq]
    simp at h1; simp [cmpI, h1]
  · simp only [go_sem, Nat.reduceEqDiff, Nat.reduceAdd, Nat.reduceLeDiff, Nat.reduceLT, ↓reduceIte, reduceCtorEq, Int.reduceLT, Int.reduceToNat, Int.reduceEq, Int.reduceBEq, Int.reduceBNe, Nat.reduceBEq]
    refine cif (fun h2 => ?_) (fun h2 => ?_)
    · simp only [go_sem, Nat.reduceEqDiff, Nat.reduceAdd, Nat.reduceLeDiff, Nat.reduceLT, ↓reduceIte, reduceCtorEq, Int.reduceLT, Int.reduceToNat, Int.reduceEq, Int.reduceBEq, Int.reduceBNe, Nat.reduceBEq]
      simp at h1 h2; simp [cmpI, h2, show ¬ a < b by omega]
    · simp only [go_sem, Nat.reduceEqDiff, Nat.reduceAdd, Nat.reduceLeDiff, Nat.reduceLT, ↓reduceIte, reduceCtorEq, Int.reduceLT, Int.reduceToNat, Int.reduceEq, Int.reduceBEq, Int.reduceBNe, Nat.reduceBEq]
      simp at h1 h2; simp [cmpI, show ¬ a < b by omega, show ¬ b < a by omega]
def orI : List Int → Int
  | [] => 0
  | a :: l => if a = 0 then orI l else a
theorem fn_or (l : List Int) (hl : l.length < 1000000) : PFn Try.prog 102 [.sl .sh 1 (l.map (AV.int .i64))] (.int .i64 (orI l)) := by
  intro h
  refine fnC mixed Try.func102 c102 (by simp) ?_
  simp only [go_sem, Nat.reduceEqDiff, Nat.reduceAdd, Nat.reduceLeDiff, Nat.reduceLT, ↓reduceIte, reduceCtorEq, Int.reduceLT, Int.reduceToNat, Int.reduceEq, Int.reduceBEq, Int.reduceBNe, Nat.reduceBEq]
  refine cloop (fun k t => ∃ i, i + k = l.length ∧ t.fr 6 = .sl .sh 1 (l.map (AV.int .i64)) ∧ t.fr 7 = .int .i64 l.length ∧ t.fr 8 = .int .i64 (i : Nat) ∧ t.fr 3 = .int .i64 0 ∧ t.fr 2 = .int .i64 0 ∧ orI (l.drop i) = orI l ∧ t.hp = h) l.length ⟨0, by simp [fr_apply]⟩ ?_
  rintro k ⟨f, hp⟩ ⟨i, hk, h6, h7, h8, h3, h2, ho, rfl⟩
  simp only at h6 h7 h8 h3 h2
  simp only [go_sem, Nat.reduceEqDiff, Nat.reduceAdd, Nat.reduceLeDiff, Nat.reduceLT, ↓reduceIte, reduceCtorEq, Int.reduceLT, Int.reduceToNat, Int.reduceEq, Int.reduceBEq, Int.reduceBNe, Nat.reduceBEq, h6, h7, h8]
  refine cif (fun hb => ?_) (fun hb => ?_)
  · have hi : i < l.length := by simpa using hb
    have hx : l[i]? = some l[i] := List.getElem?_eq_getElem hi
    have hm : (l.map (AV.int .i64))[i]? = some (.int .i64 l[i]) := by simp [hx]
    simp only [go_sem, Nat.reduceEqDiff, Nat.reduceAdd, Nat.reduceLeDiff, Nat.reduceLT, ↓reduceIte, reduceCtorEq, Int.reduceLT, Int.reduceToNat, Int.reduceEq, Int.reduceBEq, Int.reduceBNe, Nat.reduceBEq, h6, h7, h8, h3, hm]
    have hd : l.drop i = l[i] :: l.drop (i + 1) := (List.drop_eq_getElem_cons hi)
    rw [hd] at ho
    refine cif (fun h1 => ?_) (fun h1 => ?_)
    · simp only [go_sem, Nat.reduceEqDiff, Nat.reduceAdd, Nat.reduceLeDiff, Nat.reduceLT, ↓reduceIte, reduceCtorEq, Int.reduceLT, Int.reduceToNat, Int.reduceEq, Int.reduceBEq, Int.reduceBNe, Nat.reduceBEq]
      simp [orI, show ¬ l[i] = 0 by simpa using h1] at ho
      simp [ho]
    · have hw : IntKind.i64.wrap ((i : Int) + 1) = ((i + 1 : Nat) : Int) := by rw [wrap64] <;> omega
      simp only [go_sem, Nat.reduceEqDiff, Nat.reduceAdd, Nat.reduceLeDiff, Nat.reduceLT, ↓reduceIte, reduceCtorEq, Int.reduceLT, Int.reduceToNat, Int.reduceEq, Int.reduceBEq, Int.reduceBNe, Nat.reduceBEq, h6, h7, h8, h3, h2, hw]
      simp [orI, show l[i] = 0 by simpa using h1] at ho
      refine ⟨k - 1, by omega, i + 1, by omega, ?_⟩; simp [ho]
  · have hi : l.length ≤ i := by simpa using hb
    simp only [go_sem, Nat.reduceEqDiff, Nat.reduceAdd, Nat.reduceLeDiff, Nat.reduceLT, ↓reduceIte, reduceCtorEq, Int.reduceLT, Int.reduceToNat, Int.reduceEq, Int.reduceBEq, Int.reduceBNe, Nat.reduceBEq, h6, h7, h8, h3]
    rw [List.drop_eq_nil_of_le hi] at ho
    simp [← ho, orI]
end Go.Proofs.Ythaoooohomfkcaa.Ab
