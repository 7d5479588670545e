/- The document's own answer of a fact without variables; a frame's bytes, the document's way. -/
import Derived.Test.YthaoooohomfkcaaWz1
namespace Go.Proofs.Ythaoooohomfkcaa.Ab
set_option linter.unusedVariables false
set_option linter.unusedSimpArgs false
set_option maxRecDepth 10000
attribute [local go_sem] Nat.zero_le Bool.not_true Bool.not_false Bool.false_eq_true if_false if_true forall_const true_and and_true List.map Option.map Bool.and_self Bool.and_true Bool.true_and Bool.false_and Bool.and_false List.getElem?_cons_zero List.getElem?_nil List.getElem?_cons_succ Int.natCast_nonneg Int.toNat_natCast List.length_map List.length_cons List.length_nil Nat.zero_add Nat.le_refl List.drop_zero List.drop_succ_cons List.take_succ_cons List.take_zero List.take_nil ne_eq not_true_eq_false not_false_eq_true upd_same Nat.add_assoc Nat.left_eq_add Nat.add_eq_left Nat.add_left_cancel_iff Nat.succ_ne_self Nat.one_ne_zero Nat.add_zero Nat.le_add_right ite_self List.set_cons_zero List.set_cons_succ List.all_cons List.all_nil bne_self_eq_false List.isEmpty_cons Int.cast_ofNat_Int Nat.mul_one List.nil_append or_self or_true true_or List.cons_append List.append_nil Option.none_beq_some Option.some_beq_some beq_self_eq_true
theorem c54 : compF Try.prog ow Try.f54 = (some (19, ([(.t 2)], (.seq (.ops [(none, (.set 2 (.sl .full 1 [])))]) (.seq (.ops [(none, (.set 3 (.sl .full 1 [])))]) (.seq (.seq (.ops [(none, (.set 4 (.int .i64 0)))]) (.block 0 (.loop (.seq (.seq (.ops [(none, (.cp 5 4)), (none, (.cp 6 0)), (none, (.len (some 7) (.t 6) false true)), (none, (.bin (some 8) .lss (.t 5) (.t 7) false false))]) (.cond (.t 8) .skip (.exit 0))) (.seq (.block 1 (.ops [(none, (.mv 11 3)), (none, (.cp 12 0)), (none, (.cp 13 4)), (none, (.ia (some 14) (.t 12) (.t 13) (some 1) none)), (none, (.ld (some 15) (.t 14) (.one none))), (none, (.bs 16 1 [(.t 15)])), (none, (.app 17 (.t 11) (.t 16) 1 16 true true)), (none, (.mv 3 17))])) (.ops [(none, (.cp 9 4)), (none, (.bin (some 10) .add (.t 9) (.k (.int .i64 1)) false false)), (none, (.mv 4 10))])))))) (.seq (.ops [(none, (.mv 18 3)), (none, (.mv 2 18))]) .ret))))))) := by kernel_rfl
theorem c72 : compF Try.prog ow Try.f72 = (some (63, ([(.t 4)], (.seq (.ops [(none, (.set 4 (.sl .full 1 [])))]) (.seq (.ops [(none, (.cp 8 0)), (none, (.call (some 9) (.k (.func 54 [] [])) [(.t 8)] none)), (none, (.mv 5 9))]) (.seq (.seq (.ops [(none, (.set 6 (.int .i64 0)))]) (.block 0 (.loop (.seq (.seq (.ops [(none, (.cp 10 6)), (none, (.cp 11 1)), (none, (.len (some 12) (.t 11) false true)), (none, (.bin (some 13) .lss (.t 10) (.t 12) false false))]) (.cond (.t 13) .skip (.exit 0))) (.seq (.block 1 (.seq (.ops [(none, (.set 7 (.int .i64 0)))]) (.seq (.block 2 (.loop (.seq (.seq (.opsD [(none, (.cp 16 7)), (none, (.cp 17 5)), (none, (.len (some 18) (.t 17) false true)), (none, (.bin (some 19) .lss (.t 16) (.t 18) false false)), (none, (.cp 20 19)), ((some (20, true)), (.cp 21 5)), ((some (20, true)), (.cp 22 7)), ((some (20, true)), (.ia (some 23) (.t 21) (.t 22) (some 1) none)), ((some (20, true)), (.ld (some 24) (.t 23) (.one none))), ((some (20, true)), (.cp 25 1)), ((some (20, true)), (.cp 26 6)), ((some (20, true)), (.ia (some 27) (.t 25) (.t 26) (some 1) none)), ((some (20, true)), (.ld (some 28) (.t 27) (.one none))), ((some (20, true)), (.bin (some 29) .lss (.t 24) (.t 28) false false)), (none, (.pick (some 30) (.t 20) (.t 29) (.k (.bool false))))]) (.cond (.t 30) .skip (.exit 2))) (.block 3 (.ops [(none, (.cp 31 7)), (none, (.bin (some 32) .add (.t 31) (.k (.int .i64 1)) false false)), (none, (.mv 7 32))]))))) (.seq (.seq (.opsD [(none, (.cp 33 7)), (none, (.cp 34 5)), (none, (.len (some 35) (.t 34) false true)), (none, (.bin (some 36) .lss (.t 33) (.t 35) false false)), (none, (.cp 37 36)), ((some (37, true)), (.cp 38 5)), ((some (37, true)), (.cp 39 7)), ((some (37, true)), (.ia (some 40) (.t 38) (.t 39) (some 1) none)), ((some (37, true)), (.ld (some 41) (.t 40) (.one none))), ((some (37, true)), (.cp 42 1)), ((some (37, true)), (.cp 43 6)), ((some (37, true)), (.ia (some 44) (.t 42) (.t 43) (some 1) none)), ((some (37, true)), (.ld (some 45) (.t 44) (.one none))), ((some (37, true)), (.bin (some 46) .eql (.t 41) (.t 45) false false)), (none, (.pick (some 47) (.t 37) (.t 46) (.k (.bool false))))]) (.cond (.t 47) (.exit 1) .skip)) (.opsD [(none, (.cp 48 5)), (none, (.cp 49 7)), (none, (.sl (some 50) (.t 48) none (some (.t 49)) none false (some 1))), (none, (.call (some 51) (.k (.func 54 [] [])) [(.t 50)] none)), (none, (.cp 52 1)), (none, (.cp 53 6)), (none, (.ia (some 54) (.t 52) (.t 53) (some 1) none)), (none, (.ld (some 55) (.t 54) (.one none))), (none, (.bs 56 1 [(.t 55)])), (none, (.app 57 (.t 51) (.t 56) 1 16 true true)), (none, (.cp 58 5)), (none, (.cp 59 7)), (none, (.sl (some 60) (.t 58) (some (.t 59)) none none false (some 1))), (none, (.app 61 (.t 57) (.t 60) 1 16 true true)), (none, (.mv 5 61))]))))) (.ops [(none, (.cp 14 6)), (none, (.bin (some 15) .add (.t 14) (.k (.int .i64 1)) false false)), (none, (.mv 6 15))])))))) (.seq (.ops [(none, (.mv 62 5)), (none, (.mv 4 62))]) .ret))))))) := by kernel_rfl
theorem c28 : compF Try.prog ow Try.f28 = (some (27, ([(.t 2)], (.seq (.ops [(none, (.box 1 (.t 0))), (none, (.set 2 (.sl .full 1 [])))]) (.seq (.seq (.ops [(none, (.fa (some 5) (.t 1) 0)), (none, (.ld (some 6) (.t 5) (.one none))), (none, (.bin (some 7) .eql (.t 6) (.k (.int .i64 1)) false false))]) (.cond (.t 7) (.seq (.ops [(none, (.fa (some 8) (.t 1) 1)), (none, (.ld (some 9) (.t 8) (.one none))), (none, (.bs 10 1 [(.t 9)])), (none, (.mv 2 10))]) .ret) .skip)) (.seq (.ops [(none, (.set 3 (.sl .full 1 [])))]) (.seq (.seq (.ops [(none, (.set 4 (.int .i64 0)))]) (.block 0 (.loop (.seq (.seq (.ops [(none, (.cp 11 4)), (none, (.fa (some 12) (.t 1) 3)), (none, (.ld (some 13) (.t 12) (.one (some 4)))), (none, (.len (some 14) (.t 13) false true)), (none, (.bin (some 15) .lss (.t 11) (.t 14) false false))]) (.cond (.t 15) .skip (.exit 0))) (.seq (.block 1 (.ops [(none, (.cp 18 3)), (none, (.fa (some 19) (.t 1) 3)), (none, (.ld (some 20) (.t 19) (.one (some 4)))), (none, (.cp 21 4)), (none, (.ia (some 22) (.t 20) (.t 21) (some 4) none)), (none, (.ld (some 23) (.t 22) (.agg 4))), (none, (.call (some 24) (.k (.func 28 [] [])) [(.t 23)] none)), (none, (.call (some 25) (.k (.func 72 [] [])) [(.t 18), (.t 24)] none)), (none, (.mv 3 25))])) (.ops [(none, (.cp 16 4)), (none, (.bin (some 17) .add (.t 16) (.k (.int .i64 1)) false false)), (none, (.mv 4 17))])))))) (.seq (.ops [(none, (.mv 26 3)), (none, (.mv 2 26))]) .ret)))))))) := by kernel_rfl
theorem c26 : compF Try.prog ow Try.f26 = (some (7, ([(.t 2)], (.seq (.ops [(none, (.box 1 (.t 0))), (none, (.set 2 (.bool false)))]) (.seq (.ops [(none, (.ld (some 3) (.t 1) (.agg 4))), (none, (.call (some 4) (.k (.func 28 [] [])) [(.t 3)] none)), (none, (.len (some 5) (.t 4) false true)), (none, (.bin (some 6) .eql (.t 5) (.k (.int .i64 0)) false false)), (none, (.mv 2 6))]) .ret))))) := by kernel_rfl
theorem c114 : compF Try.prog ow Try.f114 = (some (18, ([(.t 2)], (.seq (.ops [(none, (.box 1 (.t 0))), (none, (.set 2 (.bool false)))]) (.seq (.ops [(none, (.fa (some 3) (.t 1) 0)), (none, (.ld (some 4) (.t 3) (.one none))), (none, (.bin (some 5) .geq (.t 4) (.k (.int .i64 (-1073741824))) false false)), (none, (.cp 6 5)), ((some (6, true)), (.fa (some 7) (.t 1) 0)), ((some (6, true)), (.ld (some 8) (.t 7) (.one none))), ((some (6, true)), (.fa (some 9) (.t 1) 1)), ((some (6, true)), (.ld (some 10) (.t 9) (.one none))), ((some (6, true)), (.bin (some 11) .leq (.t 8) (.t 10) false false)), (none, (.pick (some 12) (.t 6) (.t 11) (.k (.bool false)))), (none, (.cp 13 12)), ((some (13, true)), (.fa (some 14) (.t 1) 1)), ((some (13, true)), (.ld (some 15) (.t 14) (.one none))), ((some (13, true)), (.bin (some 16) .leq (.t 15) (.k (.int .i64 1073741824)) false false)), (none, (.pick (some 17) (.t 13) (.t 16) (.k (.bool false)))), (none, (.mv 2 17))]) .ret))))) := by kernel_rfl
theorem c98 : compF Try.prog ow Try.f98 = (some (22, ([(.t 2)], (.seq (.ops [(none, (.box 1 (.t 0))), (none, (.set 2 (.bool false)))]) (.seq (.ops [(none, (.fa (some 3) (.t 1) 0)), (none, (.fa (some 4) (.t 3) 0)), (none, (.ld (some 5) (.t 4) (.one none))), (none, (.bin (some 6) .eql (.t 5) (.k (.int .i64 3)) false false)), (none, (.cp 7 6)), ((some (7, true)), (.fa (some 8) (.t 1) 0)), ((some (7, true)), (.ld (some 9) (.t 8) (.agg 4))), ((some (7, true)), (.call (some 10) (.k (.func 23 [] [])) [(.t 9)] none)), (none, (.pick (some 11) (.t 7) (.t 10) (.k (.bool false)))), (none, (.cp 12 11)), ((some (12, true)), (.fa (some 13) (.t 1) 0)), ((some (12, true)), (.ld (some 14) (.t 13) (.agg 4))), ((some (12, true)), (.call (some 15) (.k (.func 26 [] [])) [(.t 14)] none)), (none, (.pick (some 16) (.t 12) (.t 15) (.k (.bool false)))), (none, (.cp 17 16)), ((some (17, true)), (.fa (some 18) (.t 1) 4)), ((some (17, true)), (.ld (some 19) (.t 18) (.agg 2))), ((some (17, true)), (.call (some 20) (.k (.func 114 [] [])) [(.t 19)] none)), (none, (.pick (some 21) (.t 17) (.t 20) (.k (.bool false)))), (none, (.mv 2 21))]) .ret))))) := by kernel_rfl
theorem c53 : compF Try.prog ow Try.f53 = (some (27, ([(.t 2)], (.seq (.ops [(none, (.box 1 (.t 0))), (none, (.set 2 (.bool false)))]) (.seq (.seq (.ops [(none, (.fa (some 3) (.t 1) 0)), (none, (.ld (some 4) (.t 3) (.one none)))]) (.block 0 (.seq (.seq (.ops [(none, (.bin (some 6) .eql (.t 4) (.k (.int .i64 1)) false false)), (none, (.mv 5 6))]) (.cond (.t 5) .skip (.ops [(none, (.bin (some 7) .eql (.t 4) (.k (.int .i64 3)) false false)), (none, (.mv 5 7))]))) (.cond (.t 5) (.seq (.ops [(none, (.fa (some 8) (.t 1) 7)), (none, (.ld (some 9) (.t 8) (.one none))), (none, (.bin (some 10) .eql (.t 9) (.k (.int .i64 0)) false false)), (none, (.cp 11 10)), ((some (11, true)), (.fa (some 12) (.t 1) 1)), ((some (11, true)), (.ld (some 13) (.t 12) (.agg 6))), ((some (11, true)), (.call (some 14) (.k (.func 98 [] [])) [(.t 13)] none)), (none, (.pick (some 15) (.t 11) (.t 14) (.k (.bool false)))), (none, (.mv 2 15))]) .ret) (.seq (.ops [(none, (.bin (some 17) .eql (.t 4) (.k (.int .i64 2)) false false)), (none, (.mv 16 17))]) (.cond (.t 16) (.seq (.ops [(none, (.fa (some 18) (.t 1) 7)), (none, (.ld (some 19) (.t 18) (.one none))), (none, (.call (some 20) (.k (.func 38 [] [])) [(.t 19)] none)), (none, (.cp 21 20)), ((some (21, true)), (.fa (some 22) (.t 1) 1)), ((some (21, true)), (.ld (some 23) (.t 22) (.agg 6))), ((some (21, true)), (.bld (some 24) [(.int .i64 0), (.str []), (.int .i64 0), (.sl .full 4 []), (.int .i64 0), (.int .i64 0)] [(0, 4), (4, 2)] [])), ((some (21, true)), (.call (some 25) (.k (.func 97 [] [])) [(.t 23), (.t 24)] none)), (none, (.pick (some 26) (.t 21) (.t 25) (.k (.bool false)))), (none, (.mv 2 26))]) .ret) .skip)))))) (.seq (.ops [(none, (.set 2 (.bool false)))]) .ret)))))) := by kernel_rfl
theorem c51 : compF Try.prog ow Try.f51 = (some (40, ([(.t 2)], (.seq (.ops [(none, (.box 1 (.t 0))), (none, (.set 2 (.str [])))]) (.seq (.ops [(none, (.fa (some 4) (.t 1) 0)), (none, (.ld (some 5) (.t 4) (.one none))), (none, (.cvt (some 6) (.t 5) (some .u8) false false)), (none, (.bs 7 1 [(.t 6)])), (none, (.cvt (some 8) (.t 7) none false true)), (none, (.mv 3 8))]) (.seq (.seq (.ops [(none, (.fa (some 9) (.t 1) 0)), (none, (.ld (some 10) (.t 9) (.one none))), (none, (.bin (some 11) .eql (.t 10) (.k (.int .i64 2)) false false))]) (.cond (.t 11) (.ops [(none, (.cp 12 3)), (none, (.fa (some 13) (.t 1) 7)), (none, (.ld (some 14) (.t 13) (.one none))), (none, (.call (some 15) (.k (.func 39 [] [])) [(.t 14)] none)), (none, (.bin (some 16) .add (.t 12) (.t 15) false false)), (none, (.mv 3 16))]) (.opsD [(none, (.cp 17 3)), (none, (.fa (some 18) (.t 1) 1)), (none, (.fa (some 19) (.t 18) 0)), (none, (.ld (some 20) (.t 19) (.agg 4))), (none, (.call (some 21) (.k (.func 43 [] [])) [(.t 20)] none)), (none, (.bin (some 22) .add (.t 17) (.t 21) false false)), (none, (.fa (some 23) (.t 1) 1)), (none, (.fa (some 24) (.t 23) 4)), (none, (.fa (some 25) (.t 24) 0)), (none, (.ld (some 26) (.t 25) (.one none))), (none, (.call (some 27) (.k (.func 39 [] [])) [(.t 26)] none)), (none, (.bin (some 28) .add (.t 22) (.t 27) false false)), (none, (.fa (some 29) (.t 1) 1)), (none, (.fa (some 30) (.t 29) 4)), (none, (.fa (some 31) (.t 30) 1)), (none, (.ld (some 32) (.t 31) (.one none))), (none, (.call (some 33) (.k (.func 39 [] [])) [(.t 32)] none)), (none, (.bin (some 34) .add (.t 28) (.t 33) false false)), (none, (.mv 3 34))]))) (.seq (.ops [(none, (.cp 35 3)), (none, (.len (some 36) (.t 35) true false)), (none, (.call (some 37) (.k (.func 39 [] [])) [(.t 36)] none)), (none, (.cp 38 3)), (none, (.bin (some 39) .add (.t 37) (.t 38) false false)), (none, (.mv 2 39))]) .ret))))))) := by kernel_rfl
mutual
def hasV : T → Bool | .mk k n v l => k == 1 || hasVs l
def hasVs : List T → Bool | [] => false | t :: l => hasV t || hasVs l
end
theorem hasVs_no : ∀ {l : List T}, hasVs l = false → ∀ t ∈ l, hasV t = false
  | [], _, t, h => by cases h
  | u :: l, h, t, ht => by
    rw [hasVs, Bool.or_eq_false_iff] at h
    rcases List.mem_cons.1 ht with rfl | ht
    · exact h.1
    · exact hasVs_no h.2 t ht
theorem fn_CopyNil (fl : Fl) : PFn Try.prog 54 [.sl fl 1 []] (.sl .full 1 []) := by
  refine pfn_fk ?_
  intro h
  simp only [List.map_cons, List.map_nil, fk, fkL]
  refine fnC mixed Try.func54 c54 (by simp) ?_
  simp only [go_sem, Nat.reduceEqDiff, Nat.reduceAdd, Nat.reduceLeDiff, Nat.reduceLT, ↓reduceIte, reduceCtorEq, Int.reduceLT, Int.reduceToNat, Int.reduceEq, Int.reduceBEq, Int.reduceBNe, Nat.reduceBEq]
  refine cloop (fun k t => t.fr 0 = .sl .sh 1 [] ∧ t.fr 3 = .sl .full 1 [] ∧ t.fr 4 = .int .i64 0 ∧ t.hp = h) 0 ⟨by simp [fr_apply, argsF, strip], by simp [fr_apply], by simp [fr_apply], rfl⟩ ?_
  rintro k ⟨f, hp⟩ ⟨f0, f3, f4, rfl⟩
  simp only at f0 f3 f4
  simp only [go_sem, Nat.reduceEqDiff, Nat.reduceAdd, Nat.reduceLeDiff, Nat.reduceLT, ↓reduceIte, reduceCtorEq, Int.reduceLT, Int.reduceToNat, Int.reduceEq, Int.reduceBEq, Int.reduceBNe, Nat.reduceBEq, f0, f3, f4, Int.lt_irrefl, decide_false]
theorem fn_NamesNil : PFn Try.prog 72 [.sl .sh 1 [], .sl .sh 1 []] (.sl .full 1 []) := by
  intro h
  refine fnC mixed Try.func72 c72 (by simp) ?_
  simp only [go_sem, Nat.reduceEqDiff, Nat.reduceAdd, Nat.reduceLeDiff, Nat.reduceLT, ↓reduceIte, reduceCtorEq, Int.reduceLT, Int.reduceToNat, Int.reduceEq, Int.reduceBEq, Int.reduceBNe, Nat.reduceBEq]
  refine pcall (fn_CopyNil .sh) (by simp only [go_sem, Nat.reduceEqDiff, Nat.reduceAdd, Nat.reduceLeDiff, Nat.reduceLT, ↓reduceIte, reduceCtorEq, Int.reduceLT, Int.reduceToNat, Int.reduceEq, Int.reduceBEq, Int.reduceBNe, Nat.reduceBEq]) ?_
  simp only [go_sem, Nat.reduceEqDiff, Nat.reduceAdd, Nat.reduceLeDiff, Nat.reduceLT, ↓reduceIte, reduceCtorEq, Int.reduceLT, Int.reduceToNat, Int.reduceEq, Int.reduceBEq, Int.reduceBNe, Nat.reduceBEq]
  refine cloop (fun k t => t.fr 1 = .sl .sh 1 [] ∧ t.fr 5 = .sl .full 1 [] ∧ t.fr 6 = .int .i64 0 ∧ t.hp = h) 0 ⟨by simp [fr_apply, argsF, strip], by simp [fr_apply], by simp [fr_apply], rfl⟩ ?_
  rintro k ⟨f, hp⟩ ⟨f0, f3, f4, rfl⟩
  simp only at f0 f3 f4
  simp only [go_sem, Nat.reduceEqDiff, Nat.reduceAdd, Nat.reduceLeDiff, Nat.reduceLT, ↓reduceIte, reduceCtorEq, Int.reduceLT, Int.reduceToNat, Int.reduceEq, Int.reduceBEq, Int.reduceBNe, Nat.reduceBEq, f0, f3, f4, Int.lt_irrefl, decide_false]
theorem fn_NamesNilF (a b : Fl) : PFn Try.prog 72 [.sl a 1 [], .sl b 1 []] (.sl .full 1 []) := by
  refine pfn_fk ?_
  simp only [List.map_cons, List.map_nil, fk, fkL]
  exact fn_NamesNil
theorem fn_Vars0 : ∀ t : T, t.ok → hasV t = false → PFn Try.prog 28 [t.av] (.sl .full 1 []) := by
  refine T.ind ?_
  intro k n v l ih hok hv h
  rw [ok_mk] at hok
  rw [hasV, Bool.or_eq_false_iff] at hv
  have hvl := hasVs_no hv.2
  have k1 := hv.1
  rw [av_mk]
  refine fnC mixed Try.func28 c28 (by simp) ?_
  simp only [go_sem, Nat.reduceEqDiff, Nat.reduceAdd, Nat.reduceLeDiff, Nat.reduceLT, ↓reduceIte, reduceCtorEq, Int.reduceLT, Int.reduceToNat, Int.reduceEq, Int.reduceBEq, Int.reduceBNe, Nat.reduceBEq, k1]
  refine cloop (fun k' t => ∃ i : Nat, i + k' = l.length ∧ t.fr 1 = .ptr h.n 0 ∧ t.fr 3 = .sl .full 1 [] ∧ t.fr 4 = .int .i64 (i : Nat) ∧ t.hp = ⟨h.n + 1, updB h.bk h.n (.cells [.int .i64 k, .str n, .int .i64 v, .sl .sh 4 (l.map T.av)])⟩) l.length ⟨0, by simp [fr_apply, argsF]⟩ ?_
  rintro k' ⟨f, hp⟩ ⟨i, hk, f1, f3, f4, rfl⟩
  simp only at f1 f3 f4
  by_cases hi : i < l.length
  · have hi' : decide ((i : Int) < (l.length : Int)) = true := decide_eq_true (by omega)
    have hw1 : IntKind.i64.wrap ((i : Int) + 1) = ((i + 1 : Nat) : Int) := by rw [wrap64] <;> omega
    simp only [go_sem, Nat.reduceEqDiff, Nat.reduceAdd, Nat.reduceLeDiff, Nat.reduceLT, ↓reduceIte, reduceCtorEq, Int.reduceLT, Int.reduceToNat, Int.reduceEq, Int.reduceBEq, Int.reduceBNe, Nat.reduceBEq, f1, f3, f4, hi', getAv hi]
    refine pcall (ih _ (List.getElem_mem hi) (hok.2.2 _ (List.getElem_mem hi)) (hvl _ (List.getElem_mem hi))) (by simp only [go_sem, Nat.reduceEqDiff, Nat.reduceAdd, Nat.reduceLeDiff, Nat.reduceLT, ↓reduceIte, reduceCtorEq, Int.reduceLT, Int.reduceToNat, Int.reduceEq, Int.reduceBEq, Int.reduceBNe, Nat.reduceBEq]) ?_
    simp only [go_sem, Nat.reduceEqDiff, Nat.reduceAdd, Nat.reduceLeDiff, Nat.reduceLT, ↓reduceIte, reduceCtorEq, Int.reduceLT, Int.reduceToNat, Int.reduceEq, Int.reduceBEq, Int.reduceBNe, Nat.reduceBEq, f1, f3, f4]
    refine pcall (fn_NamesNilF .full .full) (by simp only [go_sem, Nat.reduceEqDiff, Nat.reduceAdd, Nat.reduceLeDiff, Nat.reduceLT, ↓reduceIte, reduceCtorEq, Int.reduceLT, Int.reduceToNat, Int.reduceEq, Int.reduceBEq, Int.reduceBNe, Nat.reduceBEq]) ?_
    simp only [go_sem, Nat.reduceEqDiff, Nat.reduceAdd, Nat.reduceLeDiff, Nat.reduceLT, ↓reduceIte, reduceCtorEq, Int.reduceLT, Int.reduceToNat, Int.reduceEq, Int.reduceBEq, Int.reduceBNe, Nat.reduceBEq, f1, f3, f4, hw1]
    exact ⟨k' - 1, by omega, i + 1, by omega, rfl⟩
  · have hi' : decide ((i : Int) < (l.length : Int)) = false := decide_eq_false (by omega)
    simp only [go_sem, Nat.reduceEqDiff, Nat.reduceAdd, Nat.reduceLeDiff, Nat.reduceLT, ↓reduceIte, reduceCtorEq, Int.reduceLT, Int.reduceToNat, Int.reduceEq, Int.reduceBEq, Int.reduceBNe, Nat.reduceBEq, f1, f3, f4, hi']
theorem fn_Ground0 (t : T) (ht : t.ok) (hv : hasV t = false) : PFn Try.prog 26 [t.av] (.bool true) := by
  intro h
  have hV := fn_Vars0 t ht hv
  obtain ⟨tk, tn, tv, tl⟩ := t
  rw [av_mk] at hV ⊢
  refine fnC mixed Try.func26 c26 (by simp) ?_
  simp only [go_sem, Nat.reduceEqDiff, Nat.reduceAdd, Nat.reduceLeDiff, Nat.reduceLT, ↓reduceIte, reduceCtorEq, Int.reduceLT, Int.reduceToNat, Int.reduceEq, Int.reduceBEq, Int.reduceBNe, Nat.reduceBEq]
  refine pcall hV (by simp only [go_sem, Nat.reduceEqDiff, Nat.reduceAdd, Nat.reduceLeDiff, Nat.reduceLT, ↓reduceIte, reduceCtorEq, Int.reduceLT, Int.reduceToNat, Int.reduceEq, Int.reduceBEq, Int.reduceBNe, Nat.reduceBEq]) ?_
  simp only [go_sem, Nat.reduceEqDiff, Nat.reduceAdd, Nat.reduceLeDiff, Nat.reduceLT, ↓reduceIte, reduceCtorEq, Int.reduceLT, Int.reduceToNat, Int.reduceEq, Int.reduceBEq, Int.reduceBNe, Nat.reduceBEq]
theorem fn_rSpan (a b : Int) : PFn Try.prog 114 [.agg [.int .i64 a, .int .i64 b]] (.bool (spanB a b)) := by
  intro h
  refine fnC mixed Try.func114 c114 (by simp) ?_
  unfold spanB
  simp only [go_sem, Nat.reduceEqDiff, Nat.reduceAdd, Nat.reduceLeDiff, Nat.reduceLT, ↓reduceIte, reduceCtorEq, Int.reduceLT, Int.reduceToNat, Int.reduceEq, Int.reduceBEq, Int.reduceBNe, Nat.reduceBEq]
  refine cog (fun h1 => ?_) (fun h1 => ?_)
  · simp only [go_sem, Nat.reduceEqDiff, Nat.reduceAdd, Nat.reduceLeDiff, Nat.reduceLT, ↓reduceIte, reduceCtorEq, Int.reduceLT, Int.reduceToNat, Int.reduceEq, Int.reduceBEq, Int.reduceBNe, Nat.reduceBEq, h1]
    refine cog (fun h2 => ?_) (fun h2 => ?_)
    · simp only [go_sem, Nat.reduceEqDiff, Nat.reduceAdd, Nat.reduceLeDiff, Nat.reduceLT, ↓reduceIte, reduceCtorEq, Int.reduceLT, Int.reduceToNat, Int.reduceEq, Int.reduceBEq, Int.reduceBNe, Nat.reduceBEq, h1, h2]
    · simp only [go_sem, Nat.reduceEqDiff, Nat.reduceAdd, Nat.reduceLeDiff, Nat.reduceLT, ↓reduceIte, reduceCtorEq, Int.reduceLT, Int.reduceToNat, Int.reduceEq, Int.reduceBEq, Int.reduceBNe, Nat.reduceBEq, h1, h2]
  · simp only [go_sem, Nat.reduceEqDiff, Nat.reduceAdd, Nat.reduceLeDiff, Nat.reduceLT, ↓reduceIte, reduceCtorEq, Int.reduceLT, Int.reduceToNat, Int.reduceEq, Int.reduceBEq, Int.reduceBNe, Nat.reduceBEq, h1]
theorem fn_rFact0 (t : T) (a b : Int) (ht : t.ok) (hv : hasV t = false) : PFn Try.prog 98 [facA t a b] (.bool (kindT t == 3 && (mayB t && spanB a b))) := by
  intro h
  have hM := fn_rTerm t ht
  have hG := fn_Ground0 t ht hv
  obtain ⟨tk, tn, tv, tl⟩ := t
  unfold facA kindT
  rw [av_mk] at hM hG
  simp only
  generalize mayB (T.mk tk tn tv tl) = m at *
  refine fnC mixed Try.func98 c98 (by simp) ?_
  simp only [go_sem, Nat.reduceEqDiff, Nat.reduceAdd, Nat.reduceLeDiff, Nat.reduceLT, ↓reduceIte, reduceCtorEq, Int.reduceLT, Int.reduceToNat, Int.reduceEq, Int.reduceBEq, Int.reduceBNe, Nat.reduceBEq]
  cases hk : (tk == 3) with
  | false => simp only [go_sem, Nat.reduceEqDiff, Nat.reduceAdd, Nat.reduceLeDiff, Nat.reduceLT, ↓reduceIte, reduceCtorEq, Int.reduceLT, Int.reduceToNat, Int.reduceEq, Int.reduceBEq, Int.reduceBNe, Nat.reduceBEq, hk]
  | true =>
    simp only [go_sem, Nat.reduceEqDiff, Nat.reduceAdd, Nat.reduceLeDiff, Nat.reduceLT, ↓reduceIte, reduceCtorEq, Int.reduceLT, Int.reduceToNat, Int.reduceEq, Int.reduceBEq, Int.reduceBNe, Nat.reduceBEq, hk]
    refine pcall hM (by simp only [go_sem, Nat.reduceEqDiff, Nat.reduceAdd, Nat.reduceLeDiff, Nat.reduceLT, ↓reduceIte, reduceCtorEq, Int.reduceLT, Int.reduceToNat, Int.reduceEq, Int.reduceBEq, Int.reduceBNe, Nat.reduceBEq]) ?_
    cases m with
    | false => simp only [go_sem, Nat.reduceEqDiff, Nat.reduceAdd, Nat.reduceLeDiff, Nat.reduceLT, ↓reduceIte, reduceCtorEq, Int.reduceLT, Int.reduceToNat, Int.reduceEq, Int.reduceBEq, Int.reduceBNe, Nat.reduceBEq]
    | true =>
      simp only [go_sem, Nat.reduceEqDiff, Nat.reduceAdd, Nat.reduceLeDiff, Nat.reduceLT, ↓reduceIte, reduceCtorEq, Int.reduceLT, Int.reduceToNat, Int.reduceEq, Int.reduceBEq, Int.reduceBNe, Nat.reduceBEq]
      refine pcall hG (by simp only [go_sem, Nat.reduceEqDiff, Nat.reduceAdd, Nat.reduceLeDiff, Nat.reduceLT, ↓reduceIte, reduceCtorEq, Int.reduceLT, Int.reduceToNat, Int.reduceEq, Int.reduceBEq, Int.reduceBNe, Nat.reduceBEq]) ?_
      simp only [go_sem, Nat.reduceEqDiff, Nat.reduceAdd, Nat.reduceLeDiff, Nat.reduceLT, ↓reduceIte, reduceCtorEq, Int.reduceLT, Int.reduceToNat, Int.reduceEq, Int.reduceBEq, Int.reduceBNe, Nat.reduceBEq]
      refine pcall (fn_rSpan a b) (by simp only [go_sem, Nat.reduceEqDiff, Nat.reduceAdd, Nat.reduceLeDiff, Nat.reduceLT, ↓reduceIte, reduceCtorEq, Int.reduceLT, Int.reduceToNat, Int.reduceEq, Int.reduceBEq, Int.reduceBNe, Nat.reduceBEq]) ?_
      simp only [go_sem, Nat.reduceEqDiff, Nat.reduceAdd, Nat.reduceLeDiff, Nat.reduceLT, ↓reduceIte, reduceCtorEq, Int.reduceLT, Int.reduceToNat, Int.reduceEq, Int.reduceBEq, Int.reduceBNe, Nat.reduceBEq]
theorem fn_rFrame0 (t : T) (a b : Int) (ht : t.ok) (hv : hasV t = false) : PFn Try.prog 53 [frA 3 t a b 0] (.bool (kindT t == 3 && (mayB t && spanB a b))) := by
  intro h
  have hF := fn_rFact0 t a b ht hv
  generalize (kindT t == 3 && (mayB t && spanB a b)) = m at *
  obtain ⟨tk, tn, tv, tl⟩ := t
  unfold facA at hF
  unfold frA
  simp only at hF ⊢
  refine fnC mixed Try.func53 c53 (by simp) ?_
  simp only [go_sem, Nat.reduceEqDiff, Nat.reduceAdd, Nat.reduceLeDiff, Nat.reduceLT, ↓reduceIte, reduceCtorEq, Int.reduceLT, Int.reduceToNat, Int.reduceEq, Int.reduceBEq, Int.reduceBNe, Nat.reduceBEq]
  refine pcall hF (by simp only [go_sem, Nat.reduceEqDiff, Nat.reduceAdd, Nat.reduceLeDiff, Nat.reduceLT, ↓reduceIte, reduceCtorEq, Int.reduceLT, Int.reduceToNat, Int.reduceEq, Int.reduceBEq, Int.reduceBNe, Nat.reduceBEq]) ?_
  simp only [go_sem, Nat.reduceEqDiff, Nat.reduceAdd, Nat.reduceLeDiff, Nat.reduceLT, ↓reduceIte, reduceCtorEq, Int.reduceLT, Int.reduceToNat, Int.reduceEq, Int.reduceBEq, Int.reduceBNe, Nat.reduceBEq]
theorem fn_rBytes (k : Int) (t : T) (a b : Int) (ht : t.ok) (hm : okFr k t a b 0 = true) (hk : k = 1 ∨ k = 3) : PFn Try.prog 51 [frA k t a b 0] (.str (frS k t a b 0)) := by
  intro h
  obtain ⟨hL1, hL2⟩ := bodyL_le hm
  obtain ⟨h1, _, h2, h3, h4⟩ : (k = 1 ∨ k = 3) ∧ (0 : Int) = 0 ∧ okFa t a b = true ∧ mayB t = true ∧ (-1073741824 ≤ a ∧ a ≤ b ∧ b ≤ 1073741824) := by
    rcases okFr_facts hm with ⟨e, _⟩ | e
    · omega
    · exact e
  obtain ⟨g1, g2, _⟩ := may_len h3
  have hE := fn_renc t ht g1 (by omega)
  have q1 := vb5 (n := a) (by omega) (by omega)
  have q2 := vb5 (n := b) (by omega) (by omega)
  have q3 := vb5 (n := bodyL k t a b 0) (by omega) (by omega)
  have wk : IntKind.u8.wrap k = k := w8 (by omega) (by omega)
  have k2 : (k == 2) = false := by simp; omega
  have hB : UInt8.ofNat k.toNat :: (u8s (enc t) ++ (vbs (zz a) ++ vbs (zz b))) = u8s (body k t a b 0) := by
    unfold body; rw [if_neg (by omega), u8_cons, u8_app, u8_app, u8_vb, u8_vb]
  have l1 : (u8s (enc t)).length ≤ 456 := by unfold u8s; rw [List.length_map]; exact g2
  have l2 : (vbs (zz a)).length ≤ 5 := by unfold vbs u8s; rw [List.length_map]; exact q1
  have l3 : (vbs (zz b)).length ≤ 5 := by unfold vbs u8s; rw [List.length_map]; exact q2
  have l4 : (vbs (zz (bodyL k t a b 0))).length ≤ 5 := by unfold vbs u8s; rw [List.length_map]; exact q3
  have hlen : (u8s (enc t)).length + ((vbs (zz a)).length + (vbs (zz b)).length) + 1 = (body k t a b 0).length := by
    have := congrArg List.length hB
    simp only [List.length_cons, List.length_append] at this
    unfold u8s at this ⊢
    simp only [List.length_map] at this ⊢
    omega
  have hL := fn_rNumber (bodyL k t a b 0) (by omega) (by omega)
  unfold frS
  unfold bodyL at hL hL1 hL2 l4 ⊢
  obtain ⟨tk, tn, tv, tl⟩ := t
  rw [av_mk] at hE
  unfold frA
  generalize enc (T.mk tk tn tv tl) = E at *
  generalize body k (T.mk tk tn tv tl) a b 0 = B at *
  refine fnC mixed Try.func51 c51 (by simp) ?_
  have b1 := bytes1 (k := k)
  simp only [go_sem, Nat.reduceEqDiff, Nat.reduceAdd, Nat.reduceLeDiff, Nat.reduceLT, ↓reduceIte, reduceCtorEq, Int.reduceLT, Int.reduceToNat, Int.reduceEq, Int.reduceBEq, Int.reduceBNe, Nat.reduceBEq, wk, b1, k2]
  refine pcallD hE (by simp only [go_sem, Nat.reduceEqDiff, Nat.reduceAdd, Nat.reduceLeDiff, Nat.reduceLT, ↓reduceIte, reduceCtorEq, Int.reduceLT, Int.reduceToNat, Int.reduceEq, Int.reduceBEq, Int.reduceBNe, Nat.reduceBEq]) ?_
  have p1 : 1 + (u8s E).length ≤ 9223372036854775807 := by omega
  simp only [go_sem, Nat.reduceEqDiff, Nat.reduceAdd, Nat.reduceLeDiff, Nat.reduceLT, ↓reduceIte, reduceCtorEq, Int.reduceLT, Int.reduceToNat, Int.reduceEq, Int.reduceBEq, Int.reduceBNe, Nat.reduceBEq, p1]
  refine pcallD (fn_rNumber a (by omega) (by omega)) (by simp only [go_sem, Nat.reduceEqDiff, Nat.reduceAdd, Nat.reduceLeDiff, Nat.reduceLT, ↓reduceIte, reduceCtorEq, Int.reduceLT, Int.reduceToNat, Int.reduceEq, Int.reduceBEq, Int.reduceBNe, Nat.reduceBEq]) ?_
  have p2 : 1 + ((u8s E).length + (vbs (zz a)).length) ≤ 9223372036854775807 := by omega
  have p2' : (u8s E).length + (1 + (vbs (zz a)).length) ≤ 9223372036854775807 := by omega
  simp only [go_sem, Nat.reduceEqDiff, Nat.reduceAdd, Nat.reduceLeDiff, Nat.reduceLT, ↓reduceIte, reduceCtorEq, Int.reduceLT, Int.reduceToNat, Int.reduceEq, Int.reduceBEq, Int.reduceBNe, Nat.reduceBEq, p2, p2', List.length_append]
  refine pcallD (fn_rNumber b (by omega) (by omega)) (by simp only [go_sem, Nat.reduceEqDiff, Nat.reduceAdd, Nat.reduceLeDiff, Nat.reduceLT, ↓reduceIte, reduceCtorEq, Int.reduceLT, Int.reduceToNat, Int.reduceEq, Int.reduceBEq, Int.reduceBNe, Nat.reduceBEq]) ?_
  have p3 : (u8s E).length + ((vbs (zz a)).length + (1 + (vbs (zz b)).length)) ≤ 9223372036854775807 := by omega
  have hB' : UInt8.ofNat k.toNat :: (u8s E ++ vbs (zz a) ++ vbs (zz b)) = u8s B := by rw [List.append_assoc]; exact hB
  have hl : (u8s B).length = B.length := by simp [u8s]
  simp only [go_sem, Nat.reduceEqDiff, Nat.reduceAdd, Nat.reduceLeDiff, Nat.reduceLT, ↓reduceIte, reduceCtorEq, Int.reduceLT, Int.reduceToNat, Int.reduceEq, Int.reduceBEq, Int.reduceBNe, Nat.reduceBEq, p3, List.length_append, hB', hl]
  refine pcall hL (by simp only [go_sem, Nat.reduceEqDiff, Nat.reduceAdd, Nat.reduceLeDiff, Nat.reduceLT, ↓reduceIte, reduceCtorEq, Int.reduceLT, Int.reduceToNat, Int.reduceEq, Int.reduceBEq, Int.reduceBNe, Nat.reduceBEq]) ?_
  have p4 : (vbs (zz (B.length : Int))).length + B.length ≤ 9223372036854775807 := by omega
  simp only [go_sem, Nat.reduceEqDiff, Nat.reduceAdd, Nat.reduceLeDiff, Nat.reduceLT, ↓reduceIte, reduceCtorEq, Int.reduceLT, Int.reduceToNat, Int.reduceEq, Int.reduceBEq, Int.reduceBNe, Nat.reduceBEq, p4, hl]
end Go.Proofs.Ythaoooohomfkcaa.Ab
