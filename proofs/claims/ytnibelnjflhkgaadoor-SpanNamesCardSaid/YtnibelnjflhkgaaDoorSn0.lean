/- Names of relations: the small functions. No condition. -/
import Derived.Test.YtnibelnjflhkgaaDoorNx2
namespace Go.Proofs.YtnibelnjflhkgaaDoor.Ab
set_option linter.unusedVariables false
set_option linter.unusedSimpArgs false
set_option maxRecDepth 10000
attribute [local go_sem] decide_true decide_false Nat.zero_le Bool.not_true Bool.not_false Bool.false_eq_true if_false if_true forall_const true_and and_true List.map Option.map Bool.and_self Bool.and_true Bool.true_and Bool.false_and Bool.and_false List.getElem?_cons_zero List.getElem?_nil List.getElem?_cons_succ Int.natCast_nonneg Int.toNat_natCast List.length_map List.length_cons List.length_nil Nat.zero_add Nat.le_refl List.drop_zero List.drop_succ_cons List.take_succ_cons List.take_zero List.take_nil ne_eq not_true_eq_false not_false_eq_true upd_same Nat.add_assoc Nat.left_eq_add Nat.add_eq_left Nat.add_left_cancel_iff Nat.succ_ne_self Nat.one_ne_zero Nat.add_zero Nat.le_add_right ite_self List.set_cons_zero List.set_cons_succ List.all_cons List.all_nil bne_self_eq_false List.isEmpty_cons Int.cast_ofNat_Int Nat.mul_one List.nil_append or_self or_true true_or List.cons_append List.append_nil Option.none_beq_some Option.some_beq_some beq_self_eq_true
theorem c14 : compF Tryd.prog ow Tryd.f14 = (some (9, ([(.t 2), (.t 3)], (.seq (.ops [(none, (.set 2 (.str []))), (none, (.set 3 (.int .i64 0)))]) (.seq (.seq (.ops [(none, (.cp 4 0)), (none, (.call (some 5) (.k (.func 28 [] [])) [(.t 4)] none)), (none, (.un (some 6) .not (.t 5)))]) (.cond (.t 6) (.seq (.ops [(none, (.set 2 (.str []))), (none, (.set 3 (.int .i64 1)))]) .ret) .skip)) (.seq (.ops [(none, (.cp 7 0)), (none, (.call (some 8) (.k (.func 29 [] [])) [(.t 7)] none)), (none, (.mv 2 8)), (none, (.set 3 (.int .i64 0)))]) .ret)))))) := by kernel_rfl
theorem c15 : compF Tryd.prog ow Tryd.f15 = (some (9, ([(.t 2), (.t 3)], (.seq (.ops [(none, (.set 2 (.int .i64 0))), (none, (.set 3 (.int .i64 0)))]) (.seq (.seq (.ops [(none, (.cp 4 0)), (none, (.call (some 5) (.k (.func 28 [] [])) [(.t 4)] none)), (none, (.un (some 6) .not (.t 5)))]) (.cond (.t 6) (.seq (.ops [(none, (.set 2 (.int .i64 0))), (none, (.set 3 (.int .i64 1)))]) .ret) .skip)) (.seq (.ops [(none, (.cp 7 0)), (none, (.call (some 8) (.k (.func 30 [] [])) [(.t 7)] none)), (none, (.mv 2 8)), (none, (.set 3 (.int .i64 0)))]) .ret)))))) := by kernel_rfl
theorem c16 : compF Tryd.prog ow Tryd.f16 = (some (5, ([(.t 2)], (.seq (.ops [(none, (.set 2 (.bool false)))]) (.seq (.ops [(none, (.cp 3 0)), (none, (.call (some 4) (.k (.func 31 [] [])) [(.t 3), (.k (.int .i64 1)), (.k (.int .i64 13))] none)), (none, (.mv 2 4))]) .ret))))) := by kernel_rfl
theorem c17 : compF Tryd.prog ow Tryd.f17 = (some (2, ([(.t 0)], (.seq (.ops [(none, (.set 0 (.sl .full 1 [])))]) (.seq (.ops [(none, (.bs 1 1 [(.k (.str [98, 101, 102, 111, 114, 101])), (.k (.str [109, 101, 101, 116, 115])), (.k (.str [111, 118, 101, 114, 108, 97, 112, 115])), (.k (.str [115, 116, 97, 114, 116, 115])), (.k (.str [100, 117, 114, 105, 110, 103])), (.k (.str [101, 110, 100, 115])), (.k (.str [101, 113, 117, 97, 108])), (.k (.str [101, 110, 100, 101, 100])), (.k (.str [104, 111, 108, 100, 115])), (.k (.str [115, 116, 97, 114, 116, 101, 100])), (.k (.str [111, 118, 101, 114, 108, 97, 112, 112, 101, 100])), (.k (.str [109, 101, 116])), (.k (.str [97, 102, 116, 101, 114]))])), (none, (.mv 0 1))]) .ret))))) := by kernel_rfl
theorem c18 : compF Tryd.prog ow Tryd.f18 = (some (5, ([(.t 2)], (.seq (.ops [(none, (.set 2 (.int .i64 0)))]) (.seq (.ops [(none, (.cp 3 0)), (none, (.bin (some 4) .sub (.k (.int .i64 14)) (.t 3) false false)), (none, (.mv 2 4))]) .ret))))) := by kernel_rfl
theorem c19 : compF Tryd.prog ow Tryd.f19 = (some (4, ([(.t 2)], (.seq (.ops [(none, (.set 2 (.int .i64 0)))]) (.seq (.ops [(none, (.mv 3 0)), (none, (.mv 2 3))]) .ret))))) := by kernel_rfl
theorem c20 : compF Tryd.prog ow Tryd.f20 = (some (19, ([(.t 2), (.t 3)], (.seq (.ops [(none, (.set 2 (.int .i64 0))), (none, (.set 3 (.int .i64 0)))]) (.seq (.seq (.ops [(none, (.call (some 6) (.k (.func 32 [] [])) [(.k (.str [98, 101, 102, 111, 114, 101, 32, 109, 101, 101, 116, 115, 32, 111, 118, 101, 114, 108, 97, 112, 115, 32, 115, 116, 97, 114, 116, 115, 32, 100, 117, 114, 105, 110, 103, 32, 101, 110, 100, 115, 32, 101, 113, 117, 97, 108, 32, 101, 110, 100, 101, 100, 32, 104, 111, 108, 100, 115, 32, 115, 116, 97, 114, 116, 101, 100, 32, 111, 118, 101, 114, 108, 97, 112, 112, 101, 100, 32, 109, 101, 116, 32, 97, 102, 116, 101, 114]))] none)), (none, (.len (some 7) (.t 6) false true)), (none, (.set 8 (.int .i64 0)))]) (.block 0 (.loop (.seq (.ops [(none, (.bin (some 9) .lss (.t 8) (.t 7) false false))]) (.seq (.cond (.t 9) .skip (.exit 0)) (.seq (.block 1 (.seq (.ops [(none, (.mv 10 8)), (none, (.ia (some 11) (.t 6) (.t 8) (some 1) none)), (none, (.ld (some 12) (.t 11) (.one none))), (none, (.mv 4 10)), (none, (.mv 5 12))]) (.seq (.ops [(none, (.cp 13 5)), (none, (.cp 14 0)), (none, (.bin (some 15) .eql (.t 13) (.t 14) false false))]) (.cond (.t 15) (.seq (.ops [(none, (.cp 16 4)), (none, (.bin (some 17) .add (.t 16) (.k (.int .i64 1)) false false)), (none, (.mv 2 17)), (none, (.set 3 (.int .i64 0)))]) .ret) .skip)))) (.ops [(none, (.bin (some 18) .add (.t 8) (.k (.int .i64 1)) false false)), (none, (.cp 8 18))]))))))) (.seq (.ops [(none, (.set 2 (.int .i64 0))), (none, (.set 3 (.int .i64 3)))]) .ret)))))) := by kernel_rfl
theorem c21 : compF Tryd.prog ow Tryd.f21 = (some (20, ([(.t 2)], (.seq (.ops [(none, (.set 2 (.int .i64 0)))]) (.seq (.ops [(none, (.call (some 5) (.k (.func 17 [] [])) [] (some 0))), (none, (.mv 3 5))]) (.seq (.seq (.ops [(none, (.set 4 (.int .i64 0)))]) (.block 0 (.loop (.seq (.seq (.ops [(none, (.cp 6 4)), (none, (.cp 7 3)), (none, (.len (some 8) (.t 7) false true)), (none, (.bin (some 9) .lss (.t 6) (.t 8) false false))]) (.cond (.t 9) .skip (.exit 0))) (.seq (.block 1 (.seq (.ops [(none, (.cp 12 3)), (none, (.cp 13 4)), (none, (.ia (some 14) (.t 12) (.t 13) (some 1) none)), (none, (.ld (some 15) (.t 14) (.one none))), (none, (.cp 16 0)), (none, (.bin (some 17) .eql (.t 15) (.t 16) false false))]) (.cond (.t 17) (.seq (.ops [(none, (.cp 18 4)), (none, (.bin (some 19) .add (.t 18) (.k (.int .i64 1)) false false)), (none, (.mv 2 19))]) .ret) .skip))) (.ops [(none, (.cp 10 4)), (none, (.bin (some 11) .add (.t 10) (.k (.int .i64 1)) false false)), (none, (.mv 4 11))])))))) (.seq (.ops [(none, (.set 2 (.int .i64 0)))]) .ret))))))) := by kernel_rfl
theorem c28 : compF Tryd.prog ow Tryd.f28 = (some (9, ([(.t 2)], (.seq (.ops [(none, (.set 2 (.bool false)))]) (.seq (.ops [(none, (.cp 3 0)), (none, (.bin (some 4) .geq (.t 3) (.k (.int .i64 1)) false false)), (none, (.cp 5 4)), ((some (5, true)), (.cp 6 0)), ((some (5, true)), (.bin (some 7) .leq (.t 6) (.k (.int .i64 13)) false false)), (none, (.pick (some 8) (.t 5) (.t 7) (.k (.bool false)))), (none, (.mv 2 8))]) .ret))))) := by kernel_rfl
theorem c29 : compF Tryd.prog ow Tryd.f29 = (some (8, ([(.t 2)], (.seq (.ops [(none, (.set 2 (.str [])))]) (.seq (.ops [(none, (.call (some 3) (.k (.func 32 [] [])) [(.k (.str [98, 101, 102, 111, 114, 101, 32, 109, 101, 101, 116, 115, 32, 111, 118, 101, 114, 108, 97, 112, 115, 32, 115, 116, 97, 114, 116, 115, 32, 100, 117, 114, 105, 110, 103, 32, 101, 110, 100, 115, 32, 101, 113, 117, 97, 108, 32, 101, 110, 100, 101, 100, 32, 104, 111, 108, 100, 115, 32, 115, 116, 97, 114, 116, 101, 100, 32, 111, 118, 101, 114, 108, 97, 112, 112, 101, 100, 32, 109, 101, 116, 32, 97, 102, 116, 101, 114]))] none)), (none, (.cp 4 0)), (none, (.bin (some 5) .sub (.t 4) (.k (.int .i64 1)) false false)), (none, (.ia (some 6) (.t 3) (.t 5) (some 1) none)), (none, (.ld (some 7) (.t 6) (.one none))), (none, (.mv 2 7))]) .ret))))) := by kernel_rfl
theorem c30 : compF Tryd.prog ow Tryd.f30 = (some (5, ([(.t 2)], (.seq (.ops [(none, (.set 2 (.int .i64 0)))]) (.seq (.ops [(none, (.cp 3 0)), (none, (.bin (some 4) .sub (.k (.int .i64 14)) (.t 3) false false)), (none, (.mv 2 4))]) .ret))))) := by kernel_rfl
theorem c31 : compF Tryd.prog ow Tryd.f31 = (some (15, ([(.t 6)], (.seq (.ops [(none, (.set 6 (.bool false)))]) (.seq (.ops [(none, (.cp 7 0)), (none, (.cp 8 1)), (none, (.bin (some 9) .geq (.t 7) (.t 8) false false)), (none, (.cp 10 9)), ((some (10, true)), (.cp 11 0)), ((some (10, true)), (.cp 12 2)), ((some (10, true)), (.bin (some 13) .leq (.t 11) (.t 12) false false)), (none, (.pick (some 14) (.t 10) (.t 13) (.k (.bool false)))), (none, (.mv 6 14))]) .ret))))) := by kernel_rfl
def namesT : List UInt8 := [98, 101, 102, 111, 114, 101, 32, 109, 101, 101, 116, 115, 32, 111, 118, 101, 114, 108, 97, 112, 115, 32, 115, 116, 97, 114, 116, 115, 32, 100, 117, 114, 105, 110, 103, 32, 101, 110, 100, 115, 32, 101, 113, 117, 97, 108, 32, 101, 110, 100, 101, 100, 32, 104, 111, 108, 100, 115, 32, 115, 116, 97, 114, 116, 101, 100, 32, 111, 118, 101, 114, 108, 97, 112, 112, 101, 100, 32, 109, 101, 116, 32, 97, 102, 116, 101, 114]
def namesL : List (List UInt8) := [[98, 101, 102, 111, 114, 101], [109, 101, 101, 116, 115], [111, 118, 101, 114, 108, 97, 112, 115], [115, 116, 97, 114, 116, 115], [100, 117, 114, 105, 110, 103], [101, 110, 100, 115], [101, 113, 117, 97, 108], [101, 110, 100, 101, 100], [104, 111, 108, 100, 115], [115, 116, 97, 114, 116, 101, 100], [111, 118, 101, 114, 108, 97, 112, 112, 101, 100], [109, 101, 116], [97, 102, 116, 101, 114]]
theorem fns_fields : PFn Tryd.prog 32 [.str namesT] (.sl .sh 1 (namesL.map AV.str)) := by
  have h := fnl_fields namesT (by decide) (by decide)
  have e : Lib.fields namesT = namesL := by decide +kernel
  rw [e] at h; exact h
theorem fn7_num (e : Int) : PFn Tryd.prog 19 [.int .i64 e] (.int .i64 e) := by
  intro h
  refine fnC mixed Tryd.func19 c19 (by simp) ?_
  simp only [go_sem, Nat.reduceEqDiff, Nat.reduceAdd, Nat.reduceLeDiff, Nat.reduceLT, ↓reduceIte, reduceCtorEq, Int.reduceLT, Int.reduceToNat, Int.reduceEq, Int.reduceBEq, Int.reduceBNe, Nat.reduceBEq]
def relB (r : Int) : Bool := inR 1 13 r
theorem fns_Rel (r : Int) : PFn Tryd.prog 28 [.int .i64 r] (.bool (relB r)) := by
  intro h
  refine fnC mixed Tryd.func28 c28 (by simp) ?_
  unfold relB inR
  simp only [go_sem, Nat.reduceEqDiff, Nat.reduceAdd, Nat.reduceLeDiff, Nat.reduceLT, ↓reduceIte, reduceCtorEq, Int.reduceLT, Int.reduceToNat, Int.reduceEq, Int.reduceBEq, Int.reduceBNe, Nat.reduceBEq]
  refine cog (fun h1 => ?_) (fun h1 => ?_)
  · simp only [go_sem, Nat.reduceEqDiff, Nat.reduceAdd, Nat.reduceLeDiff, Nat.reduceLT, ↓reduceIte, reduceCtorEq, Int.reduceLT, Int.reduceToNat, Int.reduceEq, Int.reduceBEq, Int.reduceBNe, Nat.reduceBEq, h1]
  · simp only [go_sem, Nat.reduceEqDiff, Nat.reduceAdd, Nat.reduceLeDiff, Nat.reduceLT, ↓reduceIte, reduceCtorEq, Int.reduceLT, Int.reduceToNat, Int.reduceEq, Int.reduceBEq, Int.reduceBNe, Nat.reduceBEq, h1]
theorem fns_Between (r lo hi : Int) : PFn Tryd.prog 31 [.int .i64 r, .int .i64 lo, .int .i64 hi] (.bool (inR lo hi r)) := by
  intro h
  refine fnC mixed Tryd.func31 c31 (by simp) ?_
  unfold inR
  simp only [go_sem, Nat.reduceEqDiff, Nat.reduceAdd, Nat.reduceLeDiff, Nat.reduceLT, ↓reduceIte, reduceCtorEq, Int.reduceLT, Int.reduceToNat, Int.reduceEq, Int.reduceBEq, Int.reduceBNe, Nat.reduceBEq]
  refine cog (fun h1 => ?_) (fun h1 => ?_)
  · simp only [go_sem, Nat.reduceEqDiff, Nat.reduceAdd, Nat.reduceLeDiff, Nat.reduceLT, ↓reduceIte, reduceCtorEq, Int.reduceLT, Int.reduceToNat, Int.reduceEq, Int.reduceBEq, Int.reduceBNe, Nat.reduceBEq, h1]
  · simp only [go_sem, Nat.reduceEqDiff, Nat.reduceAdd, Nat.reduceLeDiff, Nat.reduceLT, ↓reduceIte, reduceCtorEq, Int.reduceLT, Int.reduceToNat, Int.reduceEq, Int.reduceBEq, Int.reduceBNe, Nat.reduceBEq, h1]
theorem fns_rRel (r : Int) : PFn Tryd.prog 16 [.int .i64 r] (.bool (relB r)) := by
  intro h
  refine fnC mixed Tryd.func16 c16 (by simp) ?_
  simp only [go_sem, Nat.reduceEqDiff, Nat.reduceAdd, Nat.reduceLeDiff, Nat.reduceLT, ↓reduceIte, reduceCtorEq, Int.reduceLT, Int.reduceToNat, Int.reduceEq, Int.reduceBEq, Int.reduceBNe, Nat.reduceBEq]
  refine pcall (fns_Between r 1 13) (by simp only [go_sem, Nat.reduceEqDiff, Nat.reduceAdd, Nat.reduceLeDiff, Nat.reduceLT, ↓reduceIte, reduceCtorEq, Int.reduceLT, Int.reduceToNat, Int.reduceEq, Int.reduceBEq, Int.reduceBNe, Nat.reduceBEq]) ?_
  unfold relB
  simp only [go_sem, Nat.reduceEqDiff, Nat.reduceAdd, Nat.reduceLeDiff, Nat.reduceLT, ↓reduceIte, reduceCtorEq, Int.reduceLT, Int.reduceToNat, Int.reduceEq, Int.reduceBEq, Int.reduceBNe, Nat.reduceBEq]
theorem fns_turn (r : Int) : PFn Tryd.prog 30 [.int .i64 r] (.int .i64 (IntKind.i64.wrap (14 - r))) := by
  intro h
  refine fnC mixed Tryd.func30 c30 (by simp) ?_
  simp only [go_sem, Nat.reduceEqDiff, Nat.reduceAdd, Nat.reduceLeDiff, Nat.reduceLT, ↓reduceIte, reduceCtorEq, Int.reduceLT, Int.reduceToNat, Int.reduceEq, Int.reduceBEq, Int.reduceBNe, Nat.reduceBEq]
theorem fns_rTurn (r : Int) : PFn Tryd.prog 18 [.int .i64 r] (.int .i64 (IntKind.i64.wrap (14 - r))) := by
  intro h
  refine fnC mixed Tryd.func18 c18 (by simp) ?_
  simp only [go_sem, Nat.reduceEqDiff, Nat.reduceAdd, Nat.reduceLeDiff, Nat.reduceLT, ↓reduceIte, reduceCtorEq, Int.reduceLT, Int.reduceToNat, Int.reduceEq, Int.reduceBEq, Int.reduceBNe, Nat.reduceBEq]
theorem fns_Turn (r : Int) : PFn Tryd.prog 15 [.int .i64 r] (.tup (if relB r then [.int .i64 (IntKind.i64.wrap (14 - r)), .int .i64 0] else [.int .i64 0, .int .i64 1])) := by
  intro h
  have hR := fns_Rel r
  refine fnC mixed Tryd.func15 c15 (by simp) ?_
  simp only [go_sem, Nat.reduceEqDiff, Nat.reduceAdd, Nat.reduceLeDiff, Nat.reduceLT, ↓reduceIte, reduceCtorEq, Int.reduceLT, Int.reduceToNat, Int.reduceEq, Int.reduceBEq, Int.reduceBNe, Nat.reduceBEq]
  refine pcall hR (by simp only [go_sem, Nat.reduceEqDiff, Nat.reduceAdd, Nat.reduceLeDiff, Nat.reduceLT, ↓reduceIte, reduceCtorEq, Int.reduceLT, Int.reduceToNat, Int.reduceEq, Int.reduceBEq, Int.reduceBNe, Nat.reduceBEq]) ?_
  cases relB r with
  | false => simp only [go_sem, Nat.reduceEqDiff, Nat.reduceAdd, Nat.reduceLeDiff, Nat.reduceLT, ↓reduceIte, reduceCtorEq, Int.reduceLT, Int.reduceToNat, Int.reduceEq, Int.reduceBEq, Int.reduceBNe, Nat.reduceBEq]
  | true =>
    simp only [go_sem, Nat.reduceEqDiff, Nat.reduceAdd, Nat.reduceLeDiff, Nat.reduceLT, ↓reduceIte, reduceCtorEq, Int.reduceLT, Int.reduceToNat, Int.reduceEq, Int.reduceBEq, Int.reduceBNe, Nat.reduceBEq]
    refine pcall (fns_turn r) (by simp only [go_sem, Nat.reduceEqDiff, Nat.reduceAdd, Nat.reduceLeDiff, Nat.reduceLT, ↓reduceIte, reduceCtorEq, Int.reduceLT, Int.reduceToNat, Int.reduceEq, Int.reduceBEq, Int.reduceBNe, Nat.reduceBEq]) ?_
    simp only [go_sem, Nat.reduceEqDiff, Nat.reduceAdd, Nat.reduceLeDiff, Nat.reduceLT, ↓reduceIte, reduceCtorEq, Int.reduceLT, Int.reduceToNat, Int.reduceEq, Int.reduceBEq, Int.reduceBNe, Nat.reduceBEq]
theorem fns_Rels : PFn Tryd.prog 17 [] (.sl .own 1 (namesL.map AV.str)) := by
  intro h
  refine fnC mixed Tryd.func17 c17 (by simp) ?_
  unfold namesL
  simp only [go_sem, Nat.reduceEqDiff, Nat.reduceAdd, Nat.reduceLeDiff, Nat.reduceLT, ↓reduceIte, reduceCtorEq, Int.reduceLT, Int.reduceToNat, Int.reduceEq, Int.reduceBEq, Int.reduceBNe, Nat.reduceBEq]
theorem relB_at {r : Int} (h : relB r = true) : ∃ i : Nat, r = ((i + 1 : Nat) : Int) ∧ i < 13 := by
  unfold relB inR at h
  simp at h
  exact ⟨(r - 1).toNat, by omega, by omega⟩
theorem fns_Spelt (i : Nat) (hi : i < 13) (s : List UInt8) (hs : namesL[i]? = some s) : PFn Tryd.prog 29 [.int .i64 ((i + 1 : Nat) : Int)] (.str s) := by
  intro h
  refine fnC mixed Tryd.func29 c29 (by simp) ?_
  have hF := fns_fields
  have w : IntKind.i64.wrap (((i + 1 : Nat) : Int) - 1) = (i : Int) := by rw [wrap64] <;> omega
  have hx : (namesL.map AV.str)[i]? = some (.str s) := by rw [List.getElem?_map, hs]; rfl
  unfold namesT at hF
  generalize namesL.map AV.str = L at hF hx
  simp only [go_sem, Nat.reduceEqDiff, Nat.reduceAdd, Nat.reduceLeDiff, Nat.reduceLT, ↓reduceIte, reduceCtorEq, Int.reduceLT, Int.reduceToNat, Int.reduceEq, Int.reduceBEq, Int.reduceBNe, Nat.reduceBEq]
  refine pcall hF (by simp only [go_sem, Nat.reduceEqDiff, Nat.reduceAdd, Nat.reduceLeDiff, Nat.reduceLT, ↓reduceIte, reduceCtorEq, Int.reduceLT, Int.reduceToNat, Int.reduceEq, Int.reduceBEq, Int.reduceBNe, Nat.reduceBEq]) ?_
  simp only [go_sem, Nat.reduceEqDiff, Nat.reduceAdd, Nat.reduceLeDiff, Nat.reduceLT, ↓reduceIte, reduceCtorEq, Int.reduceLT, Int.reduceToNat, Int.reduceEq, Int.reduceBEq, Int.reduceBNe, Nat.reduceBEq, w, hx]
theorem fns_Name (r : Int) : PFn Tryd.prog 14 [.int .i64 r] (.tup (if relB r then [.str ((namesL[(r - 1).toNat]?).getD []), .int .i64 0] else [.str [], .int .i64 1])) := by
  intro h
  have hR := fns_Rel r
  refine fnC mixed Tryd.func14 c14 (by simp) ?_
  simp only [go_sem, Nat.reduceEqDiff, Nat.reduceAdd, Nat.reduceLeDiff, Nat.reduceLT, ↓reduceIte, reduceCtorEq, Int.reduceLT, Int.reduceToNat, Int.reduceEq, Int.reduceBEq, Int.reduceBNe, Nat.reduceBEq]
  refine pcall hR (by simp only [go_sem, Nat.reduceEqDiff, Nat.reduceAdd, Nat.reduceLeDiff, Nat.reduceLT, ↓reduceIte, reduceCtorEq, Int.reduceLT, Int.reduceToNat, Int.reduceEq, Int.reduceBEq, Int.reduceBNe, Nat.reduceBEq]) ?_
  cases hr : relB r with
  | false => simp only [go_sem, Nat.reduceEqDiff, Nat.reduceAdd, Nat.reduceLeDiff, Nat.reduceLT, ↓reduceIte, reduceCtorEq, Int.reduceLT, Int.reduceToNat, Int.reduceEq, Int.reduceBEq, Int.reduceBNe, Nat.reduceBEq]
  | true =>
    obtain ⟨i, rfl, hi⟩ := relB_at hr
    have hx : namesL[i]? = some (namesL[i]'hi) := List.getElem?_eq_getElem hi
    have e : (((i + 1 : Nat) : Int) - 1).toNat = i := by omega
    have hS := fns_Spelt i hi _ hx
    rw [e, hx]
    generalize namesL[i] = s at *
    simp only [go_sem, Nat.reduceEqDiff, Nat.reduceAdd, Nat.reduceLeDiff, Nat.reduceLT, ↓reduceIte, reduceCtorEq, Int.reduceLT, Int.reduceToNat, Int.reduceEq, Int.reduceBEq, Int.reduceBNe, Nat.reduceBEq]
    refine pcall hS (by simp only [go_sem, Nat.reduceEqDiff, Nat.reduceAdd, Nat.reduceLeDiff, Nat.reduceLT, ↓reduceIte, reduceCtorEq, Int.reduceLT, Int.reduceToNat, Int.reduceEq, Int.reduceBEq, Int.reduceBNe, Nat.reduceBEq]) ?_
    simp only [go_sem, Nat.reduceEqDiff, Nat.reduceAdd, Nat.reduceLeDiff, Nat.reduceLT, ↓reduceIte, reduceCtorEq, Int.reduceLT, Int.reduceToNat, Int.reduceEq, Int.reduceBEq, Int.reduceBNe, Nat.reduceBEq, Option.getD_some]
/-- Where a name is, from there on. -/
def atN (s : List UInt8) : Nat → List (List UInt8) → Option Nat
  | _, [] => none
  | i, x :: xs => if x == s then some i else atN s (i + 1) xs
theorem atN_ge (s : List UInt8) : ∀ (xs : List (List UInt8)) (i j : Nat), atN s i xs = some j → i ≤ j ∧ j < i + xs.length
  | [], i, j, h => by cases h
  | x :: xs, i, j, h => by
    rw [atN] at h
    split at h
    · cases h; simp
    · have := atN_ge s xs _ _ h; simp; omega
def relOf (s : List UInt8) : Int := match atN s 0 namesL with | some i => ((i + 1 : Nat) : Int) | none => 0
theorem fns_rRelOf (s : List UInt8) : PFn Tryd.prog 21 [.str s] (.int .i64 (relOf s)) := by
  intro h
  have hF := fns_Rels
  have hl : namesL.length = 13 := rfl
  refine fnC mixed Tryd.func21 c21 (by simp) ?_
  unfold relOf
  generalize hR : atN s 0 namesL = R
  generalize namesL = L at *
  simp only [go_sem, Nat.reduceEqDiff, Nat.reduceAdd, Nat.reduceLeDiff, Nat.reduceLT, ↓reduceIte, reduceCtorEq, Int.reduceLT, Int.reduceToNat, Int.reduceEq, Int.reduceBEq, Int.reduceBNe, Nat.reduceBEq]
  refine pcall hF (by simp only [go_sem, Nat.reduceEqDiff, Nat.reduceAdd, Nat.reduceLeDiff, Nat.reduceLT, ↓reduceIte, reduceCtorEq, Int.reduceLT, Int.reduceToNat, Int.reduceEq, Int.reduceBEq, Int.reduceBNe, Nat.reduceBEq]) ?_
  simp only [go_sem, Nat.reduceEqDiff, Nat.reduceAdd, Nat.reduceLeDiff, Nat.reduceLT, ↓reduceIte, reduceCtorEq, Int.reduceLT, Int.reduceToNat, Int.reduceEq, Int.reduceBEq, Int.reduceBNe, Nat.reduceBEq]
  refine cloop (fun k t => ∃ i : Nat, i + k = 13 ∧ t.fr 0 = .str s ∧ t.fr 3 = .sl .own 1 (L.map AV.str) ∧ t.fr 4 = .int .i64 (i : Nat) ∧ atN s i (L.drop i) = R ∧ t.hp = h) 13 ⟨0, by omega, by simp [fr_apply, argsF], by simp [fr_apply], by simp [fr_apply], hR, rfl⟩ ?_
  clear hR
  rintro k ⟨F, hp⟩ ⟨i, hk, f0, f3, f4, hR, rfl⟩
  simp only at f0 f3 f4
  by_cases hi : i < L.length
  · have hi' : decide ((i : Int) < (L.length : Int)) = true := decide_eq_true (by omega)
    have hw : IntKind.i64.wrap ((i : Int) + 1) = ((i + 1 : Nat) : Int) := by rw [wrap64] <;> omega
    have hx : (L.map AV.str)[i]? = some (.str L[i]) := by rw [List.getElem?_map, List.getElem?_eq_getElem hi]; rfl
    rw [List.drop_eq_getElem_cons hi, atN] at hR
    generalize L[i] = x at hx hR
    cases he : (x == s) with
    | true =>
      rw [he, if_pos rfl] at hR
      subst hR
      simp only [go_sem, Nat.reduceEqDiff, Nat.reduceAdd, Nat.reduceLeDiff, Nat.reduceLT, ↓reduceIte, reduceCtorEq, Int.reduceLT, Int.reduceToNat, Int.reduceEq, Int.reduceBEq, Int.reduceBNe, Nat.reduceBEq, f0, f3, f4, hi', hx, he, hw]
    | false =>
      rw [he, if_neg (by simp)] at hR
      simp only [go_sem, Nat.reduceEqDiff, Nat.reduceAdd, Nat.reduceLeDiff, Nat.reduceLT, ↓reduceIte, reduceCtorEq, Int.reduceLT, Int.reduceToNat, Int.reduceEq, Int.reduceBEq, Int.reduceBNe, Nat.reduceBEq, f0, f3, f4, hi', hx, he, hw]
      exact ⟨k - 1, by omega, i + 1, by omega, rfl, hR⟩
  · have hi' : decide ((i : Int) < (L.length : Int)) = false := decide_eq_false (by omega)
    rw [List.drop_eq_nil_of_le (by omega), atN] at hR
    subst hR
    simp only [go_sem, Nat.reduceEqDiff, Nat.reduceAdd, Nat.reduceLeDiff, Nat.reduceLT, ↓reduceIte, reduceCtorEq, Int.reduceLT, Int.reduceToNat, Int.reduceEq, Int.reduceBEq, Int.reduceBNe, Nat.reduceBEq, f0, f3, f4, hi']
theorem fns_Of (s : List UInt8) : PFn Tryd.prog 20 [.str s] (.tup [.int .i64 (relOf s), .int .i64 (if relOf s = 0 then 3 else 0)]) := by
  intro h
  have hF := fns_fields
  unfold namesT at hF
  have hl : namesL.length = 13 := rfl
  refine fnC mixed Tryd.func20 c20 (by simp) ?_
  unfold relOf
  generalize hR : atN s 0 namesL = R
  generalize namesL = L at *
  simp only [go_sem, Nat.reduceEqDiff, Nat.reduceAdd, Nat.reduceLeDiff, Nat.reduceLT, ↓reduceIte, reduceCtorEq, Int.reduceLT, Int.reduceToNat, Int.reduceEq, Int.reduceBEq, Int.reduceBNe, Nat.reduceBEq]
  refine pcall hF (by simp only [go_sem, Nat.reduceEqDiff, Nat.reduceAdd, Nat.reduceLeDiff, Nat.reduceLT, ↓reduceIte, reduceCtorEq, Int.reduceLT, Int.reduceToNat, Int.reduceEq, Int.reduceBEq, Int.reduceBNe, Nat.reduceBEq]) ?_
  simp only [go_sem, Nat.reduceEqDiff, Nat.reduceAdd, Nat.reduceLeDiff, Nat.reduceLT, ↓reduceIte, reduceCtorEq, Int.reduceLT, Int.reduceToNat, Int.reduceEq, Int.reduceBEq, Int.reduceBNe, Nat.reduceBEq, hl]
  refine cloop (fun k t => ∃ i : Nat, i + k = 13 ∧ t.fr 0 = .str s ∧ t.fr 6 = .sl .sh 1 (L.map AV.str) ∧ t.fr 7 = .int .i64 13 ∧ t.fr 8 = .int .i64 (i : Nat) ∧ atN s i (L.drop i) = R ∧ t.hp = h) 13 ⟨0, by omega, by simp [fr_apply, argsF], by simp [fr_apply], by simp [fr_apply], by simp [fr_apply], hR, rfl⟩ ?_
  clear hR
  rintro k ⟨F, hp⟩ ⟨i, hk, f0, f6, f7, f8, hR, rfl⟩
  simp only at f0 f6 f7 f8
  by_cases hi : i < L.length
  · have hi' : decide ((i : Int) < 13) = true := decide_eq_true (by omega)
    have hw : IntKind.i64.wrap ((i : Int) + 1) = ((i + 1 : Nat) : Int) := by rw [wrap64] <;> omega
    have hx : (L.map AV.str)[i]? = some (.str L[i]) := by rw [List.getElem?_map, List.getElem?_eq_getElem hi]; rfl
    rw [List.drop_eq_getElem_cons hi, atN] at hR
    generalize L[i] = x at hx hR
    cases he : (x == s) with
    | true =>
      rw [he, if_pos rfl] at hR
      subst hR
      have h0 : ¬ (((i + 1 : Nat) : Int) = 0) := by omega
      simp only
      rw [if_neg h0]
      simp only [go_sem, Nat.reduceEqDiff, Nat.reduceAdd, Nat.reduceLeDiff, Nat.reduceLT, ↓reduceIte, reduceCtorEq, Int.reduceLT, Int.reduceToNat, Int.reduceEq, Int.reduceBEq, Int.reduceBNe, Nat.reduceBEq, f0, f6, f7, f8, hi', hx, he, hw]
    | false =>
      rw [he, if_neg (by simp)] at hR
      simp only [go_sem, Nat.reduceEqDiff, Nat.reduceAdd, Nat.reduceLeDiff, Nat.reduceLT, ↓reduceIte, reduceCtorEq, Int.reduceLT, Int.reduceToNat, Int.reduceEq, Int.reduceBEq, Int.reduceBNe, Nat.reduceBEq, f0, f6, f7, f8, hi', hx, he, hw]
      exact ⟨k - 1, by omega, i + 1, by omega, rfl, hR⟩
  · have hi' : decide ((i : Int) < 13) = false := decide_eq_false (by omega)
    rw [List.drop_eq_nil_of_le (by omega), atN] at hR
    subst hR
    simp only [go_sem, Nat.reduceEqDiff, Nat.reduceAdd, Nat.reduceLeDiff, Nat.reduceLT, ↓reduceIte, reduceCtorEq, Int.reduceLT, Int.reduceToNat, Int.reduceEq, Int.reduceBEq, Int.reduceBNe, Nat.reduceBEq, f0, f6, f7, f8, hi']
end Go.Proofs.YtnibelnjflhkgaaDoor.Ab
