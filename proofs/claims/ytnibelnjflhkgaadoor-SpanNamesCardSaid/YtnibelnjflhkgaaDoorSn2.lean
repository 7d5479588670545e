/- The statement SpanNames: its walk. No condition. -/
import Derived.Test.YtnibelnjflhkgaaDoorSn1
namespace Go.Proofs.YtnibelnjflhkgaaDoor.Ab
set_option linter.unusedVariables false
set_option linter.unusedSimpArgs false
set_option maxRecDepth 10000
attribute [local go_sem] decide_true decide_false Nat.zero_le Bool.not_true Bool.not_false Bool.false_eq_true if_false if_true forall_const true_and and_true List.map Option.map Bool.and_self Bool.and_true Bool.true_and Bool.false_and Bool.and_false List.getElem?_cons_zero List.getElem?_nil List.getElem?_cons_succ Int.natCast_nonneg Int.toNat_natCast List.length_map List.length_cons List.length_nil Nat.zero_add Nat.le_refl List.drop_zero List.drop_succ_cons List.take_succ_cons List.take_zero List.take_nil ne_eq not_true_eq_false not_false_eq_true upd_same Nat.add_assoc Nat.left_eq_add Nat.add_eq_left Nat.add_left_cancel_iff Nat.succ_ne_self Nat.one_ne_zero Nat.add_zero Nat.le_add_right ite_self List.set_cons_zero List.set_cons_succ List.all_cons List.all_nil bne_self_eq_false List.isEmpty_cons Int.cast_ofNat_Int Nat.mul_one List.nil_append or_self or_true true_or List.cons_append List.append_nil Option.none_beq_some Option.some_beq_some beq_self_eq_true
theorem c6 : compF Tryd.prog ow Tryd.f6 = (some (135, ([(.t 2)], (.seq (.ops [(none, (.box 1 (.t 0))), (none, (.set 2 (.bool false)))]) (.seq (.seq (.ops [(none, (.ld (some 17) (.t 1) (.agg 3))), (none, (.call (some 18) (.k (.func 13 [] [])) [(.t 17)] none))]) (.cond (.t 18) (.seq (.ops [(none, (.set 2 (.bool true)))]) .ret) .skip)) (.seq (.ops [(none, (.bs 19 1 [(.k (.int .i64 (-1))), (.k (.int .i64 0)), (.k (.int .i64 1)), (.k (.int .i64 2)), (.k (.int .i64 3)), (.k (.int .i64 4)), (.k (.int .i64 5)), (.k (.int .i64 6)), (.k (.int .i64 7)), (.k (.int .i64 8)), (.k (.int .i64 9)), (.k (.int .i64 10)), (.k (.int .i64 11)), (.k (.int .i64 12)), (.k (.int .i64 13)), (.k (.int .i64 14))])), (none, (.fa (some 20) (.t 1) 1)), (none, (.ld (some 21) (.t 20) (.one (some 1)))), (none, (.app 22 (.t 19) (.t 21) 1 8 true true)), (none, (.mv 3 22))]) (.seq (.seq (.ops [(none, (.set 4 (.int .i64 0)))]) (.block 0 (.loop (.seq (.seq (.ops [(none, (.cp 23 4)), (none, (.cp 24 3)), (none, (.len (some 25) (.t 24) false true)), (none, (.bin (some 26) .lss (.t 23) (.t 25) false false)), (none, (.cp 27 26)), ((some (27, true)), (.cp 28 4)), ((some (27, true)), (.bin (some 29) .lss (.t 28) (.k (.int .i64 22)) false false)), (none, (.pick (some 30) (.t 27) (.t 29) (.k (.bool false))))]) (.cond (.t 30) .skip (.exit 0))) (.seq (.block 1 (.seq (.ops [(none, (.cp 34 3)), (none, (.cp 35 4)), (none, (.ia (some 36) (.t 34) (.t 35) (some 1) none)), (none, (.ld (some 37) (.t 36) (.one none))), (none, (.call (some 38) (.k (.func 14 [] [])) [(.t 37)] none)), (none, (.cp 33 38)), (none, (.ext (some 39) (.t 33) 0)), (none, (.ext (some 40) (.t 33) 1)), (none, (.mv 5 39)), (none, (.mv 6 40))]) (.seq (.ops [(none, (.cp 42 3)), (none, (.cp 43 4)), (none, (.ia (some 44) (.t 42) (.t 43) (some 1) none)), (none, (.ld (some 45) (.t 44) (.one none))), (none, (.call (some 46) (.k (.func 15 [] [])) [(.t 45)] none)), (none, (.cp 41 46)), (none, (.ext (some 47) (.t 41) 0)), (none, (.ext (some 48) (.t 41) 1)), (none, (.mv 7 47)), (none, (.mv 8 48))]) (.seq (.ops [(none, (.set 9 (.int .i64 1))), (none, (.set 10 (.str []))), (none, (.set 11 (.int .i64 0)))]) (.seq (.seq (.ops [(none, (.cp 49 3)), (none, (.cp 50 4)), (none, (.ia (some 51) (.t 49) (.t 50) (some 1) none)), (none, (.ld (some 52) (.t 51) (.one none))), (none, (.call (some 53) (.k (.func 16 [] [])) [(.t 52)] none))]) (.cond (.t 53) (.opsD [(none, (.call (some 54) (.k (.func 17 [] [])) [] (some 0))), (none, (.cp 55 3)), (none, (.cp 56 4)), (none, (.ia (some 57) (.t 55) (.t 56) (some 1) none)), (none, (.ld (some 58) (.t 57) (.one none))), (none, (.bin (some 59) .sub (.t 58) (.k (.int .i64 1)) false false)), (none, (.ia (some 60) (.t 54) (.t 59) (some 1) none)), (none, (.ld (some 61) (.t 60) (.one none))), (none, (.cp 62 3)), (none, (.cp 63 4)), (none, (.ia (some 64) (.t 62) (.t 63) (some 1) none)), (none, (.ld (some 65) (.t 64) (.one none))), (none, (.call (some 66) (.k (.func 18 [] [])) [(.t 65)] none)), (none, (.set 9 (.int .i64 0))), (none, (.mv 10 61)), (none, (.mv 11 66))]) .skip)) (.seq (.ops [(none, (.cp 67 6)), (none, (.call (some 68) (.k (.func 19 [] [])) [(.t 67)] none)), (none, (.cp 69 9)), (none, (.bin (some 70) .neq (.t 68) (.t 69) false false)), (none, (.cp 71 70)), ((some (71, false)), (.cp 72 8)), ((some (71, false)), (.call (some 73) (.k (.func 19 [] [])) [(.t 72)] none)), ((some (71, false)), (.cp 74 9)), ((some (71, false)), (.bin (some 75) .neq (.t 73) (.t 74) false false)), (none, (.pick (some 76) (.t 71) (.k (.bool true)) (.t 75))), (none, (.cp 77 76)), ((some (77, false)), (.cp 78 5)), ((some (77, false)), (.cp 79 10)), ((some (77, false)), (.bin (some 80) .neq (.t 78) (.t 79) false false)), (none, (.pick (some 81) (.t 77) (.k (.bool true)) (.t 80))), (none, (.cp 82 81)), ((some (82, false)), (.cp 83 7)), ((some (82, false)), (.cp 84 11)), ((some (82, false)), (.bin (some 85) .neq (.t 83) (.t 84) false false)), (none, (.pick (some 86) (.t 82) (.k (.bool true)) (.t 85)))]) (.cond (.t 86) (.seq (.ops [(none, (.set 2 (.bool false)))]) .ret) .skip))))))) (.ops [(none, (.cp 31 4)), (none, (.bin (some 32) .add (.t 31) (.k (.int .i64 1)) false false)), (none, (.mv 4 32))])))))) (.seq (.opsD [(none, (.call (some 87) (.k (.func 17 [] [])) [] (some 0))), (none, (.fa (some 88) (.t 1) 2)), (none, (.ld (some 89) (.t 88) (.one (some 1)))), (none, (.app 90 (.t 87) (.t 89) 1 16 true true)), (none, (.mv 12 90))]) (.seq (.seq (.ops [(none, (.set 13 (.int .i64 0)))]) (.block 2 (.loop (.seq (.seq (.ops [(none, (.cp 91 13)), (none, (.cp 92 12)), (none, (.len (some 93) (.t 92) false true)), (none, (.bin (some 94) .lss (.t 91) (.t 93) false false)), (none, (.cp 95 94)), ((some (95, true)), (.cp 96 13)), ((some (95, true)), (.bin (some 97) .lss (.t 96) (.k (.int .i64 19)) false false)), (none, (.pick (some 98) (.t 95) (.t 97) (.k (.bool false))))]) (.cond (.t 98) .skip (.exit 2))) (.seq (.block 3 (.seq (.ops [(none, (.cp 102 12)), (none, (.cp 103 13)), (none, (.ia (some 104) (.t 102) (.t 103) (some 1) none)), (none, (.ld (some 105) (.t 104) (.one none))), (none, (.call (some 106) (.k (.func 20 [] [])) [(.t 105)] none)), (none, (.cp 101 106)), (none, (.ext (some 107) (.t 101) 0)), (none, (.ext (some 108) (.t 101) 1)), (none, (.mv 14 107)), (none, (.mv 15 108))]) (.seq (.ops [(none, (.cp 109 12)), (none, (.cp 110 13)), (none, (.ia (some 111) (.t 109) (.t 110) (some 1) none)), (none, (.ld (some 112) (.t 111) (.one none))), (none, (.call (some 113) (.k (.func 21 [] [])) [(.t 112)] none)), (none, (.mv 16 113))]) (.seq (.ops [(none, (.cp 114 15)), (none, (.call (some 115) (.k (.func 19 [] [])) [(.t 114)] none)), (none, (.bin (some 116) .eql (.t 115) (.k (.int .i64 0)) false false)), (none, (.cp 117 16)), (none, (.bin (some 118) .gtr (.t 117) (.k (.int .i64 0)) false false)), (none, (.bin (some 119) .neq (.t 116) (.t 118) true false)), (none, (.cp 120 119)), ((some (120, false)), (.cp 121 16)), ((some (120, false)), (.bin (some 122) .eql (.t 121) (.k (.int .i64 0)) false false)), ((some (120, false)), (.cp 123 122)), ((some (123, true)), (.cp 124 15)), ((some (123, true)), (.call (some 125) (.k (.func 19 [] [])) [(.t 124)] none)), ((some (123, true)), (.bin (some 126) .neq (.t 125) (.k (.int .i64 3)) false false)), ((some (120, false)), (.pick (some 127) (.t 123) (.t 126) (.k (.bool false)))), (none, (.pick (some 128) (.t 120) (.k (.bool true)) (.t 127))), (none, (.cp 129 128)), ((some (129, false)), (.cp 130 14)), ((some (129, false)), (.cp 131 16)), ((some (129, false)), (.bin (some 132) .neq (.t 130) (.t 131) false false)), (none, (.pick (some 133) (.t 129) (.k (.bool true)) (.t 132)))]) (.cond (.t 133) (.seq (.ops [(none, (.set 2 (.bool false)))]) .ret) .skip))))) (.ops [(none, (.cp 99 13)), (none, (.bin (some 100) .add (.t 99) (.k (.int .i64 1)) false false)), (none, (.mv 13 100))])))))) (.seq (.ops [(none, (.call (some 134) (.k (.func 22 [] [])) [] none)), (none, (.mv 2 134))]) .ret)))))))))) := by kernel_rfl
theorem relOf_ge (s : List UInt8) : 0 ≤ relOf s := by
  unfold relOf
  split <;> omega
def numsL : List Int := [-1, 0, 1, 2, 3, 4, 5, 6, 7, 8, 9, 10, 11, 12, 13, 14]
set_option maxHeartbeats 1000000 in
theorem fn7_SpanNames (ss : List AV) (rs : List Int) (xs : List (List UInt8)) (hl : xs.length < 1000000000000000) (hs : ∀ x ∈ xs, x.length ≤ 140737488351232) : PFn Tryd.prog 6 [.agg [.sl .sh 2 ss, .sl .sh 1 (rs.map (AV.int .i64)), .sl .sh 1 (xs.map AV.str)]] (.bool true) := by
  intro h
  have hT := fn7_Heavy ss rs xs hl hs
  refine fnC mixed Tryd.func6 c6 (by simp) ?_
  simp only [go_sem, Nat.reduceEqDiff, Nat.reduceAdd, Nat.reduceLeDiff, Nat.reduceLT, ↓reduceIte, reduceCtorEq, Int.reduceLT, Int.reduceToNat, Int.reduceEq, Int.reduceBEq, Int.reduceBNe, Nat.reduceBEq]
  refine pcall hT (by simp only [go_sem, Nat.reduceEqDiff, Nat.reduceAdd, Nat.reduceLeDiff, Nat.reduceLT, ↓reduceIte, reduceCtorEq, Int.reduceLT, Int.reduceToNat, Int.reduceEq, Int.reduceBEq, Int.reduceBNe, Nat.reduceBEq]) ?_
  cases hv : (decide (ss.length > 200) || decide (rs.length > 200) || decide (txtF xs.length xs > 2000)) with
  | true => simp only [go_sem, Nat.reduceEqDiff, Nat.reduceAdd, Nat.reduceLeDiff, Nat.reduceLT, ↓reduceIte, reduceCtorEq, Int.reduceLT, Int.reduceToNat, Int.reduceEq, Int.reduceBEq, Int.reduceBNe, Nat.reduceBEq]
  | false =>
    have hv2 : rs.length ≤ 200 ∧ txtF xs.length xs ≤ 2000 := by
      simp at hv; omega
    have hge := txtF_ge xs xs.length
    have c1 : (16 + rs.length) * 8 ≤ 140737488355328 := by omega
    have c2 : 16 + rs.length ≤ 9223372036854775807 := by omega
    have b1 : (13 + xs.length) * 16 ≤ 140737488355328 := by omega
    have b2 : 13 + xs.length ≤ 9223372036854775807 := by omega
    have b3 : namesL.length = 13 := rfl
    have d00 : decide ((0 : Int) > 0) = false := by decide
    clear hv hT
    simp only [go_sem, Nat.reduceEqDiff, Nat.reduceAdd, Nat.reduceLeDiff, Nat.reduceLT, ↓reduceIte, reduceCtorEq, Int.reduceLT, Int.reduceToNat, Int.reduceEq, Int.reduceBEq, Int.reduceBNe, Nat.reduceBEq, c1, c2]
    refine cloop (fun k t => ∃ i : Nat, i + k = (numsL ++ rs).length ∧ t.fr 1 = .ptr h.n 0 ∧ t.fr 3 = .sl .own 1 ((numsL ++ rs).map (AV.int .i64)) ∧ t.fr 4 = .int .i64 (i : Nat) ∧ t.hp = ⟨h.n + 1, updB h.bk h.n (.cells [.sl .sh 2 ss, .sl .sh 1 (rs.map (AV.int .i64)), .sl .sh 1 (xs.map AV.str)])⟩) (numsL ++ rs).length ⟨0, by omega, by simp [fr_apply], by simp [fr_apply, numsL], by simp [fr_apply], rfl⟩ ?_
    rintro k ⟨F, hp⟩ ⟨i, hk, f1, f3, f4, rfl⟩
    simp only at f1 f3 f4
    generalize numsL ++ rs = NR at *
    by_cases hi : i < NR.length
    · have hi' : decide ((i : Int) < (NR.length : Int)) = true := decide_eq_true (by omega)
      by_cases h8 : i < 22
      · have h8' : decide ((i : Int) < 22) = true := decide_eq_true (by omega)
        have hw : IntKind.i64.wrap ((i : Int) + 1) = ((i + 1 : Nat) : Int) := by rw [wrap64] <;> omega
        have hx : (NR.map (AV.int .i64))[i]? = some (.int .i64 NR[i]) := by rw [List.getElem?_map, List.getElem?_eq_getElem hi]; rfl
        generalize NR[i] = r at hx
        have hN := fns_Name r
        have hU := fns_Turn r
        have hR := fns_rRel r
        have hV := fns_rTurn r
        cases hr : relB r with
        | false =>
          rw [hr] at hN hU hR
          simp only [Bool.false_eq_true, if_false] at hN hU
          simp only [go_sem, Nat.reduceEqDiff, Nat.reduceAdd, Nat.reduceLeDiff, Nat.reduceLT, ↓reduceIte, reduceCtorEq, Int.reduceLT, Int.reduceToNat, Int.reduceEq, Int.reduceBEq, Int.reduceBNe, Nat.reduceBEq, f1, f3, f4, hi', h8', hx]
          refine pcall hN (by simp only [go_sem, Nat.reduceEqDiff, Nat.reduceAdd, Nat.reduceLeDiff, Nat.reduceLT, ↓reduceIte, reduceCtorEq, Int.reduceLT, Int.reduceToNat, Int.reduceEq, Int.reduceBEq, Int.reduceBNe, Nat.reduceBEq]) ?_
          simp only [go_sem, Nat.reduceEqDiff, Nat.reduceAdd, Nat.reduceLeDiff, Nat.reduceLT, ↓reduceIte, reduceCtorEq, Int.reduceLT, Int.reduceToNat, Int.reduceEq, Int.reduceBEq, Int.reduceBNe, Nat.reduceBEq, f1, f3, f4, hx]
          refine pcall hU (by simp only [go_sem, Nat.reduceEqDiff, Nat.reduceAdd, Nat.reduceLeDiff, Nat.reduceLT, ↓reduceIte, reduceCtorEq, Int.reduceLT, Int.reduceToNat, Int.reduceEq, Int.reduceBEq, Int.reduceBNe, Nat.reduceBEq]) ?_
          simp only [go_sem, Nat.reduceEqDiff, Nat.reduceAdd, Nat.reduceLeDiff, Nat.reduceLT, ↓reduceIte, reduceCtorEq, Int.reduceLT, Int.reduceToNat, Int.reduceEq, Int.reduceBEq, Int.reduceBNe, Nat.reduceBEq, f1, f3, f4, hx]
          refine pcall hR (by simp only [go_sem, Nat.reduceEqDiff, Nat.reduceAdd, Nat.reduceLeDiff, Nat.reduceLT, ↓reduceIte, reduceCtorEq, Int.reduceLT, Int.reduceToNat, Int.reduceEq, Int.reduceBEq, Int.reduceBNe, Nat.reduceBEq]) ?_
          simp only [go_sem, Nat.reduceEqDiff, Nat.reduceAdd, Nat.reduceLeDiff, Nat.reduceLT, ↓reduceIte, reduceCtorEq, Int.reduceLT, Int.reduceToNat, Int.reduceEq, Int.reduceBEq, Int.reduceBNe, Nat.reduceBEq, f1, f3, f4]
          refine pcall (fn7_num 1) (by simp only [go_sem, Nat.reduceEqDiff, Nat.reduceAdd, Nat.reduceLeDiff, Nat.reduceLT, ↓reduceIte, reduceCtorEq, Int.reduceLT, Int.reduceToNat, Int.reduceEq, Int.reduceBEq, Int.reduceBNe, Nat.reduceBEq]) ?_
          simp only [go_sem, Nat.reduceEqDiff, Nat.reduceAdd, Nat.reduceLeDiff, Nat.reduceLT, ↓reduceIte, reduceCtorEq, Int.reduceLT, Int.reduceToNat, Int.reduceEq, Int.reduceBEq, Int.reduceBNe, Nat.reduceBEq, f1, f3, f4]
          refine pcall (fn7_num 1) (by simp only [go_sem, Nat.reduceEqDiff, Nat.reduceAdd, Nat.reduceLeDiff, Nat.reduceLT, ↓reduceIte, reduceCtorEq, Int.reduceLT, Int.reduceToNat, Int.reduceEq, Int.reduceBEq, Int.reduceBNe, Nat.reduceBEq]) ?_
          simp only [go_sem, Nat.reduceEqDiff, Nat.reduceAdd, Nat.reduceLeDiff, Nat.reduceLT, ↓reduceIte, reduceCtorEq, Int.reduceLT, Int.reduceToNat, Int.reduceEq, Int.reduceBEq, Int.reduceBNe, Nat.reduceBEq, f1, f3, f4, hw]
          exact ⟨k - 1, by omega, i + 1, by omega, rfl⟩
        | true =>
          rw [hr] at hN hU hR
          simp only [if_true] at hN hU
          obtain ⟨j, rfl, hj⟩ := relB_at hr
          have hx3 : namesL[j]? = some (namesL[j]'hj) := List.getElem?_eq_getElem hj
          have e : (((j + 1 : Nat) : Int) - 1).toNat = j := by omega
          have w : IntKind.i64.wrap (((j + 1 : Nat) : Int) - 1) = (j : Int) := by rw [wrap64] <;> omega
          have hx2 : (namesL.map AV.str)[j]? = some (.str (namesL[j]'hj)) := by rw [List.getElem?_map, hx3]; rfl
          rw [e, hx3, Option.getD_some] at hN
          generalize (namesL[j]'hj) = s at *
          generalize IntKind.i64.wrap (14 - ((j + 1 : Nat) : Int)) = u at *
          have hRl := fns_Rels
          generalize namesL.map AV.str = NM at hRl hx2
          simp only [go_sem, Nat.reduceEqDiff, Nat.reduceAdd, Nat.reduceLeDiff, Nat.reduceLT, ↓reduceIte, reduceCtorEq, Int.reduceLT, Int.reduceToNat, Int.reduceEq, Int.reduceBEq, Int.reduceBNe, Nat.reduceBEq, f1, f3, f4, hi', h8', hx]
          refine pcall hN (by simp only [go_sem, Nat.reduceEqDiff, Nat.reduceAdd, Nat.reduceLeDiff, Nat.reduceLT, ↓reduceIte, reduceCtorEq, Int.reduceLT, Int.reduceToNat, Int.reduceEq, Int.reduceBEq, Int.reduceBNe, Nat.reduceBEq]) ?_
          simp only [go_sem, Nat.reduceEqDiff, Nat.reduceAdd, Nat.reduceLeDiff, Nat.reduceLT, ↓reduceIte, reduceCtorEq, Int.reduceLT, Int.reduceToNat, Int.reduceEq, Int.reduceBEq, Int.reduceBNe, Nat.reduceBEq, f1, f3, f4, hx]
          refine pcall hU (by simp only [go_sem, Nat.reduceEqDiff, Nat.reduceAdd, Nat.reduceLeDiff, Nat.reduceLT, ↓reduceIte, reduceCtorEq, Int.reduceLT, Int.reduceToNat, Int.reduceEq, Int.reduceBEq, Int.reduceBNe, Nat.reduceBEq]) ?_
          simp only [go_sem, Nat.reduceEqDiff, Nat.reduceAdd, Nat.reduceLeDiff, Nat.reduceLT, ↓reduceIte, reduceCtorEq, Int.reduceLT, Int.reduceToNat, Int.reduceEq, Int.reduceBEq, Int.reduceBNe, Nat.reduceBEq, f1, f3, f4, hx]
          refine pcall hR (by simp only [go_sem, Nat.reduceEqDiff, Nat.reduceAdd, Nat.reduceLeDiff, Nat.reduceLT, ↓reduceIte, reduceCtorEq, Int.reduceLT, Int.reduceToNat, Int.reduceEq, Int.reduceBEq, Int.reduceBNe, Nat.reduceBEq]) ?_
          simp only [go_sem, Nat.reduceEqDiff, Nat.reduceAdd, Nat.reduceLeDiff, Nat.reduceLT, ↓reduceIte, reduceCtorEq, Int.reduceLT, Int.reduceToNat, Int.reduceEq, Int.reduceBEq, Int.reduceBNe, Nat.reduceBEq, f1, f3, f4]
          refine pcallD hRl (by simp only [go_sem, Nat.reduceEqDiff, Nat.reduceAdd, Nat.reduceLeDiff, Nat.reduceLT, ↓reduceIte, reduceCtorEq, Int.reduceLT, Int.reduceToNat, Int.reduceEq, Int.reduceBEq, Int.reduceBNe, Nat.reduceBEq]) ?_
          simp only [go_sem, Nat.reduceEqDiff, Nat.reduceAdd, Nat.reduceLeDiff, Nat.reduceLT, ↓reduceIte, reduceCtorEq, Int.reduceLT, Int.reduceToNat, Int.reduceEq, Int.reduceBEq, Int.reduceBNe, Nat.reduceBEq, f1, f3, f4, hx, w, hx2]
          refine pcallD hV (by simp only [go_sem, Nat.reduceEqDiff, Nat.reduceAdd, Nat.reduceLeDiff, Nat.reduceLT, ↓reduceIte, reduceCtorEq, Int.reduceLT, Int.reduceToNat, Int.reduceEq, Int.reduceBEq, Int.reduceBNe, Nat.reduceBEq]) ?_
          simp only [go_sem, Nat.reduceEqDiff, Nat.reduceAdd, Nat.reduceLeDiff, Nat.reduceLT, ↓reduceIte, reduceCtorEq, Int.reduceLT, Int.reduceToNat, Int.reduceEq, Int.reduceBEq, Int.reduceBNe, Nat.reduceBEq, f1, f3, f4]
          refine pcall (fn7_num 0) (by simp only [go_sem, Nat.reduceEqDiff, Nat.reduceAdd, Nat.reduceLeDiff, Nat.reduceLT, ↓reduceIte, reduceCtorEq, Int.reduceLT, Int.reduceToNat, Int.reduceEq, Int.reduceBEq, Int.reduceBNe, Nat.reduceBEq]) ?_
          simp only [go_sem, Nat.reduceEqDiff, Nat.reduceAdd, Nat.reduceLeDiff, Nat.reduceLT, ↓reduceIte, reduceCtorEq, Int.reduceLT, Int.reduceToNat, Int.reduceEq, Int.reduceBEq, Int.reduceBNe, Nat.reduceBEq, f1, f3, f4]
          refine pcall (fn7_num 0) (by simp only [go_sem, Nat.reduceEqDiff, Nat.reduceAdd, Nat.reduceLeDiff, Nat.reduceLT, ↓reduceIte, reduceCtorEq, Int.reduceLT, Int.reduceToNat, Int.reduceEq, Int.reduceBEq, Int.reduceBNe, Nat.reduceBEq]) ?_
          simp only [go_sem, Nat.reduceEqDiff, Nat.reduceAdd, Nat.reduceLeDiff, Nat.reduceLT, ↓reduceIte, reduceCtorEq, Int.reduceLT, Int.reduceToNat, Int.reduceEq, Int.reduceBEq, Int.reduceBNe, Nat.reduceBEq, f1, f3, f4, hw]
          exact ⟨k - 1, by omega, i + 1, by omega, rfl⟩
      · have h8' : decide ((i : Int) < 22) = false := decide_eq_false (by omega)
        simp only [go_sem, Nat.reduceEqDiff, Nat.reduceAdd, Nat.reduceLeDiff, Nat.reduceLT, ↓reduceIte, reduceCtorEq, Int.reduceLT, Int.reduceToNat, Int.reduceEq, Int.reduceBEq, Int.reduceBNe, Nat.reduceBEq, f1, f3, f4, hi', h8']
        refine pcallD fns_Rels (by simp only [go_sem, Nat.reduceEqDiff, Nat.reduceAdd, Nat.reduceLeDiff, Nat.reduceLT, ↓reduceIte, reduceCtorEq, Int.reduceLT, Int.reduceToNat, Int.reduceEq, Int.reduceBEq, Int.reduceBNe, Nat.reduceBEq]) ?_
        simp only [go_sem, Nat.reduceEqDiff, Nat.reduceAdd, Nat.reduceLeDiff, Nat.reduceLT, ↓reduceIte, reduceCtorEq, Int.reduceLT, Int.reduceToNat, Int.reduceEq, Int.reduceBEq, Int.reduceBNe, Nat.reduceBEq, f1, f3, f4, b1, b2, b3]
        clear f1 f3 f4 hk
        refine cloop (fun k t => ∃ i : Nat, i + k = (namesL ++ xs).length ∧ t.fr 12 = .sl .own 1 ((namesL ++ xs).map AV.str) ∧ t.fr 13 = .int .i64 (i : Nat) ∧ t.hp = ⟨h.n + 1, updB h.bk h.n (.cells [.sl .sh 2 ss, .sl .sh 1 (rs.map (AV.int .i64)), .sl .sh 1 (xs.map AV.str)])⟩) (namesL ++ xs).length ⟨0, by omega, by simp [fr_apply], by simp [fr_apply], rfl⟩ ?_
        rintro k2 ⟨F2, hp2⟩ ⟨i2, hk, f12, f13, rfl⟩
        simp only at f12 f13
        generalize namesL ++ xs = NL at *
        by_cases hi : i2 < NL.length
        · have hi' : decide ((i2 : Int) < (NL.length : Int)) = true := decide_eq_true (by omega)
          by_cases h8 : i2 < 19
          · have h8' : decide ((i2 : Int) < 19) = true := decide_eq_true (by omega)
            have hw : IntKind.i64.wrap ((i2 : Int) + 1) = ((i2 + 1 : Nat) : Int) := by rw [wrap64] <;> omega
            have hx : (NL.map AV.str)[i2]? = some (.str NL[i2]) := by rw [List.getElem?_map, List.getElem?_eq_getElem hi]; rfl
            generalize NL[i2] = s at hx
            have hO := fns_Of s
            have hR := fns_rRelOf s
            have hge := relOf_ge s
            generalize relOf s = v at *
            by_cases hv : v = 0
            · subst hv
              rw [if_pos rfl] at hO
              simp only [go_sem, Nat.reduceEqDiff, Nat.reduceAdd, Nat.reduceLeDiff, Nat.reduceLT, ↓reduceIte, reduceCtorEq, Int.reduceLT, Int.reduceToNat, Int.reduceEq, Int.reduceBEq, Int.reduceBNe, Nat.reduceBEq, f12, f13, hi', h8', hx]
              refine pcall hO (by simp only [go_sem, Nat.reduceEqDiff, Nat.reduceAdd, Nat.reduceLeDiff, Nat.reduceLT, ↓reduceIte, reduceCtorEq, Int.reduceLT, Int.reduceToNat, Int.reduceEq, Int.reduceBEq, Int.reduceBNe, Nat.reduceBEq]) ?_
              simp only [go_sem, Nat.reduceEqDiff, Nat.reduceAdd, Nat.reduceLeDiff, Nat.reduceLT, ↓reduceIte, reduceCtorEq, Int.reduceLT, Int.reduceToNat, Int.reduceEq, Int.reduceBEq, Int.reduceBNe, Nat.reduceBEq, f12, f13, hx]
              refine pcall hR (by simp only [go_sem, Nat.reduceEqDiff, Nat.reduceAdd, Nat.reduceLeDiff, Nat.reduceLT, ↓reduceIte, reduceCtorEq, Int.reduceLT, Int.reduceToNat, Int.reduceEq, Int.reduceBEq, Int.reduceBNe, Nat.reduceBEq]) ?_
              simp only [go_sem, Nat.reduceEqDiff, Nat.reduceAdd, Nat.reduceLeDiff, Nat.reduceLT, ↓reduceIte, reduceCtorEq, Int.reduceLT, Int.reduceToNat, Int.reduceEq, Int.reduceBEq, Int.reduceBNe, Nat.reduceBEq, f12, f13]
              refine pcall (fn7_num 3) (by simp only [go_sem, Nat.reduceEqDiff, Nat.reduceAdd, Nat.reduceLeDiff, Nat.reduceLT, ↓reduceIte, reduceCtorEq, Int.reduceLT, Int.reduceToNat, Int.reduceEq, Int.reduceBEq, Int.reduceBNe, Nat.reduceBEq]) ?_
              simp only [go_sem, Nat.reduceEqDiff, Nat.reduceAdd, Nat.reduceLeDiff, Nat.reduceLT, ↓reduceIte, reduceCtorEq, Int.reduceLT, Int.reduceToNat, Int.reduceEq, Int.reduceBEq, Int.reduceBNe, Nat.reduceBEq, f12, f13, d00]
              refine pcall (fn7_num 3) (by simp only [go_sem, Nat.reduceEqDiff, Nat.reduceAdd, Nat.reduceLeDiff, Nat.reduceLT, ↓reduceIte, reduceCtorEq, Int.reduceLT, Int.reduceToNat, Int.reduceEq, Int.reduceBEq, Int.reduceBNe, Nat.reduceBEq]) ?_
              simp only [go_sem, Nat.reduceEqDiff, Nat.reduceAdd, Nat.reduceLeDiff, Nat.reduceLT, ↓reduceIte, reduceCtorEq, Int.reduceLT, Int.reduceToNat, Int.reduceEq, Int.reduceBEq, Int.reduceBNe, Nat.reduceBEq, f12, f13, hw]
              exact ⟨k2 - 1, by omega, i2 + 1, by omega, rfl⟩
            · rw [if_neg hv] at hO
              have g1 : decide (v > 0) = true := decide_eq_true (by omega)
              have g2 : (v == 0) = false := by simpa using hv
              simp only [go_sem, Nat.reduceEqDiff, Nat.reduceAdd, Nat.reduceLeDiff, Nat.reduceLT, ↓reduceIte, reduceCtorEq, Int.reduceLT, Int.reduceToNat, Int.reduceEq, Int.reduceBEq, Int.reduceBNe, Nat.reduceBEq, f12, f13, hi', h8', hx]
              refine pcall hO (by simp only [go_sem, Nat.reduceEqDiff, Nat.reduceAdd, Nat.reduceLeDiff, Nat.reduceLT, ↓reduceIte, reduceCtorEq, Int.reduceLT, Int.reduceToNat, Int.reduceEq, Int.reduceBEq, Int.reduceBNe, Nat.reduceBEq]) ?_
              simp only [go_sem, Nat.reduceEqDiff, Nat.reduceAdd, Nat.reduceLeDiff, Nat.reduceLT, ↓reduceIte, reduceCtorEq, Int.reduceLT, Int.reduceToNat, Int.reduceEq, Int.reduceBEq, Int.reduceBNe, Nat.reduceBEq, f12, f13, hx]
              refine pcall hR (by simp only [go_sem, Nat.reduceEqDiff, Nat.reduceAdd, Nat.reduceLeDiff, Nat.reduceLT, ↓reduceIte, reduceCtorEq, Int.reduceLT, Int.reduceToNat, Int.reduceEq, Int.reduceBEq, Int.reduceBNe, Nat.reduceBEq]) ?_
              simp only [go_sem, Nat.reduceEqDiff, Nat.reduceAdd, Nat.reduceLeDiff, Nat.reduceLT, ↓reduceIte, reduceCtorEq, Int.reduceLT, Int.reduceToNat, Int.reduceEq, Int.reduceBEq, Int.reduceBNe, Nat.reduceBEq, f12, f13]
              refine pcall (fn7_num 0) (by simp only [go_sem, Nat.reduceEqDiff, Nat.reduceAdd, Nat.reduceLeDiff, Nat.reduceLT, ↓reduceIte, reduceCtorEq, Int.reduceLT, Int.reduceToNat, Int.reduceEq, Int.reduceBEq, Int.reduceBNe, Nat.reduceBEq]) ?_
              simp only [go_sem, Nat.reduceEqDiff, Nat.reduceAdd, Nat.reduceLeDiff, Nat.reduceLT, ↓reduceIte, reduceCtorEq, Int.reduceLT, Int.reduceToNat, Int.reduceEq, Int.reduceBEq, Int.reduceBNe, Nat.reduceBEq, f12, f13, g1, g2, hw]
              exact ⟨k2 - 1, by omega, i2 + 1, by omega, rfl⟩
          · have h8' : decide ((i2 : Int) < 19) = false := decide_eq_false (by omega)
            simp only [go_sem, Nat.reduceEqDiff, Nat.reduceAdd, Nat.reduceLeDiff, Nat.reduceLT, ↓reduceIte, reduceCtorEq, Int.reduceLT, Int.reduceToNat, Int.reduceEq, Int.reduceBEq, Int.reduceBNe, Nat.reduceBEq, f12, f13, hi', h8']
            refine pcall fn7_wakes (by simp only [go_sem, Nat.reduceEqDiff, Nat.reduceAdd, Nat.reduceLeDiff, Nat.reduceLT, ↓reduceIte, reduceCtorEq, Int.reduceLT, Int.reduceToNat, Int.reduceEq, Int.reduceBEq, Int.reduceBNe, Nat.reduceBEq]) ?_
            simp only [go_sem, Nat.reduceEqDiff, Nat.reduceAdd, Nat.reduceLeDiff, Nat.reduceLT, ↓reduceIte, reduceCtorEq, Int.reduceLT, Int.reduceToNat, Int.reduceEq, Int.reduceBEq, Int.reduceBNe, Nat.reduceBEq]
        · have hi' : decide ((i2 : Int) < (NL.length : Int)) = false := decide_eq_false (by omega)
          simp only [go_sem, Nat.reduceEqDiff, Nat.reduceAdd, Nat.reduceLeDiff, Nat.reduceLT, ↓reduceIte, reduceCtorEq, Int.reduceLT, Int.reduceToNat, Int.reduceEq, Int.reduceBEq, Int.reduceBNe, Nat.reduceBEq, f12, f13, hi']
          refine pcall fn7_wakes (by simp only [go_sem, Nat.reduceEqDiff, Nat.reduceAdd, Nat.reduceLeDiff, Nat.reduceLT, ↓reduceIte, reduceCtorEq, Int.reduceLT, Int.reduceToNat, Int.reduceEq, Int.reduceBEq, Int.reduceBNe, Nat.reduceBEq]) ?_
          simp only [go_sem, Nat.reduceEqDiff, Nat.reduceAdd, Nat.reduceLeDiff, Nat.reduceLT, ↓reduceIte, reduceCtorEq, Int.reduceLT, Int.reduceToNat, Int.reduceEq, Int.reduceBEq, Int.reduceBNe, Nat.reduceBEq]
    · have hi' : decide ((i : Int) < (NR.length : Int)) = false := decide_eq_false (by omega)
      simp only [go_sem, Nat.reduceEqDiff, Nat.reduceAdd, Nat.reduceLeDiff, Nat.reduceLT, ↓reduceIte, reduceCtorEq, Int.reduceLT, Int.reduceToNat, Int.reduceEq, Int.reduceBEq, Int.reduceBNe, Nat.reduceBEq, f1, f3, f4, hi']
      refine pcallD fns_Rels (by simp only [go_sem, Nat.reduceEqDiff, Nat.reduceAdd, Nat.reduceLeDiff, Nat.reduceLT, ↓reduceIte, reduceCtorEq, Int.reduceLT, Int.reduceToNat, Int.reduceEq, Int.reduceBEq, Int.reduceBNe, Nat.reduceBEq]) ?_
      simp only [go_sem, Nat.reduceEqDiff, Nat.reduceAdd, Nat.reduceLeDiff, Nat.reduceLT, ↓reduceIte, reduceCtorEq, Int.reduceLT, Int.reduceToNat, Int.reduceEq, Int.reduceBEq, Int.reduceBNe, Nat.reduceBEq, f1, f3, f4, b1, b2, b3]
      clear f1 f3 f4 hk
      refine cloop (fun k t => ∃ i : Nat, i + k = (namesL ++ xs).length ∧ t.fr 12 = .sl .own 1 ((namesL ++ xs).map AV.str) ∧ t.fr 13 = .int .i64 (i : Nat) ∧ t.hp = ⟨h.n + 1, updB h.bk h.n (.cells [.sl .sh 2 ss, .sl .sh 1 (rs.map (AV.int .i64)), .sl .sh 1 (xs.map AV.str)])⟩) (namesL ++ xs).length ⟨0, by omega, by simp [fr_apply], by simp [fr_apply], rfl⟩ ?_
      rintro k2 ⟨F2, hp2⟩ ⟨i2, hk, f12, f13, rfl⟩
      simp only at f12 f13
      generalize namesL ++ xs = NL at *
      by_cases hi : i2 < NL.length
      · have hi' : decide ((i2 : Int) < (NL.length : Int)) = true := decide_eq_true (by omega)
        by_cases h8 : i2 < 19
        · have h8' : decide ((i2 : Int) < 19) = true := decide_eq_true (by omega)
          have hw : IntKind.i64.wrap ((i2 : Int) + 1) = ((i2 + 1 : Nat) : Int) := by rw [wrap64] <;> omega
          have hx : (NL.map AV.str)[i2]? = some (.str NL[i2]) := by rw [List.getElem?_map, List.getElem?_eq_getElem hi]; rfl
          generalize NL[i2] = s at hx
          have hO := fns_Of s
          have hR := fns_rRelOf s
          have hge := relOf_ge s
          generalize relOf s = v at *
          by_cases hv : v = 0
          · subst hv
            rw [if_pos rfl] at hO
            simp only [go_sem, Nat.reduceEqDiff, Nat.reduceAdd, Nat.reduceLeDiff, Nat.reduceLT, ↓reduceIte, reduceCtorEq, Int.reduceLT, Int.reduceToNat, Int.reduceEq, Int.reduceBEq, Int.reduceBNe, Nat.reduceBEq, f12, f13, hi', h8', hx]
            refine pcall hO (by simp only [go_sem, Nat.reduceEqDiff, Nat.reduceAdd, Nat.reduceLeDiff, Nat.reduceLT, ↓reduceIte, reduceCtorEq, Int.reduceLT, Int.reduceToNat, Int.reduceEq, Int.reduceBEq, Int.reduceBNe, Nat.reduceBEq]) ?_
            simp only [go_sem, Nat.reduceEqDiff, Nat.reduceAdd, Nat.reduceLeDiff, Nat.reduceLT, ↓reduceIte, reduceCtorEq, Int.reduceLT, Int.reduceToNat, Int.reduceEq, Int.reduceBEq, Int.reduceBNe, Nat.reduceBEq, f12, f13, hx]
            refine pcall hR (by simp only [go_sem, Nat.reduceEqDiff, Nat.reduceAdd, Nat.reduceLeDiff, Nat.reduceLT, ↓reduceIte, reduceCtorEq, Int.reduceLT, Int.reduceToNat, Int.reduceEq, Int.reduceBEq, Int.reduceBNe, Nat.reduceBEq]) ?_
            simp only [go_sem, Nat.reduceEqDiff, Nat.reduceAdd, Nat.reduceLeDiff, Nat.reduceLT, ↓reduceIte, reduceCtorEq, Int.reduceLT, Int.reduceToNat, Int.reduceEq, Int.reduceBEq, Int.reduceBNe, Nat.reduceBEq, f12, f13]
            refine pcall (fn7_num 3) (by simp only [go_sem, Nat.reduceEqDiff, Nat.reduceAdd, Nat.reduceLeDiff, Nat.reduceLT, ↓reduceIte, reduceCtorEq, Int.reduceLT, Int.reduceToNat, Int.reduceEq, Int.reduceBEq, Int.reduceBNe, Nat.reduceBEq]) ?_
            simp only [go_sem, Nat.reduceEqDiff, Nat.reduceAdd, Nat.reduceLeDiff, Nat.reduceLT, ↓reduceIte, reduceCtorEq, Int.reduceLT, Int.reduceToNat, Int.reduceEq, Int.reduceBEq, Int.reduceBNe, Nat.reduceBEq, f12, f13, d00]
            refine pcall (fn7_num 3) (by simp only [go_sem, Nat.reduceEqDiff, Nat.reduceAdd, Nat.reduceLeDiff, Nat.reduceLT, ↓reduceIte, reduceCtorEq, Int.reduceLT, Int.reduceToNat, Int.reduceEq, Int.reduceBEq, Int.reduceBNe, Nat.reduceBEq]) ?_
            simp only [go_sem, Nat.reduceEqDiff, Nat.reduceAdd, Nat.reduceLeDiff, Nat.reduceLT, ↓reduceIte, reduceCtorEq, Int.reduceLT, Int.reduceToNat, Int.reduceEq, Int.reduceBEq, Int.reduceBNe, Nat.reduceBEq, f12, f13, hw]
            exact ⟨k2 - 1, by omega, i2 + 1, by omega, rfl⟩
          · rw [if_neg hv] at hO
            have g1 : decide (v > 0) = true := decide_eq_true (by omega)
            have g2 : (v == 0) = false := by simpa using hv
            simp only [go_sem, Nat.reduceEqDiff, Nat.reduceAdd, Nat.reduceLeDiff, Nat.reduceLT, ↓reduceIte, reduceCtorEq, Int.reduceLT, Int.reduceToNat, Int.reduceEq, Int.reduceBEq, Int.reduceBNe, Nat.reduceBEq, f12, f13, hi', h8', hx]
            refine pcall hO (by simp only [go_sem, Nat.reduceEqDiff, Nat.reduceAdd, Nat.reduceLeDiff, Nat.reduceLT, ↓reduceIte, reduceCtorEq, Int.reduceLT, Int.reduceToNat, Int.reduceEq, Int.reduceBEq, Int.reduceBNe, Nat.reduceBEq]) ?_
            simp only [go_sem, Nat.reduceEqDiff, Nat.reduceAdd, Nat.reduceLeDiff, Nat.reduceLT, ↓reduceIte, reduceCtorEq, Int.reduceLT, Int.reduceToNat, Int.reduceEq, Int.reduceBEq, Int.reduceBNe, Nat.reduceBEq, f12, f13, hx]
            refine pcall hR (by simp only [go_sem, Nat.reduceEqDiff, Nat.reduceAdd, Nat.reduceLeDiff, Nat.reduceLT, ↓reduceIte, reduceCtorEq, Int.reduceLT, Int.reduceToNat, Int.reduceEq, Int.reduceBEq, Int.reduceBNe, Nat.reduceBEq]) ?_
            simp only [go_sem, Nat.reduceEqDiff, Nat.reduceAdd, Nat.reduceLeDiff, Nat.reduceLT, ↓reduceIte, reduceCtorEq, Int.reduceLT, Int.reduceToNat, Int.reduceEq, Int.reduceBEq, Int.reduceBNe, Nat.reduceBEq, f12, f13]
            refine pcall (fn7_num 0) (by simp only [go_sem, Nat.reduceEqDiff, Nat.reduceAdd, Nat.reduceLeDiff, Nat.reduceLT, ↓reduceIte, reduceCtorEq, Int.reduceLT, Int.reduceToNat, Int.reduceEq, Int.reduceBEq, Int.reduceBNe, Nat.reduceBEq]) ?_
            simp only [go_sem, Nat.reduceEqDiff, Nat.reduceAdd, Nat.reduceLeDiff, Nat.reduceLT, ↓reduceIte, reduceCtorEq, Int.reduceLT, Int.reduceToNat, Int.reduceEq, Int.reduceBEq, Int.reduceBNe, Nat.reduceBEq, f12, f13, g1, g2, hw]
            exact ⟨k2 - 1, by omega, i2 + 1, by omega, rfl⟩
        · have h8' : decide ((i2 : Int) < 19) = false := decide_eq_false (by omega)
          simp only [go_sem, Nat.reduceEqDiff, Nat.reduceAdd, Nat.reduceLeDiff, Nat.reduceLT, ↓reduceIte, reduceCtorEq, Int.reduceLT, Int.reduceToNat, Int.reduceEq, Int.reduceBEq, Int.reduceBNe, Nat.reduceBEq, f12, f13, hi', h8']
          refine pcall fn7_wakes (by simp only [go_sem, Nat.reduceEqDiff, Nat.reduceAdd, Nat.reduceLeDiff, Nat.reduceLT, ↓reduceIte, reduceCtorEq, Int.reduceLT, Int.reduceToNat, Int.reduceEq, Int.reduceBEq, Int.reduceBNe, Nat.reduceBEq]) ?_
          simp only [go_sem, Nat.reduceEqDiff, Nat.reduceAdd, Nat.reduceLeDiff, Nat.reduceLT, ↓reduceIte, reduceCtorEq, Int.reduceLT, Int.reduceToNat, Int.reduceEq, Int.reduceBEq, Int.reduceBNe, Nat.reduceBEq]
      · have hi' : decide ((i2 : Int) < (NL.length : Int)) = false := decide_eq_false (by omega)
        simp only [go_sem, Nat.reduceEqDiff, Nat.reduceAdd, Nat.reduceLeDiff, Nat.reduceLT, ↓reduceIte, reduceCtorEq, Int.reduceLT, Int.reduceToNat, Int.reduceEq, Int.reduceBEq, Int.reduceBNe, Nat.reduceBEq, f12, f13, hi']
        refine pcall fn7_wakes (by simp only [go_sem, Nat.reduceEqDiff, Nat.reduceAdd, Nat.reduceLeDiff, Nat.reduceLT, ↓reduceIte, reduceCtorEq, Int.reduceLT, Int.reduceToNat, Int.reduceEq, Int.reduceBEq, Int.reduceBNe, Nat.reduceBEq]) ?_
        simp only [go_sem, Nat.reduceEqDiff, Nat.reduceAdd, Nat.reduceLeDiff, Nat.reduceLT, ↓reduceIte, reduceCtorEq, Int.reduceLT, Int.reduceToNat, Int.reduceEq, Int.reduceBEq, Int.reduceBNe, Nat.reduceBEq]
end Go.Proofs.YtnibelnjflhkgaaDoor.Ab
