/- Names of relations: what the law calls beside. No condition. -/
import Derived.Test.YtnibelnjflhkgaaDoorSn0
namespace Go.Proofs.YtnibelnjflhkgaaDoor.Ab
set_option linter.unusedVariables false
set_option linter.unusedSimpArgs false
set_option maxRecDepth 10000
attribute [local go_sem] decide_true decide_false Nat.zero_le Bool.not_true Bool.not_false Bool.false_eq_true if_false if_true forall_const true_and and_true List.map Option.map Bool.and_self Bool.and_true Bool.true_and Bool.false_and Bool.and_false List.getElem?_cons_zero List.getElem?_nil List.getElem?_cons_succ Int.natCast_nonneg Int.toNat_natCast List.length_map List.length_cons List.length_nil Nat.zero_add Nat.le_refl List.drop_zero List.drop_succ_cons List.take_succ_cons List.take_zero List.take_nil ne_eq not_true_eq_false not_false_eq_true upd_same Nat.add_assoc Nat.left_eq_add Nat.add_eq_left Nat.add_left_cancel_iff Nat.succ_ne_self Nat.one_ne_zero Nat.add_zero Nat.le_add_right ite_self List.set_cons_zero List.set_cons_succ List.all_cons List.all_nil bne_self_eq_false List.isEmpty_cons Int.cast_ofNat_Int Nat.mul_one List.nil_append or_self or_true true_or List.cons_append List.append_nil Option.none_beq_some Option.some_beq_some beq_self_eq_true
theorem c23 : compF Tryd.prog ow Tryd.f23 = (some (25, ([(.t 2)], (.seq (.ops [(none, (.set 2 (.int .i64 0)))]) (.seq (.ops [(none, (.cp 5 0)), (none, (.len (some 6) (.t 5) false true)), (none, (.mv 3 6))]) (.seq (.seq (.ops [(none, (.set 4 (.int .i64 0)))]) (.block 0 (.loop (.seq (.seq (.ops [(none, (.cp 7 4)), (none, (.cp 8 0)), (none, (.len (some 9) (.t 8) false true)), (none, (.bin (some 10) .lss (.t 7) (.t 9) false false)), (none, (.cp 11 10)), ((some (11, true)), (.cp 12 3)), ((some (11, true)), (.bin (some 13) .lss (.t 12) (.k (.int .i64 1048576)) false false)), (none, (.pick (some 14) (.t 11) (.t 13) (.k (.bool false))))]) (.cond (.t 14) .skip (.exit 0))) (.seq (.block 1 (.ops [(none, (.cp 17 3)), (none, (.cp 18 0)), (none, (.cp 19 4)), (none, (.ia (some 20) (.t 18) (.t 19) (some 1) none)), (none, (.ld (some 21) (.t 20) (.one none))), (none, (.len (some 22) (.t 21) true false)), (none, (.bin (some 23) .add (.t 17) (.t 22) false false)), (none, (.mv 3 23))])) (.ops [(none, (.cp 15 4)), (none, (.bin (some 16) .add (.t 15) (.k (.int .i64 1)) false false)), (none, (.mv 4 16))])))))) (.seq (.ops [(none, (.mv 24 3)), (none, (.mv 2 24))]) .ret))))))) := by kernel_rfl
theorem c13 : compF Tryd.prog ow Tryd.f13 = (some (19, ([(.t 2)], (.seq (.ops [(none, (.box 1 (.t 0))), (none, (.set 2 (.bool false)))]) (.seq (.ops [(none, (.fa (some 3) (.t 1) 0)), (none, (.ld (some 4) (.t 3) (.one (some 2)))), (none, (.len (some 5) (.t 4) false true)), (none, (.bin (some 6) .gtr (.t 5) (.k (.int .i64 200)) false false)), (none, (.cp 7 6)), ((some (7, false)), (.fa (some 8) (.t 1) 1)), ((some (7, false)), (.ld (some 9) (.t 8) (.one (some 1)))), ((some (7, false)), (.len (some 10) (.t 9) false true)), ((some (7, false)), (.bin (some 11) .gtr (.t 10) (.k (.int .i64 200)) false false)), (none, (.pick (some 12) (.t 7) (.k (.bool true)) (.t 11))), (none, (.cp 13 12)), ((some (13, false)), (.fa (some 14) (.t 1) 2)), ((some (13, false)), (.ld (some 15) (.t 14) (.one (some 1)))), ((some (13, false)), (.call (some 16) (.k (.func 23 [] [])) [(.t 15)] none)), ((some (13, false)), (.bin (some 17) .gtr (.t 16) (.k (.int .i64 2000)) false false)), (none, (.pick (some 18) (.t 13) (.k (.bool true)) (.t 17))), (none, (.mv 2 18))]) .ret))))) := by kernel_rfl
theorem c22 : compF Tryd.prog ow Tryd.f22 = (some (17, ([(.t 0)], (.seq (.ops [(none, (.set 0 (.bool false)))]) (.seq (.ops [(none, (.bld (some 4) [(.int .i64 0), (.int .i64 0)] [(0, 1), (1, 1)] [(0, (.k (.int .i64 1))), (1, (.k (.int .i64 2)))])), (none, (.bld (some 5) [(.int .i64 0), (.int .i64 0)] [(0, 1), (1, 1)] [(0, (.k (.int .i64 3))), (1, (.k (.int .i64 4)))])), (none, (.call (some 6) (.k (.func 33 [] [])) [(.t 4), (.t 5)] none)), (none, (.cp 3 6)), (none, (.ext (some 7) (.t 3) 0)), (none, (.ext (some 8) (.t 3) 1)), (none, (.mv 1 7)), (none, (.mv 2 8))]) (.seq (.ops [(none, (.cp 9 2)), (none, (.call (some 10) (.k (.func 19 [] [])) [(.t 9)] none)), (none, (.bin (some 11) .eql (.t 10) (.k (.int .i64 0)) false false)), (none, (.cp 12 11)), ((some (12, true)), (.cp 13 1)), ((some (12, true)), (.bs 14 1 [(.k (.int .i64 1))])), ((some (12, true)), (.call (some 15) (.k (.func 34 [] [])) [(.t 13), (.t 14)] none)), (none, (.pick (some 16) (.t 12) (.t 15) (.k (.bool false)))), (none, (.mv 0 16))]) .ret)))))) := by kernel_rfl
theorem c33 : compF Tryd.prog ow Tryd.f33 = (some (29, ([(.t 4), (.t 5)], (.seq (.ops [(none, (.box 2 (.t 0))), (none, (.box 3 (.t 1))), (none, (.set 4 (.sl .full 1 []))), (none, (.set 5 (.int .i64 0)))]) (.seq (.seq (.ops [(none, (.ld (some 8) (.t 2) (.agg 2))), (none, (.call (some 9) (.k (.func 45 [] [])) [(.t 8)] none)), (none, (.un (some 10) .not (.t 9))), (none, (.cp 11 10)), ((some (11, false)), (.ld (some 12) (.t 3) (.agg 2))), ((some (11, false)), (.call (some 13) (.k (.func 45 [] [])) [(.t 12)] none)), ((some (11, false)), (.un (some 14) .not (.t 13))), (none, (.pick (some 15) (.t 11) (.k (.bool true)) (.t 14)))]) (.cond (.t 15) (.seq (.ops [(none, (.set 4 (.sl .full 1 []))), (none, (.set 5 (.int .i64 1)))]) .ret) .skip)) (.seq (.ops [(none, (.set 6 (.sl .full 1 [])))]) (.seq (.seq (.ops [(none, (.set 7 (.int .i64 1)))]) (.block 0 (.loop (.seq (.seq (.ops [(none, (.cp 16 7)), (none, (.bin (some 17) .leq (.t 16) (.k (.int .i64 13)) false false))]) (.cond (.t 17) .skip (.exit 0))) (.seq (.block 1 (.seq (.ops [(none, (.cp 20 7)), (none, (.ld (some 21) (.t 2) (.agg 2))), (none, (.ld (some 22) (.t 3) (.agg 2))), (none, (.call (some 23) (.k (.func 46 [] [])) [(.t 20), (.t 21), (.t 22)] none))]) (.cond (.t 23) (.ops [(none, (.mv 24 6)), (none, (.cp 25 7)), (none, (.bs 26 1 [(.t 25)])), (none, (.app 27 (.t 24) (.t 26) 1 8 true true)), (none, (.mv 6 27))]) .skip))) (.ops [(none, (.cp 18 7)), (none, (.bin (some 19) .add (.t 18) (.k (.int .i64 1)) false false)), (none, (.mv 7 19))])))))) (.seq (.ops [(none, (.mv 28 6)), (none, (.mv 4 28)), (none, (.set 5 (.int .i64 0)))]) .ret)))))))) := by kernel_rfl
theorem c46 : compF Tryd.prog ow Tryd.f46 = (some (95, ([(.t 6)], (.seq (.ops [(none, (.box 4 (.t 1))), (none, (.box 5 (.t 2))), (none, (.set 6 (.bool false)))]) (.seq (.seq (.ops [(none, (.cp 7 0))]) (.block 0 (.seq (.ops [(none, (.bin (some 9) .eql (.t 7) (.k (.int .i64 1)) false false)), (none, (.mv 8 9))]) (.cond (.t 8) (.seq (.ops [(none, (.fa (some 10) (.t 4) 1)), (none, (.ld (some 11) (.t 10) (.one none))), (none, (.fa (some 12) (.t 5) 0)), (none, (.ld (some 13) (.t 12) (.one none))), (none, (.bin (some 14) .lss (.t 11) (.t 13) false false)), (none, (.mv 6 14))]) .ret) (.seq (.ops [(none, (.bin (some 16) .eql (.t 7) (.k (.int .i64 2)) false false)), (none, (.mv 15 16))]) (.cond (.t 15) (.seq (.ops [(none, (.fa (some 17) (.t 4) 1)), (none, (.ld (some 18) (.t 17) (.one none))), (none, (.fa (some 19) (.t 5) 0)), (none, (.ld (some 20) (.t 19) (.one none))), (none, (.bin (some 21) .eql (.t 18) (.t 20) false false)), (none, (.mv 6 21))]) .ret) (.seq (.ops [(none, (.bin (some 23) .eql (.t 7) (.k (.int .i64 3)) false false)), (none, (.mv 22 23))]) (.cond (.t 22) (.seq (.ops [(none, (.fa (some 24) (.t 4) 0)), (none, (.ld (some 25) (.t 24) (.one none))), (none, (.fa (some 26) (.t 5) 0)), (none, (.ld (some 27) (.t 26) (.one none))), (none, (.bin (some 28) .lss (.t 25) (.t 27) false false)), (none, (.cp 29 28)), ((some (29, true)), (.fa (some 30) (.t 5) 0)), ((some (29, true)), (.ld (some 31) (.t 30) (.one none))), ((some (29, true)), (.fa (some 32) (.t 4) 1)), ((some (29, true)), (.ld (some 33) (.t 32) (.one none))), ((some (29, true)), (.bin (some 34) .lss (.t 31) (.t 33) false false)), (none, (.pick (some 35) (.t 29) (.t 34) (.k (.bool false)))), (none, (.cp 36 35)), ((some (36, true)), (.fa (some 37) (.t 4) 1)), ((some (36, true)), (.ld (some 38) (.t 37) (.one none))), ((some (36, true)), (.fa (some 39) (.t 5) 1)), ((some (36, true)), (.ld (some 40) (.t 39) (.one none))), ((some (36, true)), (.bin (some 41) .lss (.t 38) (.t 40) false false)), (none, (.pick (some 42) (.t 36) (.t 41) (.k (.bool false)))), (none, (.mv 6 42))]) .ret) (.seq (.ops [(none, (.bin (some 44) .eql (.t 7) (.k (.int .i64 4)) false false)), (none, (.mv 43 44))]) (.cond (.t 43) (.seq (.ops [(none, (.fa (some 45) (.t 4) 0)), (none, (.ld (some 46) (.t 45) (.one none))), (none, (.fa (some 47) (.t 5) 0)), (none, (.ld (some 48) (.t 47) (.one none))), (none, (.bin (some 49) .eql (.t 46) (.t 48) false false)), (none, (.cp 50 49)), ((some (50, true)), (.fa (some 51) (.t 4) 1)), ((some (50, true)), (.ld (some 52) (.t 51) (.one none))), ((some (50, true)), (.fa (some 53) (.t 5) 1)), ((some (50, true)), (.ld (some 54) (.t 53) (.one none))), ((some (50, true)), (.bin (some 55) .lss (.t 52) (.t 54) false false)), (none, (.pick (some 56) (.t 50) (.t 55) (.k (.bool false)))), (none, (.mv 6 56))]) .ret) (.seq (.ops [(none, (.bin (some 58) .eql (.t 7) (.k (.int .i64 5)) false false)), (none, (.mv 57 58))]) (.cond (.t 57) (.seq (.ops [(none, (.fa (some 59) (.t 5) 0)), (none, (.ld (some 60) (.t 59) (.one none))), (none, (.fa (some 61) (.t 4) 0)), (none, (.ld (some 62) (.t 61) (.one none))), (none, (.bin (some 63) .lss (.t 60) (.t 62) false false)), (none, (.cp 64 63)), ((some (64, true)), (.fa (some 65) (.t 4) 1)), ((some (64, true)), (.ld (some 66) (.t 65) (.one none))), ((some (64, true)), (.fa (some 67) (.t 5) 1)), ((some (64, true)), (.ld (some 68) (.t 67) (.one none))), ((some (64, true)), (.bin (some 69) .lss (.t 66) (.t 68) false false)), (none, (.pick (some 70) (.t 64) (.t 69) (.k (.bool false)))), (none, (.mv 6 70))]) .ret) (.seq (.ops [(none, (.bin (some 72) .eql (.t 7) (.k (.int .i64 6)) false false)), (none, (.mv 71 72))]) (.cond (.t 71) (.seq (.ops [(none, (.fa (some 73) (.t 4) 1)), (none, (.ld (some 74) (.t 73) (.one none))), (none, (.fa (some 75) (.t 5) 1)), (none, (.ld (some 76) (.t 75) (.one none))), (none, (.bin (some 77) .eql (.t 74) (.t 76) false false)), (none, (.cp 78 77)), ((some (78, true)), (.fa (some 79) (.t 5) 0)), ((some (78, true)), (.ld (some 80) (.t 79) (.one none))), ((some (78, true)), (.fa (some 81) (.t 4) 0)), ((some (78, true)), (.ld (some 82) (.t 81) (.one none))), ((some (78, true)), (.bin (some 83) .lss (.t 80) (.t 82) false false)), (none, (.pick (some 84) (.t 78) (.t 83) (.k (.bool false)))), (none, (.mv 6 84))]) .ret) (.seq (.ops [(none, (.bin (some 86) .eql (.t 7) (.k (.int .i64 7)) false false)), (none, (.mv 85 86))]) (.cond (.t 85) (.seq (.ops [(none, (.ld (some 87) (.t 4) (.agg 2))), (none, (.ld (some 88) (.t 5) (.agg 2))), (none, (.x (some 89) (.eqs false [(.i .i64), (.i .i64)]) [(.t 87), (.t 88)])), (none, (.mv 6 89))]) .ret) .skip)))))))))))))))) (.seq (.opsD [(none, (.cp 90 0)), (none, (.call (some 91) (.k (.func 30 [] [])) [(.t 90)] none)), (none, (.ld (some 92) (.t 5) (.agg 2))), (none, (.ld (some 93) (.t 4) (.agg 2))), (none, (.call (some 94) (.k (.func 46 [] [])) [(.t 91), (.t 92), (.t 93)] none)), (none, (.mv 6 94))]) .ret)))))) := by kernel_rfl
theorem c45 : compF Tryd.prog ow Tryd.f45 = (some (18, ([(.t 2)], (.seq (.ops [(none, (.box 1 (.t 0))), (none, (.set 2 (.bool false)))]) (.seq (.ops [(none, (.fa (some 3) (.t 1) 0)), (none, (.ld (some 4) (.t 3) (.one none))), (none, (.bin (some 5) .geq (.t 4) (.k (.int .i64 (-1073741824))) false false)), (none, (.cp 6 5)), ((some (6, true)), (.fa (some 7) (.t 1) 0)), ((some (6, true)), (.ld (some 8) (.t 7) (.one none))), ((some (6, true)), (.fa (some 9) (.t 1) 1)), ((some (6, true)), (.ld (some 10) (.t 9) (.one none))), ((some (6, true)), (.bin (some 11) .leq (.t 8) (.t 10) false false)), (none, (.pick (some 12) (.t 6) (.t 11) (.k (.bool false)))), (none, (.cp 13 12)), ((some (13, true)), (.fa (some 14) (.t 1) 1)), ((some (13, true)), (.ld (some 15) (.t 14) (.one none))), ((some (13, true)), (.bin (some 16) .leq (.t 15) (.k (.int .i64 1073741824)) false false)), (none, (.pick (some 17) (.t 13) (.t 16) (.k (.bool false)))), (none, (.mv 2 17))]) .ret))))) := by kernel_rfl
theorem c34 : compF Tryd.prog ow Tryd.f34 = (some (26, ([(.t 4)], (.seq (.ops [(none, (.set 4 (.bool false)))]) (.seq (.seq (.ops [(none, (.cp 6 0)), (none, (.len (some 7) (.t 6) false true)), (none, (.cp 8 1)), (none, (.len (some 9) (.t 8) false true)), (none, (.bin (some 10) .neq (.t 7) (.t 9) false false))]) (.cond (.t 10) (.seq (.ops [(none, (.set 4 (.bool false)))]) .ret) .skip)) (.seq (.seq (.ops [(none, (.set 5 (.int .i64 0)))]) (.block 0 (.loop (.seq (.seq (.ops [(none, (.cp 11 5)), (none, (.cp 12 0)), (none, (.len (some 13) (.t 12) false true)), (none, (.bin (some 14) .lss (.t 11) (.t 13) false false))]) (.cond (.t 14) .skip (.exit 0))) (.seq (.block 1 (.seq (.opsD [(none, (.cp 17 0)), (none, (.cp 18 5)), (none, (.ia (some 19) (.t 17) (.t 18) (some 1) none)), (none, (.ld (some 20) (.t 19) (.one none))), (none, (.cp 21 1)), (none, (.cp 22 5)), (none, (.ia (some 23) (.t 21) (.t 22) (some 1) none)), (none, (.ld (some 24) (.t 23) (.one none))), (none, (.bin (some 25) .neq (.t 20) (.t 24) false false))]) (.cond (.t 25) (.seq (.ops [(none, (.set 4 (.bool false)))]) .ret) .skip))) (.ops [(none, (.cp 15 5)), (none, (.bin (some 16) .add (.t 15) (.k (.int .i64 1)) false false)), (none, (.mv 5 16))])))))) (.seq (.ops [(none, (.set 4 (.bool true)))]) .ret))))))) := by kernel_rfl
def txtF : Nat → List (List UInt8) → Nat
  | t, [] => t
  | t, x :: xs => if t < 1048576 then txtF (t + x.length) xs else t
theorem txtF_ge : ∀ (xs : List (List UInt8)) (t : Nat), t ≤ txtF t xs
  | [], t => Nat.le_refl _
  | x :: xs, t => by
    rw [txtF]; split
    · have := txtF_ge xs (t + x.length); omega
    · exact Nat.le_refl _
theorem txtF_each : ∀ (xs : List (List UInt8)) (t : Nat), txtF t xs < 1048576 → ∀ x ∈ xs, x.length ≤ txtF t xs
  | [], t, _, x, hx => by cases hx
  | y :: xs, t, h, x, hx => by
    rw [txtF] at h ⊢
    split at h
    · rename_i ht
      rw [if_pos ht]
      rcases List.mem_cons.1 hx with rfl | hx
      · have := txtF_ge xs (t + x.length); omega
      · exact txtF_each xs _ h x hx
    · omega
theorem fn0_Texts (xs : List (List UInt8)) (hl : xs.length < 1000000000000000) (hs : ∀ x ∈ xs, x.length ≤ 140737488351232) : PFn Tryd.prog 23 [.sl .sh 1 (xs.map AV.str)] (.int .i64 (txtF xs.length xs : Nat)) := by
  intro h
  refine fnC mixed Tryd.func23 c23 (by simp) ?_
  generalize hR : txtF xs.length xs = R
  simp only [go_sem, Nat.reduceEqDiff, Nat.reduceAdd, Nat.reduceLeDiff, Nat.reduceLT, ↓reduceIte, reduceCtorEq, Int.reduceLT, Int.reduceToNat, Int.reduceEq, Int.reduceBEq, Int.reduceBNe, Nat.reduceBEq]
  refine cloop (fun k t => ∃ i n : Nat, i + k = xs.length ∧ n < 1000000000000000 ∧ t.fr 0 = .sl .sh 1 (xs.map AV.str) ∧ t.fr 3 = .int .i64 (n : Nat) ∧ t.fr 4 = .int .i64 (i : Nat) ∧ txtF n (xs.drop i) = R ∧ t.hp = h) xs.length ⟨0, xs.length, by omega, by omega, by simp [fr_apply, argsF], by simp [fr_apply], by simp [fr_apply], hR, rfl⟩ ?_
  clear hR
  rintro k ⟨F, hp⟩ ⟨i, n, hk, hn, f0, f3, f4, hR, rfl⟩
  simp only at f0 f3 f4
  by_cases hi : i < xs.length
  · have hi' : decide ((i : Int) < (xs.length : Int)) = true := decide_eq_true (by omega)
    have hw : IntKind.i64.wrap ((i : Int) + 1) = ((i + 1 : Nat) : Int) := by rw [wrap64] <;> omega
    have hx : (xs.map AV.str)[i]? = some (.str xs[i]) := by rw [List.getElem?_map, List.getElem?_eq_getElem hi]; rfl
    have hxl := hs xs[i] (List.getElem_mem _)
    rw [List.drop_eq_getElem_cons hi, txtF] at hR
    generalize xs[i] = x at hx hxl hR
    by_cases hb : n < 1048576
    · have hb' : decide ((n : Int) < 1048576) = true := decide_eq_true (by omega)
      have hw2 : IntKind.i64.wrap ((n : Int) + (x.length : Int)) = ((n + x.length : Nat) : Int) := by rw [wrap64] <;> omega
      rw [if_pos hb] at hR
      simp only [go_sem, Nat.reduceEqDiff, Nat.reduceAdd, Nat.reduceLeDiff, Nat.reduceLT, ↓reduceIte, reduceCtorEq, Int.reduceLT, Int.reduceToNat, Int.reduceEq, Int.reduceBEq, Int.reduceBNe, Nat.reduceBEq, f0, f3, f4, hi', hb', hx, hw, hw2]
      exact ⟨k - 1, by omega, i + 1, n + x.length, by omega, by omega, rfl, rfl, hR⟩
    · have hb' : decide ((n : Int) < 1048576) = false := decide_eq_false (by omega)
      rw [if_neg hb] at hR
      subst hR
      simp only [go_sem, Nat.reduceEqDiff, Nat.reduceAdd, Nat.reduceLeDiff, Nat.reduceLT, ↓reduceIte, reduceCtorEq, Int.reduceLT, Int.reduceToNat, Int.reduceEq, Int.reduceBEq, Int.reduceBNe, Nat.reduceBEq, f0, f3, f4, hi', hb']
  · have hi' : decide ((i : Int) < (xs.length : Int)) = false := decide_eq_false (by omega)
    rw [List.drop_eq_nil_of_le (by omega), txtF] at hR
    subst hR
    simp only [go_sem, Nat.reduceEqDiff, Nat.reduceAdd, Nat.reduceLeDiff, Nat.reduceLT, ↓reduceIte, reduceCtorEq, Int.reduceLT, Int.reduceToNat, Int.reduceEq, Int.reduceBEq, Int.reduceBNe, Nat.reduceBEq, f0, f3, f4, hi']
theorem fn7_Heavy (ss : List AV) (rs : List Int) (xs : List (List UInt8)) (hl : xs.length < 1000000000000000) (hs : ∀ x ∈ xs, x.length ≤ 140737488351232) : PFn Tryd.prog 13 [.agg [.sl .sh 2 ss, .sl .sh 1 (rs.map (AV.int .i64)), .sl .sh 1 (xs.map AV.str)]] (.bool (decide (ss.length > 200) || decide (rs.length > 200) || decide (txtF xs.length xs > 2000))) := by
  intro h
  have hT := fn0_Texts xs hl hs
  refine fnC mixed Tryd.func13 c13 (by simp) ?_
  generalize txtF xs.length xs = n at *
  have e1 : decide ((ss.length : Int) > 200) = decide (ss.length > 200) := by rw [Bool.eq_iff_iff]; simp; omega
  have e2 : decide ((rs.length : Int) > 200) = decide (rs.length > 200) := by rw [Bool.eq_iff_iff]; simp; omega
  have e3 : decide ((n : Int) > 2000) = decide (n > 2000) := by rw [Bool.eq_iff_iff]; simp; omega
  rw [← e1, ← e2, ← e3]
  cases h1 : decide ((ss.length : Int) > 200) with
  | true => simp only [go_sem, Nat.reduceEqDiff, Nat.reduceAdd, Nat.reduceLeDiff, Nat.reduceLT, ↓reduceIte, reduceCtorEq, Int.reduceLT, Int.reduceToNat, Int.reduceEq, Int.reduceBEq, Int.reduceBNe, Nat.reduceBEq, h1, Bool.true_or]
  | false =>
    cases h2 : decide ((rs.length : Int) > 200) with
    | true => simp only [go_sem, Nat.reduceEqDiff, Nat.reduceAdd, Nat.reduceLeDiff, Nat.reduceLT, ↓reduceIte, reduceCtorEq, Int.reduceLT, Int.reduceToNat, Int.reduceEq, Int.reduceBEq, Int.reduceBNe, Nat.reduceBEq, h1, h2, Bool.true_or, Bool.false_or]
    | false =>
      simp only [go_sem, Nat.reduceEqDiff, Nat.reduceAdd, Nat.reduceLeDiff, Nat.reduceLT, ↓reduceIte, reduceCtorEq, Int.reduceLT, Int.reduceToNat, Int.reduceEq, Int.reduceBEq, Int.reduceBNe, Nat.reduceBEq, h1, h2, Bool.false_or]
      refine pcall hT (by simp only [go_sem, Nat.reduceEqDiff, Nat.reduceAdd, Nat.reduceLeDiff, Nat.reduceLT, ↓reduceIte, reduceCtorEq, Int.reduceLT, Int.reduceToNat, Int.reduceEq, Int.reduceBEq, Int.reduceBNe, Nat.reduceBEq]) ?_
      simp only [go_sem, Nat.reduceEqDiff, Nat.reduceAdd, Nat.reduceLeDiff, Nat.reduceLT, ↓reduceIte, reduceCtorEq, Int.reduceLT, Int.reduceToNat, Int.reduceEq, Int.reduceBEq, Int.reduceBNe, Nat.reduceBEq]
theorem evX_span (hp : Hp) (a b c d : Int) : evX (.eqs false [.i .i64, .i .i64]) hp [.agg [.int .i64 a, .int .i64 b], .agg [.int .i64 c, .int .i64 d]] = some (.bool (a == c && b == d), hp) := by
  simp [evX, cellsEq, cellEq]
abbrev spA (a b : Int) : AV := .agg [.int .i64 a, .int .i64 b]
theorem fns_May (a b : Int) (h1 : decide (a ≥ -1073741824) = true) (h2 : decide (a ≤ b) = true) (h3 : decide (b ≤ 1073741824) = true) : PFn Tryd.prog 45 [spA a b] (.bool true) := by
  intro h
  refine fnC mixed Tryd.func45 c45 (by simp) ?_
  simp only [go_sem, Nat.reduceEqDiff, Nat.reduceAdd, Nat.reduceLeDiff, Nat.reduceLT, ↓reduceIte, reduceCtorEq, Int.reduceLT, Int.reduceToNat, Int.reduceEq, Int.reduceBEq, Int.reduceBNe, Nat.reduceBEq, h1, h2, h3]
theorem fns_So34 (r : Nat) (h1 : 1 ≤ r) (h2 : r < 7) : PFn Tryd.prog 46 [.int .i64 (r : Nat), spA 3 4, spA 1 2] (.bool false) := by
  intro h
  refine fnC mixed Tryd.func46 c46 (by simp) ?_
  have hr : r = 1 ∨ r = 2 ∨ r = 3 ∨ r = 4 ∨ r = 5 ∨ r = 6 := by omega
  have n1 : ¬ (h.n = h.n + 1) := by omega
  have n2 : ¬ (h.n + 1 = h.n) := by omega
  have d1 : decide ((4 : Int) < 1) = false := by decide
  have d2 : decide ((3 : Int) < 1) = false := by decide
  have d3 : decide ((1 : Int) < 3) = true := by decide
  have d4 : decide ((4 : Int) < 2) = false := by decide
  rcases hr with rfl | rfl | rfl | rfl | rfl | rfl
  · simp only [go_sem, Nat.reduceEqDiff, Nat.reduceAdd, Nat.reduceLeDiff, Nat.reduceLT, ↓reduceIte, reduceCtorEq, Int.reduceLT, Int.reduceToNat, Int.reduceEq, Int.reduceBEq, Int.reduceBNe, Nat.reduceBEq, n1, n2, d1, d2, d3, d4]
  · simp only [go_sem, Nat.reduceEqDiff, Nat.reduceAdd, Nat.reduceLeDiff, Nat.reduceLT, ↓reduceIte, reduceCtorEq, Int.reduceLT, Int.reduceToNat, Int.reduceEq, Int.reduceBEq, Int.reduceBNe, Nat.reduceBEq, n1, n2, d1, d2, d3, d4]
  · simp only [go_sem, Nat.reduceEqDiff, Nat.reduceAdd, Nat.reduceLeDiff, Nat.reduceLT, ↓reduceIte, reduceCtorEq, Int.reduceLT, Int.reduceToNat, Int.reduceEq, Int.reduceBEq, Int.reduceBNe, Nat.reduceBEq, n1, n2, d1, d2, d3, d4]
  · simp only [go_sem, Nat.reduceEqDiff, Nat.reduceAdd, Nat.reduceLeDiff, Nat.reduceLT, ↓reduceIte, reduceCtorEq, Int.reduceLT, Int.reduceToNat, Int.reduceEq, Int.reduceBEq, Int.reduceBNe, Nat.reduceBEq, n1, n2, d1, d2, d3, d4]
  · simp only [go_sem, Nat.reduceEqDiff, Nat.reduceAdd, Nat.reduceLeDiff, Nat.reduceLT, ↓reduceIte, reduceCtorEq, Int.reduceLT, Int.reduceToNat, Int.reduceEq, Int.reduceBEq, Int.reduceBNe, Nat.reduceBEq, n1, n2, d1, d2, d3, d4]
  · simp only [go_sem, Nat.reduceEqDiff, Nat.reduceAdd, Nat.reduceLeDiff, Nat.reduceLT, ↓reduceIte, reduceCtorEq, Int.reduceLT, Int.reduceToNat, Int.reduceEq, Int.reduceBEq, Int.reduceBNe, Nat.reduceBEq, n1, n2, d1, d2, d3, d4]
theorem fns_So12 (r : Nat) (h1 : 1 ≤ r) (h2 : r ≤ 13) : PFn Tryd.prog 46 [.int .i64 (r : Nat), spA 1 2, spA 3 4] (.bool (decide (r = 1))) := by
  intro h
  refine fnC mixed Tryd.func46 c46 (by simp) ?_
  have n1 : ¬ (h.n = h.n + 1) := by omega
  have n2 : ¬ (h.n + 1 = h.n) := by omega
  have d1 : decide ((2 : Int) < 3) = true := by decide
  have d2 : decide ((1 : Int) < 3) = true := by decide
  have d3 : decide ((3 : Int) < 2) = false := by decide
  have d4 : decide ((3 : Int) < 1) = false := by decide
  by_cases h7 : r ≤ 7
  · have hr : r = 1 ∨ r = 2 ∨ r = 3 ∨ r = 4 ∨ r = 5 ∨ r = 6 ∨ r = 7 := by omega
    rcases hr with rfl | rfl | rfl | rfl | rfl | rfl | rfl
    · simp only [go_sem, Nat.reduceEqDiff, Nat.reduceAdd, Nat.reduceLeDiff, Nat.reduceLT, ↓reduceIte, reduceCtorEq, Int.reduceLT, Int.reduceToNat, Int.reduceEq, Int.reduceBEq, Int.reduceBNe, Nat.reduceBEq, n1, n2, d1, d2, d3, d4]
    · simp only [go_sem, Nat.reduceEqDiff, Nat.reduceAdd, Nat.reduceLeDiff, Nat.reduceLT, ↓reduceIte, reduceCtorEq, Int.reduceLT, Int.reduceToNat, Int.reduceEq, Int.reduceBEq, Int.reduceBNe, Nat.reduceBEq, n1, n2, d1, d2, d3, d4]
    · simp only [go_sem, Nat.reduceEqDiff, Nat.reduceAdd, Nat.reduceLeDiff, Nat.reduceLT, ↓reduceIte, reduceCtorEq, Int.reduceLT, Int.reduceToNat, Int.reduceEq, Int.reduceBEq, Int.reduceBNe, Nat.reduceBEq, n1, n2, d1, d2, d3, d4]
    · simp only [go_sem, Nat.reduceEqDiff, Nat.reduceAdd, Nat.reduceLeDiff, Nat.reduceLT, ↓reduceIte, reduceCtorEq, Int.reduceLT, Int.reduceToNat, Int.reduceEq, Int.reduceBEq, Int.reduceBNe, Nat.reduceBEq, n1, n2, d1, d2, d3, d4]
    · simp only [go_sem, Nat.reduceEqDiff, Nat.reduceAdd, Nat.reduceLeDiff, Nat.reduceLT, ↓reduceIte, reduceCtorEq, Int.reduceLT, Int.reduceToNat, Int.reduceEq, Int.reduceBEq, Int.reduceBNe, Nat.reduceBEq, n1, n2, d1, d2, d3, d4]
    · simp only [go_sem, Nat.reduceEqDiff, Nat.reduceAdd, Nat.reduceLeDiff, Nat.reduceLT, ↓reduceIte, reduceCtorEq, Int.reduceLT, Int.reduceToNat, Int.reduceEq, Int.reduceBEq, Int.reduceBNe, Nat.reduceBEq, n1, n2, d1, d2, d3, d4]
    · have q := evX_span
      simp only [go_sem, Nat.reduceEqDiff, Nat.reduceAdd, Nat.reduceLeDiff, Nat.reduceLT, ↓reduceIte, reduceCtorEq, Int.reduceLT, Int.reduceToNat, Int.reduceEq, Int.reduceBEq, Int.reduceBNe, Nat.reduceBEq, n1, n2, d1, d2, d3, d4, q]
  · have e1 : decide (r = 1) = false := decide_eq_false (by omega)
    have hT := fns_turn (r : Nat)
    have w : IntKind.i64.wrap (14 - (r : Int)) = ((14 - r : Nat) : Int) := by rw [wrap64] <;> omega
    rw [w] at hT
    have hS := fns_So34 (14 - r) (by omega) (by omega)
    have e : ∀ k : Nat, k ≤ 7 → (((r : Nat) : Int) == (k : Int)) = false := fun k hk => by simp; omega
    have q1 := e 1 (by omega)
    have q2 := e 2 (by omega)
    have q3 := e 3 (by omega)
    have q4 := e 4 (by omega)
    have q5 := e 5 (by omega)
    have q6 := e 6 (by omega)
    have q7 := e 7 (by omega)
    simp only [Int.cast_ofNat_Int] at q1 q2 q3 q4 q5 q6 q7
    simp only [go_sem, Nat.reduceEqDiff, Nat.reduceAdd, Nat.reduceLeDiff, Nat.reduceLT, ↓reduceIte, reduceCtorEq, Int.reduceLT, Int.reduceToNat, Int.reduceEq, Int.reduceBEq, Int.reduceBNe, Nat.reduceBEq, q1, q2, q3, q4, q5, q6, q7, e1, n1, n2]
    refine pcallD hT (by simp only [go_sem, Nat.reduceEqDiff, Nat.reduceAdd, Nat.reduceLeDiff, Nat.reduceLT, ↓reduceIte, reduceCtorEq, Int.reduceLT, Int.reduceToNat, Int.reduceEq, Int.reduceBEq, Int.reduceBNe, Nat.reduceBEq]) ?_
    simp only [go_sem, Nat.reduceEqDiff, Nat.reduceAdd, Nat.reduceLeDiff, Nat.reduceLT, ↓reduceIte, reduceCtorEq, Int.reduceLT, Int.reduceToNat, Int.reduceEq, Int.reduceBEq, Int.reduceBNe, Nat.reduceBEq, n1, n2]
    refine pcallD hS (by simp only [go_sem, Nat.reduceEqDiff, Nat.reduceAdd, Nat.reduceLeDiff, Nat.reduceLT, ↓reduceIte, reduceCtorEq, Int.reduceLT, Int.reduceToNat, Int.reduceEq, Int.reduceBEq, Int.reduceBNe, Nat.reduceBEq]) ?_
    simp only [go_sem, Nat.reduceEqDiff, Nat.reduceAdd, Nat.reduceLeDiff, Nat.reduceLT, ↓reduceIte, reduceCtorEq, Int.reduceLT, Int.reduceToNat, Int.reduceEq, Int.reduceBEq, Int.reduceBNe, Nat.reduceBEq]
theorem fns_All12 : PFn Tryd.prog 33 [spA 1 2, spA 3 4] (.tup [.sl .sh 1 [.int .i64 1], .int .i64 0]) := by
  intro h
  refine fnC mixed Tryd.func33 c33 (by simp) ?_
  have n1 : ¬ (h.n = h.n + 1) := by omega
  have n2 : ¬ (h.n + 1 = h.n) := by omega
  have a3 : 1 * 8 ≤ 140737488355328 := by omega
  simp only [go_sem, Nat.reduceEqDiff, Nat.reduceAdd, Nat.reduceLeDiff, Nat.reduceLT, ↓reduceIte, reduceCtorEq, Int.reduceLT, Int.reduceToNat, Int.reduceEq, Int.reduceBEq, Int.reduceBNe, Nat.reduceBEq, n1, n2]
  refine pcall (fns_May 1 2 (by decide) (by decide) (by decide)) (by simp only [go_sem, Nat.reduceEqDiff, Nat.reduceAdd, Nat.reduceLeDiff, Nat.reduceLT, ↓reduceIte, reduceCtorEq, Int.reduceLT, Int.reduceToNat, Int.reduceEq, Int.reduceBEq, Int.reduceBNe, Nat.reduceBEq]) ?_
  simp only [go_sem, Nat.reduceEqDiff, Nat.reduceAdd, Nat.reduceLeDiff, Nat.reduceLT, ↓reduceIte, reduceCtorEq, Int.reduceLT, Int.reduceToNat, Int.reduceEq, Int.reduceBEq, Int.reduceBNe, Nat.reduceBEq, n1, n2]
  refine pcall (fns_May 3 4 (by decide) (by decide) (by decide)) (by simp only [go_sem, Nat.reduceEqDiff, Nat.reduceAdd, Nat.reduceLeDiff, Nat.reduceLT, ↓reduceIte, reduceCtorEq, Int.reduceLT, Int.reduceToNat, Int.reduceEq, Int.reduceBEq, Int.reduceBNe, Nat.reduceBEq]) ?_
  simp only [go_sem, Nat.reduceEqDiff, Nat.reduceAdd, Nat.reduceLeDiff, Nat.reduceLT, ↓reduceIte, reduceCtorEq, Int.reduceLT, Int.reduceToNat, Int.reduceEq, Int.reduceBEq, Int.reduceBNe, Nat.reduceBEq, n1, n2]
  refine cloop (fun k t => ∃ r : Nat, r + k = 14 ∧ 1 ≤ r ∧ t.fr 2 = .ptr h.n 0 ∧ t.fr 3 = .ptr (h.n + 1) 0 ∧ t.fr 6 = (if r = 1 then .sl .full 1 [] else .sl .own 1 [.int .i64 1]) ∧ t.fr 7 = .int .i64 (r : Nat) ∧ t.hp = ⟨h.n + 2, updB (updB h.bk h.n (.cells [.int .i64 1, .int .i64 2])) (h.n + 1) (.cells [.int .i64 3, .int .i64 4])⟩) 13 ⟨1, by omega, by omega, by simp [fr_apply], by simp [fr_apply], by simp [fr_apply], by simp [fr_apply], rfl⟩ ?_
  rintro k ⟨F, hp⟩ ⟨r, hk, h1, f2, f3, f6, f7, rfl⟩
  simp only at f2 f3 f6 f7
  by_cases hr : r ≤ 13
  · have hr' : decide ((r : Int) ≤ 13) = true := decide_eq_true (by omega)
    have hw : IntKind.i64.wrap ((r : Int) + 1) = ((r + 1 : Nat) : Int) := by rw [wrap64] <;> omega
    have hS := fns_So12 r h1 hr
    by_cases e1 : r = 1
    · subst e1
      rw [if_pos rfl] at f6
      have hS1 : PFn Tryd.prog 46 [.int .i64 1, spA 1 2, spA 3 4] (.bool true) := hS
      have f7' : F 7 = .int .i64 1 := f7
      have hr1 : decide ((1 : Int) ≤ 13) = true := by decide
      have hw1 : IntKind.i64.wrap (1 + 1) = 2 := by decide
      clear f7 hS hw hr'
      simp only [go_sem, Nat.reduceEqDiff, Nat.reduceAdd, Nat.reduceLeDiff, Nat.reduceLT, ↓reduceIte, reduceCtorEq, Int.reduceLT, Int.reduceToNat, Int.reduceEq, Int.reduceBEq, Int.reduceBNe, Nat.reduceBEq, f2, f3, f6, f7', hr1, n1, n2]
      refine pcall hS1 (by simp only [go_sem, Nat.reduceEqDiff, Nat.reduceAdd, Nat.reduceLeDiff, Nat.reduceLT, ↓reduceIte, reduceCtorEq, Int.reduceLT, Int.reduceToNat, Int.reduceEq, Int.reduceBEq, Int.reduceBNe, Nat.reduceBEq]) ?_
      simp only [go_sem, Nat.reduceEqDiff, Nat.reduceAdd, Nat.reduceLeDiff, Nat.reduceLT, ↓reduceIte, reduceCtorEq, Int.reduceLT, Int.reduceToNat, Int.reduceEq, Int.reduceBEq, Int.reduceBNe, Nat.reduceBEq, f2, f3, f6, f7', hw1, n1, n2, a3, Int.le_refl]
      exact ⟨k - 1, by omega, 2, by omega, by omega, by simp, by simp⟩
    · rw [if_neg e1] at f6
      have e1' : decide (r = 1) = false := decide_eq_false e1
      rw [e1'] at hS
      simp only [go_sem, Nat.reduceEqDiff, Nat.reduceAdd, Nat.reduceLeDiff, Nat.reduceLT, ↓reduceIte, reduceCtorEq, Int.reduceLT, Int.reduceToNat, Int.reduceEq, Int.reduceBEq, Int.reduceBNe, Nat.reduceBEq, f2, f3, f6, f7, hr', n1, n2]
      refine pcall hS (by simp only [go_sem, Nat.reduceEqDiff, Nat.reduceAdd, Nat.reduceLeDiff, Nat.reduceLT, ↓reduceIte, reduceCtorEq, Int.reduceLT, Int.reduceToNat, Int.reduceEq, Int.reduceBEq, Int.reduceBNe, Nat.reduceBEq]) ?_
      simp only [go_sem, Nat.reduceEqDiff, Nat.reduceAdd, Nat.reduceLeDiff, Nat.reduceLT, ↓reduceIte, reduceCtorEq, Int.reduceLT, Int.reduceToNat, Int.reduceEq, Int.reduceBEq, Int.reduceBNe, Nat.reduceBEq, f2, f3, f6, f7, hw, n1, n2]
      exact ⟨k - 1, by omega, r + 1, by omega, by omega, by rw [if_neg (by omega)], by simp⟩
  · have hr' : decide ((r : Int) ≤ 13) = false := decide_eq_false (by omega)
    rw [if_neg (by omega)] at f6
    simp only [go_sem, Nat.reduceEqDiff, Nat.reduceAdd, Nat.reduceLeDiff, Nat.reduceLT, ↓reduceIte, reduceCtorEq, Int.reduceLT, Int.reduceToNat, Int.reduceEq, Int.reduceBEq, Int.reduceBNe, Nat.reduceBEq, f2, f3, f6, f7, hr', n1, n2]
theorem fns_EqN : PFn Tryd.prog 34 [.sl .sh 1 [.int .i64 1], .sl .sh 1 [.int .i64 1]] (.bool true) := by
  intro h
  refine fnC mixed Tryd.func34 c34 (by simp) ?_
  simp only [go_sem, Nat.reduceEqDiff, Nat.reduceAdd, Nat.reduceLeDiff, Nat.reduceLT, ↓reduceIte, reduceCtorEq, Int.reduceLT, Int.reduceToNat, Int.reduceEq, Int.reduceBEq, Int.reduceBNe, Nat.reduceBEq]
  refine cloop (fun k t => ∃ i : Nat, i + k = 1 ∧ t.fr 0 = .sl .sh 1 [.int .i64 1] ∧ t.fr 1 = .sl .sh 1 [.int .i64 1] ∧ t.fr 5 = .int .i64 (i : Nat) ∧ t.hp = h) 1 ⟨0, by omega, by simp [fr_apply, argsF], by simp [fr_apply, argsF], by simp [fr_apply], rfl⟩ ?_
  rintro k ⟨F, hp⟩ ⟨i, hk, f0, f1, f5, rfl⟩
  simp only at f0 f1 f5
  have hi : i = 0 ∨ i = 1 := by omega
  have d1 : decide (((0 : Nat) : Int) < 1) = true := by decide
  have d2 : decide (((1 : Nat) : Int) < 1) = false := by decide
  have w0 : IntKind.i64.wrap (((0 : Nat) : Int) + 1) = ((1 : Nat) : Int) := by decide
  rcases hi with rfl | rfl
  · simp only [go_sem, Nat.reduceEqDiff, Nat.reduceAdd, Nat.reduceLeDiff, Nat.reduceLT, ↓reduceIte, reduceCtorEq, Int.reduceLT, Int.reduceToNat, Int.reduceEq, Int.reduceBEq, Int.reduceBNe, Nat.reduceBEq, f0, f1, f5, d1, w0, Int.le_refl]
    exact ⟨0, by omega, 1, by omega, rfl⟩
  · simp only [go_sem, Nat.reduceEqDiff, Nat.reduceAdd, Nat.reduceLeDiff, Nat.reduceLT, ↓reduceIte, reduceCtorEq, Int.reduceLT, Int.reduceToNat, Int.reduceEq, Int.reduceBEq, Int.reduceBNe, Nat.reduceBEq, f0, f1, f5, d2]
theorem fn7_wakes : PFn Tryd.prog 22 [] (.bool true) := by
  intro h
  refine fnC mixed Tryd.func22 c22 (by simp) ?_
  simp only [go_sem, Nat.reduceEqDiff, Nat.reduceAdd, Nat.reduceLeDiff, Nat.reduceLT, ↓reduceIte, reduceCtorEq, Int.reduceLT, Int.reduceToNat, Int.reduceEq, Int.reduceBEq, Int.reduceBNe, Nat.reduceBEq]
  refine pcall fns_All12 (by simp only [go_sem, Nat.reduceEqDiff, Nat.reduceAdd, Nat.reduceLeDiff, Nat.reduceLT, ↓reduceIte, reduceCtorEq, Int.reduceLT, Int.reduceToNat, Int.reduceEq, Int.reduceBEq, Int.reduceBNe, Nat.reduceBEq]) ?_
  simp only [go_sem, Nat.reduceEqDiff, Nat.reduceAdd, Nat.reduceLeDiff, Nat.reduceLT, ↓reduceIte, reduceCtorEq, Int.reduceLT, Int.reduceToNat, Int.reduceEq, Int.reduceBEq, Int.reduceBNe, Nat.reduceBEq]
  refine pcall (fn7_num 0) (by simp only [go_sem, Nat.reduceEqDiff, Nat.reduceAdd, Nat.reduceLeDiff, Nat.reduceLT, ↓reduceIte, reduceCtorEq, Int.reduceLT, Int.reduceToNat, Int.reduceEq, Int.reduceBEq, Int.reduceBNe, Nat.reduceBEq]) ?_
  simp only [go_sem, Nat.reduceEqDiff, Nat.reduceAdd, Nat.reduceLeDiff, Nat.reduceLT, ↓reduceIte, reduceCtorEq, Int.reduceLT, Int.reduceToNat, Int.reduceEq, Int.reduceBEq, Int.reduceBNe, Nat.reduceBEq]
  refine pcall fns_EqN (by simp only [go_sem, Nat.reduceEqDiff, Nat.reduceAdd, Nat.reduceLeDiff, Nat.reduceLT, ↓reduceIte, reduceCtorEq, Int.reduceLT, Int.reduceToNat, Int.reduceEq, Int.reduceBEq, Int.reduceBNe, Nat.reduceBEq]) ?_
  simp only [go_sem, Nat.reduceEqDiff, Nat.reduceAdd, Nat.reduceLeDiff, Nat.reduceLT, ↓reduceIte, reduceCtorEq, Int.reduceLT, Int.reduceToNat, Int.reduceEq, Int.reduceBEq, Int.reduceBNe, Nat.reduceBEq]
end Go.Proofs.YtnibelnjflhkgaaDoor.Ab
