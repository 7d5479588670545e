/- The statement LexBytes: its walk. No condition. -/
import Derived.Test.YtnibelnjflhkgaaDoorLa1
namespace Go.Proofs.YtnibelnjflhkgaaDoor.Ab
set_option linter.unusedVariables false
set_option linter.unusedSimpArgs false
set_option maxRecDepth 10000
attribute [local go_sem] decide_true decide_false Nat.zero_le Bool.not_true Bool.not_false Bool.false_eq_true if_false if_true forall_const true_and and_true List.map Option.map Bool.and_self Bool.and_true Bool.true_and Bool.false_and Bool.and_false List.getElem?_cons_zero List.getElem?_nil List.getElem?_cons_succ Int.natCast_nonneg Int.toNat_natCast List.length_map List.length_cons List.length_nil Nat.zero_add Nat.le_refl List.drop_zero List.drop_succ_cons List.take_succ_cons List.take_zero List.take_nil ne_eq not_true_eq_false not_false_eq_true upd_same Nat.add_assoc Nat.left_eq_add Nat.add_eq_left Nat.add_left_cancel_iff Nat.succ_ne_self Nat.one_ne_zero Nat.add_zero Nat.le_add_right ite_self List.set_cons_zero List.set_cons_succ List.all_cons List.all_nil bne_self_eq_false List.isEmpty_cons Int.cast_ofNat_Int Nat.mul_one List.nil_append or_self or_true true_or List.cons_append List.append_nil Option.none_beq_some Option.some_beq_some beq_self_eq_true
theorem c4 : compF Tryd.prog ow Tryd.f4 = (some (91, ([(.t 2)], (.seq (.ops [(none, (.box 1 (.t 0))), (none, (.set 2 (.bool false)))]) (.seq (.seq (.ops [(none, (.set 3 (.int .i64 0)))]) (.block 0 (.loop (.seq (.seq (.ops [(none, (.cp 13 3)), (none, (.bin (some 14) .lss (.t 13) (.k (.int .i64 256)) false false))]) (.cond (.t 14) .skip (.exit 0))) (.seq (.block 1 (.seq (.ops [(none, (.cp 17 3)), (none, (.cvt (some 18) (.t 17) (some .u8) false false)), (none, (.bs 19 1 [(.t 18)])), (none, (.x (some 20) .bs [(.t 19)])), (none, (.mv 4 20))]) (.seq (.ops [(none, (.cp 21 4)), (none, (.cp 22 4)), (none, (.bin (some 23) .add (.k (.str [97])) (.t 22) false false)), (none, (.cp 24 4)), (none, (.bin (some 25) .add (.k (.str [49])) (.t 24) false false)), (none, (.cp 26 4)), (none, (.bin (some 27) .add (.k (.str [88])) (.t 26) false false)), (none, (.bin (some 28) .add (.t 27) (.k (.str [121])) false false)), (none, (.cp 29 4)), (none, (.bin (some 30) .add (.k (.str [60])) (.t 29) false false)), (none, (.cp 31 4)), (none, (.bin (some 32) .add (.t 31) (.k (.str [45])) false false)), (none, (.cp 33 4)), (none, (.bin (some 34) .add (.k (.str [61])) (.t 33) false false)), (none, (.bin (some 35) .add (.t 34) (.k (.str [61])) false false)), (none, (.cp 36 4)), (none, (.bin (some 37) .add (.k (.str [92])) (.t 36) false false)), (none, (.cp 38 4)), (none, (.bin (some 39) .add (.k (.str [45])) (.t 38) false false)), (none, (.bin (some 40) .add (.t 39) (.k (.str [53])) false false)), (none, (.cp 41 4)), (none, (.bin (some 42) .add (.k (.str [37])) (.t 41) false false)), (none, (.bin (some 43) .add (.t 42) (.k (.str [10, 122])) false false)), (none, (.bs 44 1 [(.t 21), (.t 23), (.t 25), (.t 28), (.t 30), (.t 32), (.t 35), (.t 37), (.t 40), (.t 43)])), (none, (.mv 5 44))]) (.seq (.ops [(none, (.set 6 (.int .i64 0)))]) (.block 2 (.loop (.seq (.seq (.ops [(none, (.cp 45 6)), (none, (.cp 46 5)), (none, (.len (some 47) (.t 46) false true)), (none, (.bin (some 48) .lss (.t 45) (.t 47) false false))]) (.cond (.t 48) .skip (.exit 2))) (.seq (.block 3 (.seq (.ops [(none, (.cp 52 5)), (none, (.cp 53 6)), (none, (.ia (some 54) (.t 52) (.t 53) (some 1) none)), (none, (.ld (some 55) (.t 54) (.one none))), (none, (.call (some 56) (.k (.func 8 [] [])) [(.t 55)] none)), (none, (.cp 51 56)), (none, (.ext (some 57) (.t 51) 0)), (none, (.ext (some 58) (.t 51) 1)), (none, (.ext (some 59) (.t 51) 2)), (none, (.mv 7 57)), (none, (.mv 8 58)), (none, (.mv 9 59))]) (.seq (.ops [(none, (.cp 61 5)), (none, (.cp 62 6)), (none, (.ia (some 63) (.t 61) (.t 62) (some 1) none)), (none, (.ld (some 64) (.t 63) (.one none))), (none, (.call (some 65) (.k (.func 9 [] [])) [(.t 64)] none)), (none, (.cp 60 65)), (none, (.ext (some 66) (.t 60) 0)), (none, (.ext (some 67) (.t 60) 1)), (none, (.ext (some 68) (.t 60) 2)), (none, (.mv 10 66)), (none, (.mv 11 67)), (none, (.mv 12 68))]) (.seq (.ops [(none, (.cp 69 9)), (none, (.call (some 70) (.k (.func 10 [] [])) [(.t 69)] none)), (none, (.cp 71 12)), (none, (.bin (some 72) .neq (.t 70) (.t 71) false false)), (none, (.cp 73 72)), ((some (73, false)), (.cp 74 8)), ((some (73, false)), (.cp 75 11)), ((some (73, false)), (.bin (some 76) .neq (.t 74) (.t 75) false false)), (none, (.pick (some 77) (.t 73) (.k (.bool true)) (.t 76))), (none, (.cp 78 77)), ((some (78, false)), (.cp 79 7)), ((some (78, false)), (.cp 80 10)), ((some (78, false)), (.call (some 81) (.k (.func 11 [] [])) [(.t 79), (.t 80)] none)), ((some (78, false)), (.un (some 82) .not (.t 81))), (none, (.pick (some 83) (.t 78) (.k (.bool true)) (.t 82)))]) (.cond (.t 83) (.seq (.ops [(none, (.set 2 (.bool false)))]) .ret) .skip))))) (.ops [(none, (.cp 49 6)), (none, (.bin (some 50) .add (.t 49) (.k (.int .i64 1)) false false)), (none, (.mv 6 50))]))))))))) (.ops [(none, (.cp 15 3)), (none, (.bin (some 16) .add (.t 15) (.k (.int .i64 1)) false false)), (none, (.mv 3 16))])))))) (.seq (.ops [(none, (.fa (some 84) (.t 1) 0)), (none, (.ld (some 85) (.t 84) (.one (some 1)))), (none, (.len (some 86) (.t 85) false true)), (none, (.bin (some 87) .geq (.t 86) (.k (.int .i64 0)) false false)), (none, (.cp 88 87)), ((some (88, true)), (.call (some 89) (.k (.func 12 [] [])) [] none)), (none, (.pick (some 90) (.t 88) (.t 89) (.k (.bool false)))), (none, (.mv 2 90))]) .ret)))))) := by kernel_rfl
def textsB (c : UInt8) : List (List UInt8) := [[c], [97, c], [49, c], [88, c, 121], [60, c], [c, 45], [61, c, 61], [92, c], [45, c, 53], [37, c, 10, 122]]
set_option maxHeartbeats 1000000 in
theorem fn4_LexBytes (xs : List (List UInt8)) : PFn Tryd.prog 4 [.agg [.sl .sh 1 (xs.map AV.str)]] (.bool true) := by
  intro h
  refine fnC mixed Tryd.func4 c4 (by simp) ?_
  simp only [go_sem, Nat.reduceEqDiff, Nat.reduceAdd, Nat.reduceLeDiff, Nat.reduceLT, ↓reduceIte, reduceCtorEq, Int.reduceLT, Int.reduceToNat, Int.reduceEq, Int.reduceBEq, Int.reduceBNe, Nat.reduceBEq]
  refine cloop (fun k t => ∃ b : Nat, b + k = 256 ∧ t.fr 1 = .ptr h.n 0 ∧ t.fr 3 = .int .i64 (b : Nat) ∧ t.hp = ⟨h.n + 1, updB h.bk h.n (.cells [.sl .sh 1 (xs.map AV.str)])⟩) 256 ⟨0, by omega, by simp [fr_apply], by simp [fr_apply], rfl⟩ ?_
  rintro k ⟨F, hp⟩ ⟨b, hk, f1, f3, rfl⟩
  simp only at f1 f3
  by_cases hb : b < 256
  · have hb' : decide ((b : Int) < 256) = true := decide_eq_true (by omega)
    have hw : IntKind.i64.wrap ((b : Int) + 1) = ((b + 1 : Nat) : Int) := by rw [wrap64] <;> omega
    have w1 : IntKind.u8.wrap (b : Int) = (b : Int) := by rw [IntKind.wrap_u8]; omega
    obtain ⟨c, q⟩ : ∃ c, bytesOf [AV.int .u8 (b : Int)] = some [c] := ⟨UInt8.ofNat b, by simp [bytesOf]⟩
    simp only [go_sem, Nat.reduceEqDiff, Nat.reduceAdd, Nat.reduceLeDiff, Nat.reduceLT, ↓reduceIte, reduceCtorEq, Int.reduceLT, Int.reduceToNat, Int.reduceEq, Int.reduceBEq, Int.reduceBNe, Nat.reduceBEq, f1, f3, hb', w1, q]
    refine cloop (fun j t => ∃ i : Nat, i + j = 10 ∧ t.fr 1 = .ptr h.n 0 ∧ t.fr 3 = .int .i64 (b : Nat) ∧ t.fr 5 = .sl .own 1 ((textsB c).map AV.str) ∧ t.fr 6 = .int .i64 (i : Nat) ∧ t.hp = ⟨h.n + 1, updB h.bk h.n (.cells [.sl .sh 1 (xs.map AV.str)])⟩) 10 ⟨0, by omega, by simp [fr_apply, f1], by simp [fr_apply, f3], by simp [fr_apply, textsB], by simp [fr_apply], rfl⟩ ?_
    rintro j ⟨F2, hp2⟩ ⟨i, hj, g1, g3, g5, g6, rfl⟩
    simp only at g1 g3 g5 g6
    have hlen : (textsB c).length = 10 := rfl
    have hsm : ∀ x ∈ textsB c, x.length ≤ 4 := by simp [textsB]
    generalize textsB c = T at *
    by_cases hi : i < 10
    · have hi' : decide ((i : Int) < (T.length : Int)) = true := decide_eq_true (by omega)
      have hw2 : IntKind.i64.wrap ((i : Int) + 1) = ((i + 1 : Nat) : Int) := by rw [wrap64] <;> omega
      have hx : (T.map AV.str)[i]? = some (.str (T[i]'(by omega))) := by rw [List.getElem?_map, List.getElem?_eq_getElem (by omega)]; rfl
      have hxl := hsm (T[i]'(by omega)) (List.getElem_mem _)
      generalize (T[i]'(by omega)) = x at hx hxl
      have hA := fnl_Tokens x (by omega)
      have hB := fnr_Tokens x (by omega)
      have hE := fn0_EqTokens (toks x).1 (toks_le x)
      generalize toks x = R at *
      obtain ⟨l, p, e⟩ := R
      unfold tkA at hA hB
      simp only at hA hB hE
      have hN := fn4_num e
      have hO : flK l = .full ∨ flK l = .sh := by cases l <;> simp [flK]
      generalize l.map Tk.av = L at *
      rcases hO with hO | hO <;> rw [hO] at hA hB hE
      · simp only [go_sem, Nat.reduceEqDiff, Nat.reduceAdd, Nat.reduceLeDiff, Nat.reduceLT, ↓reduceIte, reduceCtorEq, Int.reduceLT, Int.reduceToNat, Int.reduceEq, Int.reduceBEq, Int.reduceBNe, Nat.reduceBEq, g1, g5, g6, hi', hx]
        refine pcall hA (by simp only [go_sem, Nat.reduceEqDiff, Nat.reduceAdd, Nat.reduceLeDiff, Nat.reduceLT, ↓reduceIte, reduceCtorEq, Int.reduceLT, Int.reduceToNat, Int.reduceEq, Int.reduceBEq, Int.reduceBNe, Nat.reduceBEq]) ?_
        simp only [go_sem, Nat.reduceEqDiff, Nat.reduceAdd, Nat.reduceLeDiff, Nat.reduceLT, ↓reduceIte, reduceCtorEq, Int.reduceLT, Int.reduceToNat, Int.reduceEq, Int.reduceBEq, Int.reduceBNe, Nat.reduceBEq, g1, g5, g6, hx]
        refine pcall hB (by simp only [go_sem, Nat.reduceEqDiff, Nat.reduceAdd, Nat.reduceLeDiff, Nat.reduceLT, ↓reduceIte, reduceCtorEq, Int.reduceLT, Int.reduceToNat, Int.reduceEq, Int.reduceBEq, Int.reduceBNe, Nat.reduceBEq]) ?_
        simp only [go_sem, Nat.reduceEqDiff, Nat.reduceAdd, Nat.reduceLeDiff, Nat.reduceLT, ↓reduceIte, reduceCtorEq, Int.reduceLT, Int.reduceToNat, Int.reduceEq, Int.reduceBEq, Int.reduceBNe, Nat.reduceBEq, g1, g5, g6, hx]
        refine pcall hN (by simp only [go_sem, Nat.reduceEqDiff, Nat.reduceAdd, Nat.reduceLeDiff, Nat.reduceLT, ↓reduceIte, reduceCtorEq, Int.reduceLT, Int.reduceToNat, Int.reduceEq, Int.reduceBEq, Int.reduceBNe, Nat.reduceBEq]) ?_
        simp only [go_sem, Nat.reduceEqDiff, Nat.reduceAdd, Nat.reduceLeDiff, Nat.reduceLT, ↓reduceIte, reduceCtorEq, Int.reduceLT, Int.reduceToNat, Int.reduceEq, Int.reduceBEq, Int.reduceBNe, Nat.reduceBEq, g1, g5, g6, hx]
        refine pcall hE (by simp only [go_sem, Nat.reduceEqDiff, Nat.reduceAdd, Nat.reduceLeDiff, Nat.reduceLT, ↓reduceIte, reduceCtorEq, Int.reduceLT, Int.reduceToNat, Int.reduceEq, Int.reduceBEq, Int.reduceBNe, Nat.reduceBEq]) ?_
        simp only [go_sem, Nat.reduceEqDiff, Nat.reduceAdd, Nat.reduceLeDiff, Nat.reduceLT, ↓reduceIte, reduceCtorEq, Int.reduceLT, Int.reduceToNat, Int.reduceEq, Int.reduceBEq, Int.reduceBNe, Nat.reduceBEq, g1, g3, g5, g6, hw2]
        exact ⟨j - 1, by omega, i + 1, by omega, rfl⟩
      · simp only [go_sem, Nat.reduceEqDiff, Nat.reduceAdd, Nat.reduceLeDiff, Nat.reduceLT, ↓reduceIte, reduceCtorEq, Int.reduceLT, Int.reduceToNat, Int.reduceEq, Int.reduceBEq, Int.reduceBNe, Nat.reduceBEq, g1, g5, g6, hi', hx]
        refine pcall hA (by simp only [go_sem, Nat.reduceEqDiff, Nat.reduceAdd, Nat.reduceLeDiff, Nat.reduceLT, ↓reduceIte, reduceCtorEq, Int.reduceLT, Int.reduceToNat, Int.reduceEq, Int.reduceBEq, Int.reduceBNe, Nat.reduceBEq]) ?_
        simp only [go_sem, Nat.reduceEqDiff, Nat.reduceAdd, Nat.reduceLeDiff, Nat.reduceLT, ↓reduceIte, reduceCtorEq, Int.reduceLT, Int.reduceToNat, Int.reduceEq, Int.reduceBEq, Int.reduceBNe, Nat.reduceBEq, g1, g5, g6, hx]
        refine pcall hB (by simp only [go_sem, Nat.reduceEqDiff, Nat.reduceAdd, Nat.reduceLeDiff, Nat.reduceLT, ↓reduceIte, reduceCtorEq, Int.reduceLT, Int.reduceToNat, Int.reduceEq, Int.reduceBEq, Int.reduceBNe, Nat.reduceBEq]) ?_
        simp only [go_sem, Nat.reduceEqDiff, Nat.reduceAdd, Nat.reduceLeDiff, Nat.reduceLT, ↓reduceIte, reduceCtorEq, Int.reduceLT, Int.reduceToNat, Int.reduceEq, Int.reduceBEq, Int.reduceBNe, Nat.reduceBEq, g1, g5, g6, hx]
        refine pcall hN (by simp only [go_sem, Nat.reduceEqDiff, Nat.reduceAdd, Nat.reduceLeDiff, Nat.reduceLT, ↓reduceIte, reduceCtorEq, Int.reduceLT, Int.reduceToNat, Int.reduceEq, Int.reduceBEq, Int.reduceBNe, Nat.reduceBEq]) ?_
        simp only [go_sem, Nat.reduceEqDiff, Nat.reduceAdd, Nat.reduceLeDiff, Nat.reduceLT, ↓reduceIte, reduceCtorEq, Int.reduceLT, Int.reduceToNat, Int.reduceEq, Int.reduceBEq, Int.reduceBNe, Nat.reduceBEq, g1, g5, g6, hx]
        refine pcall hE (by simp only [go_sem, Nat.reduceEqDiff, Nat.reduceAdd, Nat.reduceLeDiff, Nat.reduceLT, ↓reduceIte, reduceCtorEq, Int.reduceLT, Int.reduceToNat, Int.reduceEq, Int.reduceBEq, Int.reduceBNe, Nat.reduceBEq]) ?_
        simp only [go_sem, Nat.reduceEqDiff, Nat.reduceAdd, Nat.reduceLeDiff, Nat.reduceLT, ↓reduceIte, reduceCtorEq, Int.reduceLT, Int.reduceToNat, Int.reduceEq, Int.reduceBEq, Int.reduceBNe, Nat.reduceBEq, g1, g3, g5, g6, hw2]
        exact ⟨j - 1, by omega, i + 1, by omega, rfl⟩
    · have hi' : decide ((i : Int) < (T.length : Int)) = false := decide_eq_false (by omega)
      simp only [go_sem, Nat.reduceEqDiff, Nat.reduceAdd, Nat.reduceLeDiff, Nat.reduceLT, ↓reduceIte, reduceCtorEq, Int.reduceLT, Int.reduceToNat, Int.reduceEq, Int.reduceBEq, Int.reduceBNe, Nat.reduceBEq, g1, g3, g5, g6, hi', hw]
      exact ⟨k - 1, by omega, b + 1, by omega, rfl⟩
  · have hb' : decide ((b : Int) < 256) = false := decide_eq_false (by omega)
    have hx : decide ((xs.length : Int) ≥ 0) = true := decide_eq_true (by omega)
    simp only [go_sem, Nat.reduceEqDiff, Nat.reduceAdd, Nat.reduceLeDiff, Nat.reduceLT, ↓reduceIte, reduceCtorEq, Int.reduceLT, Int.reduceToNat, Int.reduceEq, Int.reduceBEq, Int.reduceBNe, Nat.reduceBEq, f1, f3, hb', hx]
    refine pcall fn4_wakes (by simp only [go_sem, Nat.reduceEqDiff, Nat.reduceAdd, Nat.reduceLeDiff, Nat.reduceLT, ↓reduceIte, reduceCtorEq, Int.reduceLT, Int.reduceToNat, Int.reduceEq, Int.reduceBEq, Int.reduceBNe, Nat.reduceBEq]) ?_
    simp only [go_sem, Nat.reduceEqDiff, Nat.reduceAdd, Nat.reduceLeDiff, Nat.reduceLT, ↓reduceIte, reduceCtorEq, Int.reduceLT, Int.reduceToNat, Int.reduceEq, Int.reduceBEq, Int.reduceBNe, Nat.reduceBEq]
end Go.Proofs.YtnibelnjflhkgaaDoor.Ab
