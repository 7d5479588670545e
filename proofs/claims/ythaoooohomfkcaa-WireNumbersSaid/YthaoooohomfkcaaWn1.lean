/- WireNumbers' walk: the law. No condition. -/
import Derived.Test.YthaoooohomfkcaaWu0
import Derived.Test.YthaoooohomfkcaaWnA
namespace Go.Proofs.Ythaoooohomfkcaa.Ab
set_option linter.unusedVariables false
set_option linter.unusedSimpArgs false
set_option maxRecDepth 10000
attribute [local go_sem] Nat.zero_le Bool.not_true Bool.not_false Bool.false_eq_true if_false if_true forall_const true_and and_true List.map Option.map Bool.and_self Bool.and_true Bool.true_and Bool.false_and Bool.and_false List.getElem?_cons_zero List.getElem?_nil List.getElem?_cons_succ Int.natCast_nonneg Int.toNat_natCast List.length_map List.length_cons List.length_nil Nat.zero_add Nat.le_refl List.drop_zero List.drop_succ_cons List.take_succ_cons List.take_zero List.take_nil ne_eq not_true_eq_false not_false_eq_true upd_same Nat.add_assoc Nat.left_eq_add Nat.add_eq_left Nat.add_left_cancel_iff Nat.succ_ne_self Nat.one_ne_zero Nat.add_zero Nat.le_add_right ite_self List.set_cons_zero List.set_cons_succ List.all_cons List.all_nil bne_self_eq_false List.isEmpty_cons Int.cast_ofNat_Int Nat.mul_one List.nil_append or_self or_true true_or List.cons_append List.append_nil Option.none_beq_some Option.some_beq_some beq_self_eq_true
theorem c6 : compF Try.prog ow Try.f6 = (some (225, ([(.t 2)], (.seq (.ops [(none, (.box 1 (.t 0))), (none, (.set 2 (.bool false)))]) (.seq (.seq (.ops [(none, (.ld (some 28) (.t 1) (.agg 4))), (none, (.call (some 29) (.k (.func 36 [] [])) [(.t 28)] none))]) (.cond (.t 29) (.seq (.ops [(none, (.set 2 (.bool true)))]) .ret) .skip)) (.seq (.ops [(none, (.bs 30 1 [(.k (.int .i64 0)), (.k (.int .i64 1)), (.k (.int .i64 (-1))), (.k (.int .i64 63)), (.k (.int .i64 64)), (.k (.int .i64 (-64))), (.k (.int .i64 (-65))), (.k (.int .i64 8191)), (.k (.int .i64 8192)), (.k (.int .i64 1073741824)), (.k (.int .i64 (-1073741824))), (.k (.int .i64 1073741825)), (.k (.int .i64 (-1073741825)))])), (none, (.fa (some 31) (.t 1) 2)), (none, (.ld (some 32) (.t 31) (.one (some 1)))), (none, (.app 33 (.t 30) (.t 32) 1 8 true true)), (none, (.mv 3 33))]) (.seq (.ops [(none, (.bs 34 1 [(.k (.str [])), (.k (.str [128])), (.k (.str [128, 0])), (.k (.str [255, 255, 255, 255, 127])), (.k (.str [128, 128, 128, 128, 128, 1]))])), (none, (.fa (some 35) (.t 1) 0)), (none, (.fa (some 36) (.t 35) 1)), (none, (.ld (some 37) (.t 36) (.one (some 1)))), (none, (.app 38 (.t 34) (.t 37) 1 16 true true)), (none, (.mv 4 38))]) (.seq (.seq (.ops [(none, (.set 5 (.int .i64 0)))]) (.block 0 (.loop (.seq (.seq (.ops [(none, (.cp 39 5)), (none, (.cp 40 3)), (none, (.len (some 41) (.t 40) false true)), (none, (.bin (some 42) .lss (.t 39) (.t 41) false false)), (none, (.cp 43 42)), ((some (43, true)), (.cp 44 5)), ((some (43, true)), (.bin (some 45) .lss (.t 44) (.k (.int .i64 19)) false false)), (none, (.pick (some 46) (.t 43) (.t 45) (.k (.bool false))))]) (.cond (.t 46) .skip (.exit 0))) (.seq (.block 1 (.seq (.ops [(none, (.cp 50 3)), (none, (.cp 51 5)), (none, (.ia (some 52) (.t 50) (.t 51) (some 1) none)), (none, (.ld (some 53) (.t 52) (.one none))), (none, (.call (some 54) (.k (.func 37 [] [])) [(.t 53)] none)), (none, (.cp 49 54)), (none, (.ext (some 55) (.t 49) 0)), (none, (.ext (some 56) (.t 49) 1)), (none, (.mv 6 55)), (none, (.mv 7 56))]) (.seq (.ops [(none, (.set 8 (.int .i64 1))), (none, (.set 9 (.str [])))]) (.seq (.seq (.ops [(none, (.cp 57 3)), (none, (.cp 58 5)), (none, (.ia (some 59) (.t 57) (.t 58) (some 1) none)), (none, (.ld (some 60) (.t 59) (.one none))), (none, (.call (some 61) (.k (.func 38 [] [])) [(.t 60)] none))]) (.cond (.t 61) (.seq (.ops [(none, (.cp 62 3)), (none, (.cp 63 5)), (none, (.ia (some 64) (.t 62) (.t 63) (some 1) none)), (none, (.ld (some 65) (.t 64) (.one none))), (none, (.call (some 66) (.k (.func 39 [] [])) [(.t 65)] none)), (none, (.set 8 (.int .i64 0))), (none, (.mv 9 66))]) (.ops [(none, (.mv 67 4)), (none, (.cp 68 9)), (none, (.cp 69 5)), (none, (.call (some 70) (.k (.func 40 [] [])) [(.t 68), (.t 69)] none)), (none, (.app 71 (.t 67) (.t 70) 1 16 true true)), (none, (.mv 4 71))])) .skip)) (.seq (.ops [(none, (.cp 72 7)), (none, (.call (some 73) (.k (.func 41 [] [])) [(.t 72)] none)), (none, (.cp 74 8)), (none, (.bin (some 75) .neq (.t 73) (.t 74) false false)), (none, (.cp 76 75)), ((some (76, false)), (.cp 77 6)), ((some (76, false)), (.cp 78 9)), ((some (76, false)), (.bin (some 79) .neq (.t 77) (.t 78) false false)), (none, (.pick (some 80) (.t 76) (.k (.bool true)) (.t 79)))]) (.cond (.t 80) (.seq (.ops [(none, (.set 2 (.bool false)))]) .ret) .skip)))))) (.ops [(none, (.cp 47 5)), (none, (.bin (some 48) .add (.t 47) (.k (.int .i64 1)) false false)), (none, (.mv 5 48))])))))) (.seq (.seq (.ops [(none, (.set 10 (.int .i64 0)))]) (.block 2 (.loop (.seq (.seq (.ops [(none, (.cp 81 10)), (none, (.fa (some 82) (.t 1) 0)), (none, (.fa (some 83) (.t 82) 0)), (none, (.ld (some 84) (.t 83) (.one (some 4)))), (none, (.len (some 85) (.t 84) false true)), (none, (.bin (some 86) .lss (.t 81) (.t 85) false false)), (none, (.cp 87 86)), ((some (87, true)), (.cp 88 10)), ((some (87, true)), (.bin (some 89) .lss (.t 88) (.k (.int .i64 6)) false false)), (none, (.pick (some 90) (.t 87) (.t 89) (.k (.bool false))))]) (.cond (.t 90) .skip (.exit 2))) (.seq (.block 3 (.seq (.ops [(none, (.fa (some 94) (.t 1) 0)), (none, (.fa (some 95) (.t 94) 0)), (none, (.ld (some 96) (.t 95) (.one (some 4)))), (none, (.cp 97 10)), (none, (.ia (some 98) (.t 96) (.t 97) (some 4) none)), (none, (.ld (some 99) (.t 98) (.agg 4))), (none, (.call (some 100) (.k (.func 42 [] [])) [(.t 99)] none)), (none, (.cp 93 100)), (none, (.ext (some 101) (.t 93) 0)), (none, (.ext (some 102) (.t 93) 1)), (none, (.mv 11 101)), (none, (.mv 12 102))]) (.seq (.ops [(none, (.set 13 (.int .i64 1))), (none, (.set 14 (.str [])))]) (.seq (.seq (.ops [(none, (.fa (some 103) (.t 1) 0)), (none, (.fa (some 104) (.t 103) 0)), (none, (.ld (some 105) (.t 104) (.one (some 4)))), (none, (.cp 106 10)), (none, (.ia (some 107) (.t 105) (.t 106) (some 4) none)), (none, (.ld (some 108) (.t 107) (.agg 4))), (none, (.call (some 109) (.k (.func 23 [] [])) [(.t 108)] none))]) (.cond (.t 109) (.seq (.ops [(none, (.fa (some 110) (.t 1) 0)), (none, (.fa (some 111) (.t 110) 0)), (none, (.ld (some 112) (.t 111) (.one (some 4)))), (none, (.cp 113 10)), (none, (.ia (some 114) (.t 112) (.t 113) (some 4) none)), (none, (.ld (some 115) (.t 114) (.agg 4))), (none, (.call (some 116) (.k (.func 43 [] [])) [(.t 115)] none)), (none, (.set 13 (.int .i64 0))), (none, (.mv 14 116))]) (.ops [(none, (.mv 117 4)), (none, (.cp 118 14)), (none, (.cp 119 10)), (none, (.call (some 120) (.k (.func 40 [] [])) [(.t 118), (.t 119)] none)), (none, (.app 121 (.t 117) (.t 120) 1 16 true true)), (none, (.mv 4 121))])) .skip)) (.seq (.ops [(none, (.cp 122 12)), (none, (.call (some 123) (.k (.func 41 [] [])) [(.t 122)] none)), (none, (.cp 124 13)), (none, (.bin (some 125) .neq (.t 123) (.t 124) false false)), (none, (.cp 126 125)), ((some (126, false)), (.cp 127 11)), ((some (126, false)), (.cp 128 14)), ((some (126, false)), (.bin (some 129) .neq (.t 127) (.t 128) false false)), (none, (.pick (some 130) (.t 126) (.k (.bool true)) (.t 129)))]) (.cond (.t 130) (.seq (.ops [(none, (.set 2 (.bool false)))]) .ret) .skip)))))) (.ops [(none, (.cp 91 10)), (none, (.bin (some 92) .add (.t 91) (.k (.int .i64 1)) false false)), (none, (.mv 10 92))])))))) (.seq (.seq (.ops [(none, (.set 15 (.int .i64 0)))]) (.block 4 (.loop (.seq (.seq (.ops [(none, (.cp 131 15)), (none, (.cp 132 4)), (none, (.len (some 133) (.t 132) false true)), (none, (.bin (some 134) .lss (.t 131) (.t 133) false false))]) (.cond (.t 134) .skip (.exit 4))) (.seq (.block 5 (.seq (.ops [(none, (.cp 138 4)), (none, (.cp 139 15)), (none, (.ia (some 140) (.t 138) (.t 139) (some 1) none)), (none, (.ld (some 141) (.t 140) (.one none))), (none, (.call (some 142) (.k (.func 44 [] [])) [(.t 141)] none)), (none, (.cp 137 142)), (none, (.ext (some 143) (.t 137) 0)), (none, (.ext (some 144) (.t 137) 1)), (none, (.ext (some 145) (.t 137) 2)), (none, (.mv 16 143)), (none, (.mv 17 144)), (none, (.mv 18 145))]) (.seq (.ops [(none, (.cp 147 4)), (none, (.cp 148 15)), (none, (.ia (some 149) (.t 147) (.t 148) (some 1) none)), (none, (.ld (some 150) (.t 149) (.one none))), (none, (.call (some 151) (.k (.func 45 [] [])) [(.t 150)] none)), (none, (.cp 146 151)), (none, (.ext (some 152) (.t 146) 0)), (none, (.ext (some 153) (.t 146) 1)), (none, (.ext (some 154) (.t 146) 2)), (none, (.mv 19 152)), (none, (.mv 20 153)), (none, (.mv 21 154))]) (.seq (.ops [(none, (.cp 156 4)), (none, (.cp 157 15)), (none, (.ia (some 158) (.t 156) (.t 157) (some 1) none)), (none, (.ld (some 159) (.t 158) (.one none))), (none, (.call (some 160) (.k (.func 46 [] [])) [(.t 159)] none)), (none, (.cp 155 160)), (none, (.ext (some 161) (.t 155) 0)), (none, (.ext (some 162) (.t 155) 1)), (none, (.ext (some 163) (.t 155) 2)), (none, (.alloc 22 [(.int .i64 0), (.str []), (.int .i64 0), (.sl .full 4 [])])), (none, (.st (.t 22) (.t 161) 4)), (none, (.mv 23 162)), (none, (.mv 24 163))]) (.seq (.ops [(none, (.cp 165 4)), (none, (.cp 166 15)), (none, (.ia (some 167) (.t 165) (.t 166) (some 1) none)), (none, (.ld (some 168) (.t 167) (.one none))), (none, (.call (some 169) (.k (.func 47 [] [])) [(.t 168)] none)), (none, (.cp 164 169)), (none, (.ext (some 170) (.t 164) 0)), (none, (.ext (some 171) (.t 164) 1)), (none, (.ext (some 172) (.t 164) 2)), (none, (.alloc 25 [(.int .i64 0), (.str []), (.int .i64 0), (.sl .full 4 [])])), (none, (.st (.t 25) (.t 170) 4)), (none, (.mv 26 171)), (none, (.mv 27 172))]) (.seq (.ops [(none, (.cp 173 21)), (none, (.cp 174 18)), (none, (.call (some 175) (.k (.func 41 [] [])) [(.t 174)] none)), (none, (.bin (some 176) .eql (.t 175) (.k (.int .i64 0)) false false)), (none, (.bin (some 177) .neq (.t 173) (.t 176) true false)), (none, (.cp 178 177)), ((some (178, false)), (.cp 179 21)), ((some (178, false)), (.un (some 180) .not (.t 179))), ((some (178, false)), (.cp 181 180)), ((some (181, true)), (.cp 182 18)), ((some (181, true)), (.call (some 183) (.k (.func 41 [] [])) [(.t 182)] none)), ((some (181, true)), (.bin (some 184) .neq (.t 183) (.k (.int .i64 4)) false false)), ((some (178, false)), (.pick (some 185) (.t 181) (.t 184) (.k (.bool false)))), (none, (.pick (some 186) (.t 178) (.k (.bool true)) (.t 185))), (none, (.cp 187 186)), ((some (187, false)), (.cp 188 16)), ((some (187, false)), (.cp 189 19)), ((some (187, false)), (.bin (some 190) .neq (.t 188) (.t 189) false false)), (none, (.pick (some 191) (.t 187) (.k (.bool true)) (.t 190))), (none, (.cp 192 191)), ((some (192, false)), (.cp 193 17)), ((some (192, false)), (.cp 194 20)), ((some (192, false)), (.bin (some 195) .neq (.t 193) (.t 194) false false)), (none, (.pick (some 196) (.t 192) (.k (.bool true)) (.t 195))), (none, (.cp 197 196)), ((some (197, false)), (.cp 198 27)), ((some (197, false)), (.cp 199 24)), ((some (197, false)), (.call (some 200) (.k (.func 41 [] [])) [(.t 199)] none)), ((some (197, false)), (.bin (some 201) .eql (.t 200) (.k (.int .i64 0)) false false)), ((some (197, false)), (.bin (some 202) .neq (.t 198) (.t 201) true false)), (none, (.pick (some 203) (.t 197) (.k (.bool true)) (.t 202))), (none, (.cp 204 203)), ((some (204, false)), (.cp 205 27)), ((some (204, false)), (.un (some 206) .not (.t 205))), ((some (204, false)), (.cp 207 206)), ((some (207, true)), (.cp 208 24)), ((some (207, true)), (.call (some 209) (.k (.func 41 [] [])) [(.t 208)] none)), ((some (207, true)), (.bin (some 210) .neq (.t 209) (.k (.int .i64 4)) false false)), ((some (204, false)), (.pick (some 211) (.t 207) (.t 210) (.k (.bool false)))), (none, (.pick (some 212) (.t 204) (.k (.bool true)) (.t 211))), (none, (.cp 213 212)), ((some (213, false)), (.ld (some 214) (.t 22) (.agg 4))), ((some (213, false)), (.ld (some 215) (.t 25) (.agg 4))), ((some (213, false)), (.call (some 216) (.k (.func 15 [] [])) [(.t 214), (.t 215)] none)), ((some (213, false)), (.un (some 217) .not (.t 216))), (none, (.pick (some 218) (.t 213) (.k (.bool true)) (.t 217))), (none, (.cp 219 218)), ((some (219, false)), (.cp 220 23)), ((some (219, false)), (.cp 221 26)), ((some (219, false)), (.bin (some 222) .neq (.t 220) (.t 221) false false)), (none, (.pick (some 223) (.t 219) (.k (.bool true)) (.t 222)))]) (.cond (.t 223) (.seq (.ops [(none, (.set 2 (.bool false)))]) .ret) .skip))))))) (.ops [(none, (.cp 135 15)), (none, (.bin (some 136) .add (.t 135) (.k (.int .i64 1)) false false)), (none, (.mv 15 136))])))))) (.seq (.ops [(none, (.call (some 224) (.k (.func 48 [] [])) [] none)), (none, (.mv 2 224))]) .ret))))))))))) := by kernel_rfl
attribute [local go_sem] strip_flS strip_flT isOwn_flS avf_agg strip_avf isOwn_avf avf_len avf_take avf_okc avf_put avf_cstrip
def ns6 (ns : List Int) : List Int := [0, 1, -1, 63, 64, -64, -65, 8191, 8192, 1073741824, -1073741824, 1073741825, -1073741825] ++ ns
def ask6 (l : List T) (s : List (List UInt8)) (ns : List Int) (fs : List Fr) : Blk := .cells [.sl .sh 4 (l.map T.av), .sl .sh 1 (s.map AV.str), .sl .sh 1 (ns.map (AV.int .i64)), .sl .sh 8 (fs.map Fr.av)]
set_option maxHeartbeats 1600000 in
theorem fn_WireNumbers (l : List T) (s : List (List UInt8)) (ns : List Int) (fs : List Fr) (hl : l.length < 1000000000000000) (ho : ∀ x ∈ l, x.ok) (hs0 : s.length < 1000000000000000) (hf : fs.length < 1000000000000000) (hfo : ∀ f ∈ fs, f.t.ok) (hn : ns.length * 8 ≤ 140737488351232) (hs : s.length * 16 ≤ 140737488351232) : PFn Try.prog 6 [ask20 l s ns fs] (.bool true) := by
  intro h
  refine fnC mixed Try.func6 c6 (by simp) ?_
  have hH := fn_Heavy20 l s ns fs hl ho hs0 hf hfo
  unfold ask20 at hH ⊢
  simp only [go_sem, Nat.reduceEqDiff, Nat.reduceAdd, Nat.reduceLeDiff, Nat.reduceLT, ↓reduceIte, reduceCtorEq, Int.reduceLT, Int.reduceToNat, Int.reduceEq, Int.reduceBEq, Int.reduceBNe, Nat.reduceBEq]
  refine pcall hH (by simp only [go_sem, Nat.reduceEqDiff, Nat.reduceAdd, Nat.reduceLeDiff, Nat.reduceLT, ↓reduceIte, reduceCtorEq, Int.reduceLT, Int.reduceToNat, Int.reduceEq, Int.reduceBEq, Int.reduceBNe, Nat.reduceBEq]) ?_
  simp only [go_sem, Nat.reduceEqDiff, Nat.reduceAdd, Nat.reduceLeDiff, Nat.reduceLT, ↓reduceIte, reduceCtorEq, Int.reduceLT, Int.reduceToNat, Int.reduceEq, Int.reduceBEq, Int.reduceBNe, Nat.reduceBEq]
  refine cif (fun h1 => ?_) (fun h1 => ?_)
  · simp only [go_sem, Nat.reduceEqDiff, Nat.reduceAdd, Nat.reduceLeDiff, Nat.reduceLT, ↓reduceIte, reduceCtorEq, Int.reduceLT, Int.reduceToNat, Int.reduceEq, Int.reduceBEq, Int.reduceBNe, Nat.reduceBEq]
  have hA : (13 + ns.length) * 8 ≤ 140737488355328 := by omega
  have hA' : 13 + ns.length ≤ 9223372036854775807 := by omega
  have hB : (5 + s.length) * 16 ≤ 140737488355328 := by omega
  have hB' : 5 + s.length ≤ 9223372036854775807 := by omega
  simp only [go_sem, Nat.reduceEqDiff, Nat.reduceAdd, Nat.reduceLeDiff, Nat.reduceLT, ↓reduceIte, reduceCtorEq, Int.reduceLT, Int.reduceToNat, Int.reduceEq, Int.reduceBEq, Int.reduceBNe, Nat.reduceBEq, List.length_append, hA, hA', hB, hB']
  refine cloop (fun k t => ∃ (i : Nat) (tx : List (List UInt8)), i + k = (ns6 ns).length ∧ i ≤ 19 ∧ tx.length ≤ s.length + 5 + 7 * i ∧ t.fr 1 = .ptr h.n 0 ∧ t.fr 3 = .sl .own 1 ((ns6 ns).map (AV.int .i64)) ∧ t.fr 4 = .sl .own 1 (tx.map AV.str) ∧ t.fr 5 = .int .i64 (i : Nat) ∧ t.hp = ⟨h.n + 1, updB h.bk h.n (ask6 l s ns fs)⟩) (ns6 ns).length
    ⟨0, [[], [128], [128, 0], [255, 255, 255, 255, 127], [128, 128, 128, 128, 128, 1]] ++ s, by simp, by omega, by simp, by simp [fr_apply, argsF], by simp [fr_apply, argsF, ns6, apFl_own], by simp [fr_apply, argsF, apFl_own], by simp [fr_apply, argsF], by simp [ask6]⟩ ?_
  rintro k ⟨f, hp⟩ ⟨i, tx, hk, hi19, htx, f1, f3, f4, f5, rfl⟩
  simp only at f1 f3 f4 f5
  unfold ask6
  by_cases hi : i < (ns6 ns).length
  · have hi' : decide ((i : Int) < ((ns6 ns).length : Int)) = true := decide_eq_true (by omega)
    by_cases h6 : (i : Int) < 19
    · have h6' : decide ((i : Int) < 19) = true := decide_eq_true h6
      have hw : IntKind.i64.wrap ((i : Int) + 1) = ((i + 1 : Nat) : Int) := by rw [wrap64] <;> omega
      have hx : ((ns6 ns).map (AV.int .i64))[i]? = some (.int .i64 (ns6 ns)[i]) := by simp [hi]
      generalize (ns6 ns)[i] = x at hx
      have hN := fn_wNumber x
      have hM := fn_rMay x
      cases hm : okN x with
      | false =>
        rw [hm] at hN hM
        simp only [Bool.false_eq_true, if_false] at hN
        simp only [go_sem, Nat.reduceEqDiff, Nat.reduceAdd, Nat.reduceLeDiff, Nat.reduceLT, ↓reduceIte, reduceCtorEq, Int.reduceLT, Int.reduceToNat, Int.reduceEq, Int.reduceBEq, Int.reduceBNe, Nat.reduceBEq, f1, f3, f4, f5, hi', h6', hx]
        refine pcall hN (by simp only [go_sem, Nat.reduceEqDiff, Nat.reduceAdd, Nat.reduceLeDiff, Nat.reduceLT, ↓reduceIte, reduceCtorEq, Int.reduceLT, Int.reduceToNat, Int.reduceEq, Int.reduceBEq, Int.reduceBNe, Nat.reduceBEq]) ?_
        simp only [go_sem, Nat.reduceEqDiff, Nat.reduceAdd, Nat.reduceLeDiff, Nat.reduceLT, ↓reduceIte, reduceCtorEq, Int.reduceLT, Int.reduceToNat, Int.reduceEq, Int.reduceBEq, Int.reduceBNe, Nat.reduceBEq, f1, f3, f4, f5, hx]
        refine pcall hM (by simp only [go_sem, Nat.reduceEqDiff, Nat.reduceAdd, Nat.reduceLeDiff, Nat.reduceLT, ↓reduceIte, reduceCtorEq, Int.reduceLT, Int.reduceToNat, Int.reduceEq, Int.reduceBEq, Int.reduceBNe, Nat.reduceBEq]) ?_
        simp only [go_sem, Nat.reduceEqDiff, Nat.reduceAdd, Nat.reduceLeDiff, Nat.reduceLT, ↓reduceIte, reduceCtorEq, Int.reduceLT, Int.reduceToNat, Int.reduceEq, Int.reduceBEq, Int.reduceBNe, Nat.reduceBEq, f1, f3, f4, f5, hx]
        refine pcall (fn_num20 1) (by simp only [go_sem, Nat.reduceEqDiff, Nat.reduceAdd, Nat.reduceLeDiff, Nat.reduceLT, ↓reduceIte, reduceCtorEq, Int.reduceLT, Int.reduceToNat, Int.reduceEq, Int.reduceBEq, Int.reduceBNe, Nat.reduceBEq]) ?_
        simp only [go_sem, Nat.reduceEqDiff, Nat.reduceAdd, Nat.reduceLeDiff, Nat.reduceLT, ↓reduceIte, reduceCtorEq, Int.reduceLT, Int.reduceToNat, Int.reduceEq, Int.reduceBEq, Int.reduceBNe, Nat.reduceBEq, f1, f3, f4, f5, hw]
        exact ⟨k - 1, by omega, i + 1, tx, by omega, by omega, by omega, rfl, rfl⟩
      | true =>
        rw [hm] at hN hM
        simp only [if_true] at hN
        have hb := (okN_iff x).1 hm
        have hR := fn_rNumber x (by omega) (by omega)
        have hv : (vbs (zz x)).length ≤ 5 := by
          have := vb5 hb.1 hb.2
          unfold vbs; rw [u8_len]; exact this
        generalize vbs (zz x) = v at hN hR hv
        have hNe := fn_near v i (by omega) (by omega)
        have hnl := near_len v i
        generalize near v i = nr at hNe hnl
        have hC : (tx.length + nr.length) * 16 ≤ 140737488355328 := by omega
        have hC' : tx.length + nr.length ≤ 9223372036854775807 := by omega
        simp only [go_sem, Nat.reduceEqDiff, Nat.reduceAdd, Nat.reduceLeDiff, Nat.reduceLT, ↓reduceIte, reduceCtorEq, Int.reduceLT, Int.reduceToNat, Int.reduceEq, Int.reduceBEq, Int.reduceBNe, Nat.reduceBEq, f1, f3, f4, f5, hi', h6', hx]
        refine pcall hN (by simp only [go_sem, Nat.reduceEqDiff, Nat.reduceAdd, Nat.reduceLeDiff, Nat.reduceLT, ↓reduceIte, reduceCtorEq, Int.reduceLT, Int.reduceToNat, Int.reduceEq, Int.reduceBEq, Int.reduceBNe, Nat.reduceBEq]) ?_
        simp only [go_sem, Nat.reduceEqDiff, Nat.reduceAdd, Nat.reduceLeDiff, Nat.reduceLT, ↓reduceIte, reduceCtorEq, Int.reduceLT, Int.reduceToNat, Int.reduceEq, Int.reduceBEq, Int.reduceBNe, Nat.reduceBEq, f1, f3, f4, f5, hx]
        refine pcall hM (by simp only [go_sem, Nat.reduceEqDiff, Nat.reduceAdd, Nat.reduceLeDiff, Nat.reduceLT, ↓reduceIte, reduceCtorEq, Int.reduceLT, Int.reduceToNat, Int.reduceEq, Int.reduceBEq, Int.reduceBNe, Nat.reduceBEq]) ?_
        simp only [go_sem, Nat.reduceEqDiff, Nat.reduceAdd, Nat.reduceLeDiff, Nat.reduceLT, ↓reduceIte, reduceCtorEq, Int.reduceLT, Int.reduceToNat, Int.reduceEq, Int.reduceBEq, Int.reduceBNe, Nat.reduceBEq, f1, f3, f4, f5, hx]
        refine pcall hR (by simp only [go_sem, Nat.reduceEqDiff, Nat.reduceAdd, Nat.reduceLeDiff, Nat.reduceLT, ↓reduceIte, reduceCtorEq, Int.reduceLT, Int.reduceToNat, Int.reduceEq, Int.reduceBEq, Int.reduceBNe, Nat.reduceBEq]) ?_
        simp only [go_sem, Nat.reduceEqDiff, Nat.reduceAdd, Nat.reduceLeDiff, Nat.reduceLT, ↓reduceIte, reduceCtorEq, Int.reduceLT, Int.reduceToNat, Int.reduceEq, Int.reduceBEq, Int.reduceBNe, Nat.reduceBEq, f1, f3, f4, f5, hx]
        refine pcall hNe (by simp only [go_sem, Nat.reduceEqDiff, Nat.reduceAdd, Nat.reduceLeDiff, Nat.reduceLT, ↓reduceIte, reduceCtorEq, Int.reduceLT, Int.reduceToNat, Int.reduceEq, Int.reduceBEq, Int.reduceBNe, Nat.reduceBEq]) ?_
        simp only [go_sem, Nat.reduceEqDiff, Nat.reduceAdd, Nat.reduceLeDiff, Nat.reduceLT, ↓reduceIte, reduceCtorEq, Int.reduceLT, Int.reduceToNat, Int.reduceEq, Int.reduceBEq, Int.reduceBNe, Nat.reduceBEq, f1, f3, f4, f5, hC, hC']
        refine pcall (fn_num20 0) (by simp only [go_sem, Nat.reduceEqDiff, Nat.reduceAdd, Nat.reduceLeDiff, Nat.reduceLT, ↓reduceIte, reduceCtorEq, Int.reduceLT, Int.reduceToNat, Int.reduceEq, Int.reduceBEq, Int.reduceBNe, Nat.reduceBEq]) ?_
        simp only [go_sem, Nat.reduceEqDiff, Nat.reduceAdd, Nat.reduceLeDiff, Nat.reduceLT, ↓reduceIte, reduceCtorEq, Int.reduceLT, Int.reduceToNat, Int.reduceEq, Int.reduceBEq, Int.reduceBNe, Nat.reduceBEq, f1, f3, f4, f5, hw, apFl_own]
        exact ⟨k - 1, by omega, i + 1, tx ++ nr, by omega, by omega, by simp; omega, by simp, rfl⟩
    · have h6' : decide ((i : Int) < 19) = false := decide_eq_false h6
      simp only [go_sem, Nat.reduceEqDiff, Nat.reduceAdd, Nat.reduceLeDiff, Nat.reduceLT, ↓reduceIte, reduceCtorEq, Int.reduceLT, Int.reduceToNat, Int.reduceEq, Int.reduceBEq, Int.reduceBNe, Nat.reduceBEq, f1, f3, f4, f5, hi', h6']
      refine cloop (fun k t => ∃ (j : Nat) (ty : List (List UInt8)), j + k = l.length ∧ j ≤ 6 ∧ ty.length ≤ s.length + 138 + 7 * j ∧ t.fr 1 = .ptr h.n 0 ∧ t.fr 4 = .sl .own 1 (ty.map AV.str) ∧ t.fr 10 = .int .i64 (j : Nat) ∧ t.hp = ⟨h.n + 1, updB h.bk h.n (ask6 l s ns fs)⟩) l.length
        ⟨0, tx, by simp, by omega, by omega, by simp [fr_apply, f1], by simp [fr_apply, f4], by simp [fr_apply], by simp [ask6]⟩ ?_
      clear f1 f3 f4 f5 hi' hk hi19 htx hi
      rintro k ⟨f, hp⟩ ⟨j, ty, hk, hj6, hty, f1, f4, f10, rfl⟩
      simp only at f1 f4 f10
      unfold ask6
      by_cases hj : j < l.length
      · have hj' : decide ((j : Int) < (l.length : Int)) = true := decide_eq_true (by omega)
        by_cases h6 : (j : Int) < 6
        · have h6' : decide ((j : Int) < 6) = true := decide_eq_true h6
          have hw : IntKind.i64.wrap ((j : Int) + 1) = ((j + 1 : Nat) : Int) := by rw [wrap64] <;> omega
          have hx := getAv hj
          have hto := ho _ (List.getElem_mem hj)
          generalize l[j] = x at hx hto
          have hN := fn_wTerm x hto
          have hM := fn_rTerm x hto
          have hcl : x.av.cells.length = 4 := by cases x; rw [av_mk]; rfl
          cases hm : mayB x with
          | false =>
            rw [hm] at hN hM
            simp only [Bool.false_eq_true, if_false] at hN
            obtain ⟨xk, xn, xv, xl⟩ := x
            rw [av_mk] at hN hM hx
            simp only [go_sem, Nat.reduceEqDiff, Nat.reduceAdd, Nat.reduceLeDiff, Nat.reduceLT, ↓reduceIte, reduceCtorEq, Int.reduceLT, Int.reduceToNat, Int.reduceEq, Int.reduceBEq, Int.reduceBNe, Nat.reduceBEq, f1, f4, f10, hj', h6', hx]
            refine pcall hN (by simp only [go_sem, Nat.reduceEqDiff, Nat.reduceAdd, Nat.reduceLeDiff, Nat.reduceLT, ↓reduceIte, reduceCtorEq, Int.reduceLT, Int.reduceToNat, Int.reduceEq, Int.reduceBEq, Int.reduceBNe, Nat.reduceBEq]) ?_
            simp only [go_sem, Nat.reduceEqDiff, Nat.reduceAdd, Nat.reduceLeDiff, Nat.reduceLT, ↓reduceIte, reduceCtorEq, Int.reduceLT, Int.reduceToNat, Int.reduceEq, Int.reduceBEq, Int.reduceBNe, Nat.reduceBEq, f1, f4, f10, hx]
            refine pcall hM (by simp only [go_sem, Nat.reduceEqDiff, Nat.reduceAdd, Nat.reduceLeDiff, Nat.reduceLT, ↓reduceIte, reduceCtorEq, Int.reduceLT, Int.reduceToNat, Int.reduceEq, Int.reduceBEq, Int.reduceBNe, Nat.reduceBEq]) ?_
            simp only [go_sem, Nat.reduceEqDiff, Nat.reduceAdd, Nat.reduceLeDiff, Nat.reduceLT, ↓reduceIte, reduceCtorEq, Int.reduceLT, Int.reduceToNat, Int.reduceEq, Int.reduceBEq, Int.reduceBNe, Nat.reduceBEq, f1, f4, f10, hx]
            refine pcall (fn_num20 1) (by simp only [go_sem, Nat.reduceEqDiff, Nat.reduceAdd, Nat.reduceLeDiff, Nat.reduceLT, ↓reduceIte, reduceCtorEq, Int.reduceLT, Int.reduceToNat, Int.reduceEq, Int.reduceBEq, Int.reduceBNe, Nat.reduceBEq]) ?_
            simp only [go_sem, Nat.reduceEqDiff, Nat.reduceAdd, Nat.reduceLeDiff, Nat.reduceLT, ↓reduceIte, reduceCtorEq, Int.reduceLT, Int.reduceToNat, Int.reduceEq, Int.reduceBEq, Int.reduceBNe, Nat.reduceBEq, f1, f4, f10, hw]
            exact ⟨k - 1, by omega, j + 1, ty, by omega, by omega, by omega, rfl, rfl⟩
          | true =>
            rw [hm] at hN hM
            simp only [if_true] at hN
            obtain ⟨g1, g2, _⟩ := may_len hm
            have hR := fn_renc x hto g1 (by omega)
            have hv : (u8s (enc x)).length ≤ 456 := by rw [u8_len]; exact g2
            generalize u8s (enc x) = v at hN hR hv
            have hNe := fn_near v j (by omega) (by omega)
            have hnl := near_len v j
            generalize near v j = nr at hNe hnl
            have hC : (ty.length + nr.length) * 16 ≤ 140737488355328 := by omega
            have hC' : ty.length + nr.length ≤ 9223372036854775807 := by omega
            clear hm g1 g2 hto hcl
            obtain ⟨xk, xn, xv, xl⟩ := x
            rw [av_mk] at hN hM hx hR
            simp only [go_sem, Nat.reduceEqDiff, Nat.reduceAdd, Nat.reduceLeDiff, Nat.reduceLT, ↓reduceIte, reduceCtorEq, Int.reduceLT, Int.reduceToNat, Int.reduceEq, Int.reduceBEq, Int.reduceBNe, Nat.reduceBEq, f1, f4, f10, hj', h6', hx]
            refine pcall hN (by simp only [go_sem, Nat.reduceEqDiff, Nat.reduceAdd, Nat.reduceLeDiff, Nat.reduceLT, ↓reduceIte, reduceCtorEq, Int.reduceLT, Int.reduceToNat, Int.reduceEq, Int.reduceBEq, Int.reduceBNe, Nat.reduceBEq]) ?_
            simp only [go_sem, Nat.reduceEqDiff, Nat.reduceAdd, Nat.reduceLeDiff, Nat.reduceLT, ↓reduceIte, reduceCtorEq, Int.reduceLT, Int.reduceToNat, Int.reduceEq, Int.reduceBEq, Int.reduceBNe, Nat.reduceBEq, f1, f4, f10, hx]
            refine pcall hM (by simp only [go_sem, Nat.reduceEqDiff, Nat.reduceAdd, Nat.reduceLeDiff, Nat.reduceLT, ↓reduceIte, reduceCtorEq, Int.reduceLT, Int.reduceToNat, Int.reduceEq, Int.reduceBEq, Int.reduceBNe, Nat.reduceBEq]) ?_
            simp only [go_sem, Nat.reduceEqDiff, Nat.reduceAdd, Nat.reduceLeDiff, Nat.reduceLT, ↓reduceIte, reduceCtorEq, Int.reduceLT, Int.reduceToNat, Int.reduceEq, Int.reduceBEq, Int.reduceBNe, Nat.reduceBEq, f1, f4, f10, hx]
            refine pcall hR (by simp only [go_sem, Nat.reduceEqDiff, Nat.reduceAdd, Nat.reduceLeDiff, Nat.reduceLT, ↓reduceIte, reduceCtorEq, Int.reduceLT, Int.reduceToNat, Int.reduceEq, Int.reduceBEq, Int.reduceBNe, Nat.reduceBEq]) ?_
            simp only [go_sem, Nat.reduceEqDiff, Nat.reduceAdd, Nat.reduceLeDiff, Nat.reduceLT, ↓reduceIte, reduceCtorEq, Int.reduceLT, Int.reduceToNat, Int.reduceEq, Int.reduceBEq, Int.reduceBNe, Nat.reduceBEq, f1, f4, f10, hx]
            refine pcall hNe (by simp only [go_sem, Nat.reduceEqDiff, Nat.reduceAdd, Nat.reduceLeDiff, Nat.reduceLT, ↓reduceIte, reduceCtorEq, Int.reduceLT, Int.reduceToNat, Int.reduceEq, Int.reduceBEq, Int.reduceBNe, Nat.reduceBEq]) ?_
            simp only [go_sem, Nat.reduceEqDiff, Nat.reduceAdd, Nat.reduceLeDiff, Nat.reduceLT, ↓reduceIte, reduceCtorEq, Int.reduceLT, Int.reduceToNat, Int.reduceEq, Int.reduceBEq, Int.reduceBNe, Nat.reduceBEq, f1, f4, f10, hC, hC']
            refine pcall (fn_num20 0) (by simp only [go_sem, Nat.reduceEqDiff, Nat.reduceAdd, Nat.reduceLeDiff, Nat.reduceLT, ↓reduceIte, reduceCtorEq, Int.reduceLT, Int.reduceToNat, Int.reduceEq, Int.reduceBEq, Int.reduceBNe, Nat.reduceBEq]) ?_
            simp only [go_sem, Nat.reduceEqDiff, Nat.reduceAdd, Nat.reduceLeDiff, Nat.reduceLT, ↓reduceIte, reduceCtorEq, Int.reduceLT, Int.reduceToNat, Int.reduceEq, Int.reduceBEq, Int.reduceBNe, Nat.reduceBEq, f1, f4, f10, hw, apFl_own]
            exact ⟨k - 1, by omega, j + 1, ty ++ nr, by omega, by omega, by simp; omega, by simp, rfl⟩
        · have h6' : decide ((j : Int) < 6) = false := decide_eq_false h6
          simp only [go_sem, Nat.reduceEqDiff, Nat.reduceAdd, Nat.reduceLeDiff, Nat.reduceLT, ↓reduceIte, reduceCtorEq, Int.reduceLT, Int.reduceToNat, Int.reduceEq, Int.reduceBEq, Int.reduceBNe, Nat.reduceBEq, f1, f4, f10, hj', h6']
          refine cloop (fun k t => ∃ j : Nat, j + k = ty.length ∧ t.fr 4 = .sl .own 1 (ty.map AV.str) ∧ t.fr 15 = .int .i64 (j : Nat) ∧ h.n + 1 ≤ t.hp.n ∧ Shrink h t.hp h) ty.length ⟨0, by simp, by simp [fr_apply, f4], by simp [fr_apply], by simp, by simp [shrink_upd, shrink_n]⟩ ?_
          have htyl : ty.length < 1000000000000000 := by omega
          clear f1 f4 f10 hj' hk hj6 hj
          rintro k ⟨f, hp⟩ ⟨j, hk, f4, f15, hnn, hsh⟩
          simp only at f4 f15 hnn hsh
          by_cases hj : j < ty.length
          · have hj' : decide ((j : Int) < (ty.length : Int)) = true := decide_eq_true (by omega)
            have hw : IntKind.i64.wrap ((j : Int) + 1) = ((j + 1 : Nat) : Int) := by rw [wrap64] <;> omega
            have hx := getStr hj
            generalize ty[j] = x at hx
            have hP := fn_TakeNumber x
            have hQ := fn_rTakeNumber' x
            have hW := fn_wTake x
            have hR := fn_rTake' x
            have hok := decW_ok 5 (x, false)
            have n1 : ¬ hp.n = hp.n + 1 := by omega
            have n2 : ¬ hp.n + 1 = hp.n := by omega
            have hsn : h.n ≤ hp.n := by omega
            have hsn1 : h.n ≤ hp.n + 1 := by omega
            have hsg := shrink_grow (n := hp.n + 2) hsh (by omega)
            generalize (decW 5 (x, false)).1 = u at hW hR hok
            generalize (decW 5 (x, false)).2.1 = v at hW hR
            generalize (numP (x, false)).1 = y at hP hQ
            generalize (numP (x, false)).2.1 = z at hP hQ
            simp only [go_sem, Nat.reduceEqDiff, Nat.reduceAdd, Nat.reduceLeDiff, Nat.reduceLT, ↓reduceIte, reduceCtorEq, Int.reduceLT, Int.reduceToNat, Int.reduceEq, Int.reduceBEq, Int.reduceBNe, Nat.reduceBEq, f4, f15, hj', hx]
            refine pcall hP (by simp only [go_sem, Nat.reduceEqDiff, Nat.reduceAdd, Nat.reduceLeDiff, Nat.reduceLT, ↓reduceIte, reduceCtorEq, Int.reduceLT, Int.reduceToNat, Int.reduceEq, Int.reduceBEq, Int.reduceBNe, Nat.reduceBEq]) ?_
            cases hb : (numP (x, false)).2.2 with
            | false =>
              rw [hb] at hQ
              simp only [Bool.false_eq_true, if_false] at hQ
              simp only [go_sem, Nat.reduceEqDiff, Nat.reduceAdd, Nat.reduceLeDiff, Nat.reduceLT, ↓reduceIte, reduceCtorEq, Int.reduceLT, Int.reduceToNat, Int.reduceEq, Int.reduceBEq, Int.reduceBNe, Nat.reduceBEq, f4, f15, hx]
              refine pcall hQ (by simp only [go_sem, Nat.reduceEqDiff, Nat.reduceAdd, Nat.reduceLeDiff, Nat.reduceLT, ↓reduceIte, reduceCtorEq, Int.reduceLT, Int.reduceToNat, Int.reduceEq, Int.reduceBEq, Int.reduceBNe, Nat.reduceBEq]) ?_
              simp only [go_sem, Nat.reduceEqDiff, Nat.reduceAdd, Nat.reduceLeDiff, Nat.reduceLT, ↓reduceIte, reduceCtorEq, Int.reduceLT, Int.reduceToNat, Int.reduceEq, Int.reduceBEq, Int.reduceBNe, Nat.reduceBEq, f4, f15, hx]
              refine pcall hW (by simp only [go_sem, Nat.reduceEqDiff, Nat.reduceAdd, Nat.reduceLeDiff, Nat.reduceLT, ↓reduceIte, reduceCtorEq, Int.reduceLT, Int.reduceToNat, Int.reduceEq, Int.reduceBEq, Int.reduceBNe, Nat.reduceBEq]) ?_
              cases hz : okW x with
              | false =>
                rw [hz] at hR
                simp only [Bool.false_eq_true, if_false] at hR
                have hE := fn_eqSelf (T.mk 0 [] 0 []) (by rw [ok_mk]; simp)
                simp only [go_sem, Nat.reduceEqDiff, Nat.reduceAdd, Nat.reduceLeDiff, Nat.reduceLT, ↓reduceIte, reduceCtorEq, Int.reduceLT, Int.reduceToNat, Int.reduceEq, Int.reduceBEq, Int.reduceBNe, Nat.reduceBEq, f4, f15, hx, n1, n2]
                refine pcall hR (by simp only [go_sem, Nat.reduceEqDiff, Nat.reduceAdd, Nat.reduceLeDiff, Nat.reduceLT, ↓reduceIte, reduceCtorEq, Int.reduceLT, Int.reduceToNat, Int.reduceEq, Int.reduceBEq, Int.reduceBNe, Nat.reduceBEq]) ?_
                simp only [go_sem, Nat.reduceEqDiff, Nat.reduceAdd, Nat.reduceLeDiff, Nat.reduceLT, ↓reduceIte, reduceCtorEq, Int.reduceLT, Int.reduceToNat, Int.reduceEq, Int.reduceBEq, Int.reduceBNe, Nat.reduceBEq, f4, f15, n1, n2, zero_avf]
                refine pcall (fn_num20 0) (by simp only [go_sem, Nat.reduceEqDiff, Nat.reduceAdd, Nat.reduceLeDiff, Nat.reduceLT, ↓reduceIte, reduceCtorEq, Int.reduceLT, Int.reduceToNat, Int.reduceEq, Int.reduceBEq, Int.reduceBNe, Nat.reduceBEq]) ?_
                simp only [go_sem, Nat.reduceEqDiff, Nat.reduceAdd, Nat.reduceLeDiff, Nat.reduceLT, ↓reduceIte, reduceCtorEq, Int.reduceLT, Int.reduceToNat, Int.reduceEq, Int.reduceBEq, Int.reduceBNe, Nat.reduceBEq, f4, f15, n1, n2]
                refine pcall (fn_num20 4) (by simp only [go_sem, Nat.reduceEqDiff, Nat.reduceAdd, Nat.reduceLeDiff, Nat.reduceLT, ↓reduceIte, reduceCtorEq, Int.reduceLT, Int.reduceToNat, Int.reduceEq, Int.reduceBEq, Int.reduceBNe, Nat.reduceBEq]) ?_
                simp only [go_sem, Nat.reduceEqDiff, Nat.reduceAdd, Nat.reduceLeDiff, Nat.reduceLT, ↓reduceIte, reduceCtorEq, Int.reduceLT, Int.reduceToNat, Int.reduceEq, Int.reduceBEq, Int.reduceBNe, Nat.reduceBEq, f4, f15, n1, n2]
                refine pcall (fn_num20 4) (by simp only [go_sem, Nat.reduceEqDiff, Nat.reduceAdd, Nat.reduceLeDiff, Nat.reduceLT, ↓reduceIte, reduceCtorEq, Int.reduceLT, Int.reduceToNat, Int.reduceEq, Int.reduceBEq, Int.reduceBNe, Nat.reduceBEq]) ?_
                rw [zero_avf] at hE
                simp only [go_sem, Nat.reduceEqDiff, Nat.reduceAdd, Nat.reduceLeDiff, Nat.reduceLT, ↓reduceIte, reduceCtorEq, Int.reduceLT, Int.reduceToNat, Int.reduceEq, Int.reduceBEq, Int.reduceBNe, Nat.reduceBEq, f4, f15, n1, n2]
                refine pcall hE (by simp only [go_sem, Nat.reduceEqDiff, Nat.reduceAdd, Nat.reduceLeDiff, Nat.reduceLT, ↓reduceIte, reduceCtorEq, Int.reduceLT, Int.reduceToNat, Int.reduceEq, Int.reduceBEq, Int.reduceBNe, Nat.reduceBEq]) ?_
                simp only [go_sem, Nat.reduceEqDiff, Nat.reduceAdd, Nat.reduceLeDiff, Nat.reduceLT, ↓reduceIte, reduceCtorEq, Int.reduceLT, Int.reduceToNat, Int.reduceEq, Int.reduceBEq, Int.reduceBNe, Nat.reduceBEq, f4, f15, hw]
                exact ⟨k - 1, by omega, j + 1, by omega, rfl, by omega, by simp [shrink_upd, hsg, hsn, hsn1]⟩
              | true =>
                rw [hz] at hR
                simp only [if_true] at hR
                have hE := fn_eqSelf u hok
                simp only [go_sem, Nat.reduceEqDiff, Nat.reduceAdd, Nat.reduceLeDiff, Nat.reduceLT, ↓reduceIte, reduceCtorEq, Int.reduceLT, Int.reduceToNat, Int.reduceEq, Int.reduceBEq, Int.reduceBNe, Nat.reduceBEq, f4, f15, hx, n1, n2]
                refine pcall hR (by simp only [go_sem, Nat.reduceEqDiff, Nat.reduceAdd, Nat.reduceLeDiff, Nat.reduceLT, ↓reduceIte, reduceCtorEq, Int.reduceLT, Int.reduceToNat, Int.reduceEq, Int.reduceBEq, Int.reduceBNe, Nat.reduceBEq]) ?_
                simp only [go_sem, Nat.reduceEqDiff, Nat.reduceAdd, Nat.reduceLeDiff, Nat.reduceLT, ↓reduceIte, reduceCtorEq, Int.reduceLT, Int.reduceToNat, Int.reduceEq, Int.reduceBEq, Int.reduceBNe, Nat.reduceBEq, f4, f15, n1, n2]
                refine pcall (fn_num20 0) (by simp only [go_sem, Nat.reduceEqDiff, Nat.reduceAdd, Nat.reduceLeDiff, Nat.reduceLT, ↓reduceIte, reduceCtorEq, Int.reduceLT, Int.reduceToNat, Int.reduceEq, Int.reduceBEq, Int.reduceBNe, Nat.reduceBEq]) ?_
                simp only [go_sem, Nat.reduceEqDiff, Nat.reduceAdd, Nat.reduceLeDiff, Nat.reduceLT, ↓reduceIte, reduceCtorEq, Int.reduceLT, Int.reduceToNat, Int.reduceEq, Int.reduceBEq, Int.reduceBNe, Nat.reduceBEq, f4, f15, n1, n2]
                refine pcall (fn_num20 0) (by simp only [go_sem, Nat.reduceEqDiff, Nat.reduceAdd, Nat.reduceLeDiff, Nat.reduceLT, ↓reduceIte, reduceCtorEq, Int.reduceLT, Int.reduceToNat, Int.reduceEq, Int.reduceBEq, Int.reduceBNe, Nat.reduceBEq]) ?_
                simp only [go_sem, Nat.reduceEqDiff, Nat.reduceAdd, Nat.reduceLeDiff, Nat.reduceLT, ↓reduceIte, reduceCtorEq, Int.reduceLT, Int.reduceToNat, Int.reduceEq, Int.reduceBEq, Int.reduceBNe, Nat.reduceBEq, f4, f15, n1, n2]
                refine pcall hE (by simp only [go_sem, Nat.reduceEqDiff, Nat.reduceAdd, Nat.reduceLeDiff, Nat.reduceLT, ↓reduceIte, reduceCtorEq, Int.reduceLT, Int.reduceToNat, Int.reduceEq, Int.reduceBEq, Int.reduceBNe, Nat.reduceBEq]) ?_
                simp only [go_sem, Nat.reduceEqDiff, Nat.reduceAdd, Nat.reduceLeDiff, Nat.reduceLT, ↓reduceIte, reduceCtorEq, Int.reduceLT, Int.reduceToNat, Int.reduceEq, Int.reduceBEq, Int.reduceBNe, Nat.reduceBEq, f4, f15, hw]
                exact ⟨k - 1, by omega, j + 1, by omega, rfl, by omega, by simp [shrink_upd, hsg, hsn, hsn1]⟩
            | true =>
              rw [hb] at hQ
              simp only [if_true] at hQ
              simp only [go_sem, Nat.reduceEqDiff, Nat.reduceAdd, Nat.reduceLeDiff, Nat.reduceLT, ↓reduceIte, reduceCtorEq, Int.reduceLT, Int.reduceToNat, Int.reduceEq, Int.reduceBEq, Int.reduceBNe, Nat.reduceBEq, f4, f15, hx]
              refine pcall hQ (by simp only [go_sem, Nat.reduceEqDiff, Nat.reduceAdd, Nat.reduceLeDiff, Nat.reduceLT, ↓reduceIte, reduceCtorEq, Int.reduceLT, Int.reduceToNat, Int.reduceEq, Int.reduceBEq, Int.reduceBNe, Nat.reduceBEq]) ?_
              simp only [go_sem, Nat.reduceEqDiff, Nat.reduceAdd, Nat.reduceLeDiff, Nat.reduceLT, ↓reduceIte, reduceCtorEq, Int.reduceLT, Int.reduceToNat, Int.reduceEq, Int.reduceBEq, Int.reduceBNe, Nat.reduceBEq, f4, f15, hx]
              refine pcall hW (by simp only [go_sem, Nat.reduceEqDiff, Nat.reduceAdd, Nat.reduceLeDiff, Nat.reduceLT, ↓reduceIte, reduceCtorEq, Int.reduceLT, Int.reduceToNat, Int.reduceEq, Int.reduceBEq, Int.reduceBNe, Nat.reduceBEq]) ?_
              cases hz : okW x with
              | false =>
                rw [hz] at hR
                simp only [Bool.false_eq_true, if_false] at hR
                have hE := fn_eqSelf (T.mk 0 [] 0 []) (by rw [ok_mk]; simp)
                simp only [go_sem, Nat.reduceEqDiff, Nat.reduceAdd, Nat.reduceLeDiff, Nat.reduceLT, ↓reduceIte, reduceCtorEq, Int.reduceLT, Int.reduceToNat, Int.reduceEq, Int.reduceBEq, Int.reduceBNe, Nat.reduceBEq, f4, f15, hx, n1, n2]
                refine pcall hR (by simp only [go_sem, Nat.reduceEqDiff, Nat.reduceAdd, Nat.reduceLeDiff, Nat.reduceLT, ↓reduceIte, reduceCtorEq, Int.reduceLT, Int.reduceToNat, Int.reduceEq, Int.reduceBEq, Int.reduceBNe, Nat.reduceBEq]) ?_
                simp only [go_sem, Nat.reduceEqDiff, Nat.reduceAdd, Nat.reduceLeDiff, Nat.reduceLT, ↓reduceIte, reduceCtorEq, Int.reduceLT, Int.reduceToNat, Int.reduceEq, Int.reduceBEq, Int.reduceBNe, Nat.reduceBEq, f4, f15, n1, n2, zero_avf]
                refine pcall (fn_num20 4) (by simp only [go_sem, Nat.reduceEqDiff, Nat.reduceAdd, Nat.reduceLeDiff, Nat.reduceLT, ↓reduceIte, reduceCtorEq, Int.reduceLT, Int.reduceToNat, Int.reduceEq, Int.reduceBEq, Int.reduceBNe, Nat.reduceBEq]) ?_
                simp only [go_sem, Nat.reduceEqDiff, Nat.reduceAdd, Nat.reduceLeDiff, Nat.reduceLT, ↓reduceIte, reduceCtorEq, Int.reduceLT, Int.reduceToNat, Int.reduceEq, Int.reduceBEq, Int.reduceBNe, Nat.reduceBEq, f4, f15, n1, n2]
                refine pcall (fn_num20 4) (by simp only [go_sem, Nat.reduceEqDiff, Nat.reduceAdd, Nat.reduceLeDiff, Nat.reduceLT, ↓reduceIte, reduceCtorEq, Int.reduceLT, Int.reduceToNat, Int.reduceEq, Int.reduceBEq, Int.reduceBNe, Nat.reduceBEq]) ?_
                simp only [go_sem, Nat.reduceEqDiff, Nat.reduceAdd, Nat.reduceLeDiff, Nat.reduceLT, ↓reduceIte, reduceCtorEq, Int.reduceLT, Int.reduceToNat, Int.reduceEq, Int.reduceBEq, Int.reduceBNe, Nat.reduceBEq, f4, f15, n1, n2]
                refine pcall (fn_num20 4) (by simp only [go_sem, Nat.reduceEqDiff, Nat.reduceAdd, Nat.reduceLeDiff, Nat.reduceLT, ↓reduceIte, reduceCtorEq, Int.reduceLT, Int.reduceToNat, Int.reduceEq, Int.reduceBEq, Int.reduceBNe, Nat.reduceBEq]) ?_
                simp only [go_sem, Nat.reduceEqDiff, Nat.reduceAdd, Nat.reduceLeDiff, Nat.reduceLT, ↓reduceIte, reduceCtorEq, Int.reduceLT, Int.reduceToNat, Int.reduceEq, Int.reduceBEq, Int.reduceBNe, Nat.reduceBEq, f4, f15, n1, n2]
                refine pcall (fn_num20 4) (by simp only [go_sem, Nat.reduceEqDiff, Nat.reduceAdd, Nat.reduceLeDiff, Nat.reduceLT, ↓reduceIte, reduceCtorEq, Int.reduceLT, Int.reduceToNat, Int.reduceEq, Int.reduceBEq, Int.reduceBNe, Nat.reduceBEq]) ?_
                rw [zero_avf] at hE
                simp only [go_sem, Nat.reduceEqDiff, Nat.reduceAdd, Nat.reduceLeDiff, Nat.reduceLT, ↓reduceIte, reduceCtorEq, Int.reduceLT, Int.reduceToNat, Int.reduceEq, Int.reduceBEq, Int.reduceBNe, Nat.reduceBEq, f4, f15, n1, n2]
                refine pcall hE (by simp only [go_sem, Nat.reduceEqDiff, Nat.reduceAdd, Nat.reduceLeDiff, Nat.reduceLT, ↓reduceIte, reduceCtorEq, Int.reduceLT, Int.reduceToNat, Int.reduceEq, Int.reduceBEq, Int.reduceBNe, Nat.reduceBEq]) ?_
                simp only [go_sem, Nat.reduceEqDiff, Nat.reduceAdd, Nat.reduceLeDiff, Nat.reduceLT, ↓reduceIte, reduceCtorEq, Int.reduceLT, Int.reduceToNat, Int.reduceEq, Int.reduceBEq, Int.reduceBNe, Nat.reduceBEq, f4, f15, hw]
                exact ⟨k - 1, by omega, j + 1, by omega, rfl, by omega, by simp [shrink_upd, hsg, hsn, hsn1]⟩
              | true =>
                rw [hz] at hR
                simp only [if_true] at hR
                have hE := fn_eqSelf u hok
                simp only [go_sem, Nat.reduceEqDiff, Nat.reduceAdd, Nat.reduceLeDiff, Nat.reduceLT, ↓reduceIte, reduceCtorEq, Int.reduceLT, Int.reduceToNat, Int.reduceEq, Int.reduceBEq, Int.reduceBNe, Nat.reduceBEq, f4, f15, hx, n1, n2]
                refine pcall hR (by simp only [go_sem, Nat.reduceEqDiff, Nat.reduceAdd, Nat.reduceLeDiff, Nat.reduceLT, ↓reduceIte, reduceCtorEq, Int.reduceLT, Int.reduceToNat, Int.reduceEq, Int.reduceBEq, Int.reduceBNe, Nat.reduceBEq]) ?_
                simp only [go_sem, Nat.reduceEqDiff, Nat.reduceAdd, Nat.reduceLeDiff, Nat.reduceLT, ↓reduceIte, reduceCtorEq, Int.reduceLT, Int.reduceToNat, Int.reduceEq, Int.reduceBEq, Int.reduceBNe, Nat.reduceBEq, f4, f15, n1, n2]
                refine pcall (fn_num20 4) (by simp only [go_sem, Nat.reduceEqDiff, Nat.reduceAdd, Nat.reduceLeDiff, Nat.reduceLT, ↓reduceIte, reduceCtorEq, Int.reduceLT, Int.reduceToNat, Int.reduceEq, Int.reduceBEq, Int.reduceBNe, Nat.reduceBEq]) ?_
                simp only [go_sem, Nat.reduceEqDiff, Nat.reduceAdd, Nat.reduceLeDiff, Nat.reduceLT, ↓reduceIte, reduceCtorEq, Int.reduceLT, Int.reduceToNat, Int.reduceEq, Int.reduceBEq, Int.reduceBNe, Nat.reduceBEq, f4, f15, n1, n2]
                refine pcall (fn_num20 4) (by simp only [go_sem, Nat.reduceEqDiff, Nat.reduceAdd, Nat.reduceLeDiff, Nat.reduceLT, ↓reduceIte, reduceCtorEq, Int.reduceLT, Int.reduceToNat, Int.reduceEq, Int.reduceBEq, Int.reduceBNe, Nat.reduceBEq]) ?_
                simp only [go_sem, Nat.reduceEqDiff, Nat.reduceAdd, Nat.reduceLeDiff, Nat.reduceLT, ↓reduceIte, reduceCtorEq, Int.reduceLT, Int.reduceToNat, Int.reduceEq, Int.reduceBEq, Int.reduceBNe, Nat.reduceBEq, f4, f15, n1, n2]
                refine pcall (fn_num20 0) (by simp only [go_sem, Nat.reduceEqDiff, Nat.reduceAdd, Nat.reduceLeDiff, Nat.reduceLT, ↓reduceIte, reduceCtorEq, Int.reduceLT, Int.reduceToNat, Int.reduceEq, Int.reduceBEq, Int.reduceBNe, Nat.reduceBEq]) ?_
                simp only [go_sem, Nat.reduceEqDiff, Nat.reduceAdd, Nat.reduceLeDiff, Nat.reduceLT, ↓reduceIte, reduceCtorEq, Int.reduceLT, Int.reduceToNat, Int.reduceEq, Int.reduceBEq, Int.reduceBNe, Nat.reduceBEq, f4, f15, n1, n2]
                refine pcall hE (by simp only [go_sem, Nat.reduceEqDiff, Nat.reduceAdd, Nat.reduceLeDiff, Nat.reduceLT, ↓reduceIte, reduceCtorEq, Int.reduceLT, Int.reduceToNat, Int.reduceEq, Int.reduceBEq, Int.reduceBNe, Nat.reduceBEq]) ?_
                simp only [go_sem, Nat.reduceEqDiff, Nat.reduceAdd, Nat.reduceLeDiff, Nat.reduceLT, ↓reduceIte, reduceCtorEq, Int.reduceLT, Int.reduceToNat, Int.reduceEq, Int.reduceBEq, Int.reduceBNe, Nat.reduceBEq, f4, f15, hw]
                exact ⟨k - 1, by omega, j + 1, by omega, rfl, by omega, by simp [shrink_upd, hsg, hsn, hsn1]⟩
          · have hj' : decide ((j : Int) < (ty.length : Int)) = false := decide_eq_false (by omega)
            simp only [go_sem, Nat.reduceEqDiff, Nat.reduceAdd, Nat.reduceLeDiff, Nat.reduceLT, ↓reduceIte, reduceCtorEq, Int.reduceLT, Int.reduceToNat, Int.reduceEq, Int.reduceBEq, Int.reduceBNe, Nat.reduceBEq, f4, f15, hj']
            refine pcall fn_wakes20 (by simp only [go_sem, Nat.reduceEqDiff, Nat.reduceAdd, Nat.reduceLeDiff, Nat.reduceLT, ↓reduceIte, reduceCtorEq, Int.reduceLT, Int.reduceToNat, Int.reduceEq, Int.reduceBEq, Int.reduceBNe, Nat.reduceBEq]) ?_
            simp only [go_sem, Nat.reduceEqDiff, Nat.reduceAdd, Nat.reduceLeDiff, Nat.reduceLT, ↓reduceIte, reduceCtorEq, Int.reduceLT, Int.reduceToNat, Int.reduceEq, Int.reduceBEq, Int.reduceBNe, Nat.reduceBEq]
            exact hsh
      · have hj' : decide ((j : Int) < (l.length : Int)) = false := decide_eq_false (by omega)
        simp only [go_sem, Nat.reduceEqDiff, Nat.reduceAdd, Nat.reduceLeDiff, Nat.reduceLT, ↓reduceIte, reduceCtorEq, Int.reduceLT, Int.reduceToNat, Int.reduceEq, Int.reduceBEq, Int.reduceBNe, Nat.reduceBEq, f1, f4, f10, hj']
        refine cloop (fun k t => ∃ j : Nat, j + k = ty.length ∧ t.fr 4 = .sl .own 1 (ty.map AV.str) ∧ t.fr 15 = .int .i64 (j : Nat) ∧ h.n + 1 ≤ t.hp.n ∧ Shrink h t.hp h) ty.length ⟨0, by simp, by simp [fr_apply, f4], by simp [fr_apply], by simp, by simp [shrink_upd, shrink_n]⟩ ?_
        have htyl : ty.length < 1000000000000000 := by omega
        clear f1 f4 f10 hj' hk hj6 hj
        rintro k ⟨f, hp⟩ ⟨j, hk, f4, f15, hnn, hsh⟩
        simp only at f4 f15 hnn hsh
        by_cases hj : j < ty.length
        · have hj' : decide ((j : Int) < (ty.length : Int)) = true := decide_eq_true (by omega)
          have hw : IntKind.i64.wrap ((j : Int) + 1) = ((j + 1 : Nat) : Int) := by rw [wrap64] <;> omega
          have hx := getStr hj
          generalize ty[j] = x at hx
          have hP := fn_TakeNumber x
          have hQ := fn_rTakeNumber' x
          have hW := fn_wTake x
          have hR := fn_rTake' x
          have hok := decW_ok 5 (x, false)
          have n1 : ¬ hp.n = hp.n + 1 := by omega
          have n2 : ¬ hp.n + 1 = hp.n := by omega
          have hsn : h.n ≤ hp.n := by omega
          have hsn1 : h.n ≤ hp.n + 1 := by omega
          have hsg := shrink_grow (n := hp.n + 2) hsh (by omega)
          generalize (decW 5 (x, false)).1 = u at hW hR hok
          generalize (decW 5 (x, false)).2.1 = v at hW hR
          generalize (numP (x, false)).1 = y at hP hQ
          generalize (numP (x, false)).2.1 = z at hP hQ
          simp only [go_sem, Nat.reduceEqDiff, Nat.reduceAdd, Nat.reduceLeDiff, Nat.reduceLT, ↓reduceIte, reduceCtorEq, Int.reduceLT, Int.reduceToNat, Int.reduceEq, Int.reduceBEq, Int.reduceBNe, Nat.reduceBEq, f4, f15, hj', hx]
          refine pcall hP (by simp only [go_sem, Nat.reduceEqDiff, Nat.reduceAdd, Nat.reduceLeDiff, Nat.reduceLT, ↓reduceIte, reduceCtorEq, Int.reduceLT, Int.reduceToNat, Int.reduceEq, Int.reduceBEq, Int.reduceBNe, Nat.reduceBEq]) ?_
          cases hb : (numP (x, false)).2.2 with
          | false =>
            rw [hb] at hQ
            simp only [Bool.false_eq_true, if_false] at hQ
            simp only [go_sem, Nat.reduceEqDiff, Nat.reduceAdd, Nat.reduceLeDiff, Nat.reduceLT, ↓reduceIte, reduceCtorEq, Int.reduceLT, Int.reduceToNat, Int.reduceEq, Int.reduceBEq, Int.reduceBNe, Nat.reduceBEq, f4, f15, hx]
            refine pcall hQ (by simp only [go_sem, Nat.reduceEqDiff, Nat.reduceAdd, Nat.reduceLeDiff, Nat.reduceLT, ↓reduceIte, reduceCtorEq, Int.reduceLT, Int.reduceToNat, Int.reduceEq, Int.reduceBEq, Int.reduceBNe, Nat.reduceBEq]) ?_
            simp only [go_sem, Nat.reduceEqDiff, Nat.reduceAdd, Nat.reduceLeDiff, Nat.reduceLT, ↓reduceIte, reduceCtorEq, Int.reduceLT, Int.reduceToNat, Int.reduceEq, Int.reduceBEq, Int.reduceBNe, Nat.reduceBEq, f4, f15, hx]
            refine pcall hW (by simp only [go_sem, Nat.reduceEqDiff, Nat.reduceAdd, Nat.reduceLeDiff, Nat.reduceLT, ↓reduceIte, reduceCtorEq, Int.reduceLT, Int.reduceToNat, Int.reduceEq, Int.reduceBEq, Int.reduceBNe, Nat.reduceBEq]) ?_
            cases hz : okW x with
            | false =>
              rw [hz] at hR
              simp only [Bool.false_eq_true, if_false] at hR
              have hE := fn_eqSelf (T.mk 0 [] 0 []) (by rw [ok_mk]; simp)
              simp only [go_sem, Nat.reduceEqDiff, Nat.reduceAdd, Nat.reduceLeDiff, Nat.reduceLT, ↓reduceIte, reduceCtorEq, Int.reduceLT, Int.reduceToNat, Int.reduceEq, Int.reduceBEq, Int.reduceBNe, Nat.reduceBEq, f4, f15, hx, n1, n2]
              refine pcall hR (by simp only [go_sem, Nat.reduceEqDiff, Nat.reduceAdd, Nat.reduceLeDiff, Nat.reduceLT, ↓reduceIte, reduceCtorEq, Int.reduceLT, Int.reduceToNat, Int.reduceEq, Int.reduceBEq, Int.reduceBNe, Nat.reduceBEq]) ?_
              simp only [go_sem, Nat.reduceEqDiff, Nat.reduceAdd, Nat.reduceLeDiff, Nat.reduceLT, ↓reduceIte, reduceCtorEq, Int.reduceLT, Int.reduceToNat, Int.reduceEq, Int.reduceBEq, Int.reduceBNe, Nat.reduceBEq, f4, f15, n1, n2, zero_avf]
              refine pcall (fn_num20 0) (by simp only [go_sem, Nat.reduceEqDiff, Nat.reduceAdd, Nat.reduceLeDiff, Nat.reduceLT, ↓reduceIte, reduceCtorEq, Int.reduceLT, Int.reduceToNat, Int.reduceEq, Int.reduceBEq, Int.reduceBNe, Nat.reduceBEq]) ?_
              simp only [go_sem, Nat.reduceEqDiff, Nat.reduceAdd, Nat.reduceLeDiff, Nat.reduceLT, ↓reduceIte, reduceCtorEq, Int.reduceLT, Int.reduceToNat, Int.reduceEq, Int.reduceBEq, Int.reduceBNe, Nat.reduceBEq, f4, f15, n1, n2]
              refine pcall (fn_num20 4) (by simp only [go_sem, Nat.reduceEqDiff, Nat.reduceAdd, Nat.reduceLeDiff, Nat.reduceLT, ↓reduceIte, reduceCtorEq, Int.reduceLT, Int.reduceToNat, Int.reduceEq, Int.reduceBEq, Int.reduceBNe, Nat.reduceBEq]) ?_
              simp only [go_sem, Nat.reduceEqDiff, Nat.reduceAdd, Nat.reduceLeDiff, Nat.reduceLT, ↓reduceIte, reduceCtorEq, Int.reduceLT, Int.reduceToNat, Int.reduceEq, Int.reduceBEq, Int.reduceBNe, Nat.reduceBEq, f4, f15, n1, n2]
              refine pcall (fn_num20 4) (by simp only [go_sem, Nat.reduceEqDiff, Nat.reduceAdd, Nat.reduceLeDiff, Nat.reduceLT, ↓reduceIte, reduceCtorEq, Int.reduceLT, Int.reduceToNat, Int.reduceEq, Int.reduceBEq, Int.reduceBNe, Nat.reduceBEq]) ?_
              rw [zero_avf] at hE
              simp only [go_sem, Nat.reduceEqDiff, Nat.reduceAdd, Nat.reduceLeDiff, Nat.reduceLT, ↓reduceIte, reduceCtorEq, Int.reduceLT, Int.reduceToNat, Int.reduceEq, Int.reduceBEq, Int.reduceBNe, Nat.reduceBEq, f4, f15, n1, n2]
              refine pcall hE (by simp only [go_sem, Nat.reduceEqDiff, Nat.reduceAdd, Nat.reduceLeDiff, Nat.reduceLT, ↓reduceIte, reduceCtorEq, Int.reduceLT, Int.reduceToNat, Int.reduceEq, Int.reduceBEq, Int.reduceBNe, Nat.reduceBEq]) ?_
              simp only [go_sem, Nat.reduceEqDiff, Nat.reduceAdd, Nat.reduceLeDiff, Nat.reduceLT, ↓reduceIte, reduceCtorEq, Int.reduceLT, Int.reduceToNat, Int.reduceEq, Int.reduceBEq, Int.reduceBNe, Nat.reduceBEq, f4, f15, hw]
              exact ⟨k - 1, by omega, j + 1, by omega, rfl, by omega, by simp [shrink_upd, hsg, hsn, hsn1]⟩
            | true =>
              rw [hz] at hR
              simp only [if_true] at hR
              have hE := fn_eqSelf u hok
              simp only [go_sem, Nat.reduceEqDiff, Nat.reduceAdd, Nat.reduceLeDiff, Nat.reduceLT, ↓reduceIte, reduceCtorEq, Int.reduceLT, Int.reduceToNat, Int.reduceEq, Int.reduceBEq, Int.reduceBNe, Nat.reduceBEq, f4, f15, hx, n1, n2]
              refine pcall hR (by simp only [go_sem, Nat.reduceEqDiff, Nat.reduceAdd, Nat.reduceLeDiff, Nat.reduceLT, ↓reduceIte, reduceCtorEq, Int.reduceLT, Int.reduceToNat, Int.reduceEq, Int.reduceBEq, Int.reduceBNe, Nat.reduceBEq]) ?_
              simp only [go_sem, Nat.reduceEqDiff, Nat.reduceAdd, Nat.reduceLeDiff, Nat.reduceLT, ↓reduceIte, reduceCtorEq, Int.reduceLT, Int.reduceToNat, Int.reduceEq, Int.reduceBEq, Int.reduceBNe, Nat.reduceBEq, f4, f15, n1, n2]
              refine pcall (fn_num20 0) (by simp only [go_sem, Nat.reduceEqDiff, Nat.reduceAdd, Nat.reduceLeDiff, Nat.reduceLT, ↓reduceIte, reduceCtorEq, Int.reduceLT, Int.reduceToNat, Int.reduceEq, Int.reduceBEq, Int.reduceBNe, Nat.reduceBEq]) ?_
              simp only [go_sem, Nat.reduceEqDiff, Nat.reduceAdd, Nat.reduceLeDiff, Nat.reduceLT, ↓reduceIte, reduceCtorEq, Int.reduceLT, Int.reduceToNat, Int.reduceEq, Int.reduceBEq, Int.reduceBNe, Nat.reduceBEq, f4, f15, n1, n2]
              refine pcall (fn_num20 0) (by simp only [go_sem, Nat.reduceEqDiff, Nat.reduceAdd, Nat.reduceLeDiff, Nat.reduceLT, ↓reduceIte, reduceCtorEq, Int.reduceLT, Int.reduceToNat, Int.reduceEq, Int.reduceBEq, Int.reduceBNe, Nat.reduceBEq]) ?_
              simp only [go_sem, Nat.reduceEqDiff, Nat.reduceAdd, Nat.reduceLeDiff, Nat.reduceLT, ↓reduceIte, reduceCtorEq, Int.reduceLT, Int.reduceToNat, Int.reduceEq, Int.reduceBEq, Int.reduceBNe, Nat.reduceBEq, f4, f15, n1, n2]
              refine pcall hE (by simp only [go_sem, Nat.reduceEqDiff, Nat.reduceAdd, Nat.reduceLeDiff, Nat.reduceLT, ↓reduceIte, reduceCtorEq, Int.reduceLT, Int.reduceToNat, Int.reduceEq, Int.reduceBEq, Int.reduceBNe, Nat.reduceBEq]) ?_
              simp only [go_sem, Nat.reduceEqDiff, Nat.reduceAdd, Nat.reduceLeDiff, Nat.reduceLT, ↓reduceIte, reduceCtorEq, Int.reduceLT, Int.reduceToNat, Int.reduceEq, Int.reduceBEq, Int.reduceBNe, Nat.reduceBEq, f4, f15, hw]
              exact ⟨k - 1, by omega, j + 1, by omega, rfl, by omega, by simp [shrink_upd, hsg, hsn, hsn1]⟩
          | true =>
            rw [hb] at hQ
            simp only [if_true] at hQ
            simp only [go_sem, Nat.reduceEqDiff, Nat.reduceAdd, Nat.reduceLeDiff, Nat.reduceLT, ↓reduceIte, reduceCtorEq, Int.reduceLT, Int.reduceToNat, Int.reduceEq, Int.reduceBEq, Int.reduceBNe, Nat.reduceBEq, f4, f15, hx]
            refine pcall hQ (by simp only [go_sem, Nat.reduceEqDiff, Nat.reduceAdd, Nat.reduceLeDiff, Nat.reduceLT, ↓reduceIte, reduceCtorEq, Int.reduceLT, Int.reduceToNat, Int.reduceEq, Int.reduceBEq, Int.reduceBNe, Nat.reduceBEq]) ?_
            simp only [go_sem, Nat.reduceEqDiff, Nat.reduceAdd, Nat.reduceLeDiff, Nat.reduceLT, ↓reduceIte, reduceCtorEq, Int.reduceLT, Int.reduceToNat, Int.reduceEq, Int.reduceBEq, Int.reduceBNe, Nat.reduceBEq, f4, f15, hx]
            refine pcall hW (by simp only [go_sem, Nat.reduceEqDiff, Nat.reduceAdd, Nat.reduceLeDiff, Nat.reduceLT, ↓reduceIte, reduceCtorEq, Int.reduceLT, Int.reduceToNat, Int.reduceEq, Int.reduceBEq, Int.reduceBNe, Nat.reduceBEq]) ?_
            cases hz : okW x with
            | false =>
              rw [hz] at hR
              simp only [Bool.false_eq_true, if_false] at hR
              have hE := fn_eqSelf (T.mk 0 [] 0 []) (by rw [ok_mk]; simp)
              simp only [go_sem, Nat.reduceEqDiff, Nat.reduceAdd, Nat.reduceLeDiff, Nat.reduceLT, ↓reduceIte, reduceCtorEq, Int.reduceLT, Int.reduceToNat, Int.reduceEq, Int.reduceBEq, Int.reduceBNe, Nat.reduceBEq, f4, f15, hx, n1, n2]
              refine pcall hR (by simp only [go_sem, Nat.reduceEqDiff, Nat.reduceAdd, Nat.reduceLeDiff, Nat.reduceLT, ↓reduceIte, reduceCtorEq, Int.reduceLT, Int.reduceToNat, Int.reduceEq, Int.reduceBEq, Int.reduceBNe, Nat.reduceBEq]) ?_
              simp only [go_sem, Nat.reduceEqDiff, Nat.reduceAdd, Nat.reduceLeDiff, Nat.reduceLT, ↓reduceIte, reduceCtorEq, Int.reduceLT, Int.reduceToNat, Int.reduceEq, Int.reduceBEq, Int.reduceBNe, Nat.reduceBEq, f4, f15, n1, n2, zero_avf]
              refine pcall (fn_num20 4) (by simp only [go_sem, Nat.reduceEqDiff, Nat.reduceAdd, Nat.reduceLeDiff, Nat.reduceLT, ↓reduceIte, reduceCtorEq, Int.reduceLT, Int.reduceToNat, Int.reduceEq, Int.reduceBEq, Int.reduceBNe, Nat.reduceBEq]) ?_
              simp only [go_sem, Nat.reduceEqDiff, Nat.reduceAdd, Nat.reduceLeDiff, Nat.reduceLT, ↓reduceIte, reduceCtorEq, Int.reduceLT, Int.reduceToNat, Int.reduceEq, Int.reduceBEq, Int.reduceBNe, Nat.reduceBEq, f4, f15, n1, n2]
              refine pcall (fn_num20 4) (by simp only [go_sem, Nat.reduceEqDiff, Nat.reduceAdd, Nat.reduceLeDiff, Nat.reduceLT, ↓reduceIte, reduceCtorEq, Int.reduceLT, Int.reduceToNat, Int.reduceEq, Int.reduceBEq, Int.reduceBNe, Nat.reduceBEq]) ?_
              simp only [go_sem, Nat.reduceEqDiff, Nat.reduceAdd, Nat.reduceLeDiff, Nat.reduceLT, ↓reduceIte, reduceCtorEq, Int.reduceLT, Int.reduceToNat, Int.reduceEq, Int.reduceBEq, Int.reduceBNe, Nat.reduceBEq, f4, f15, n1, n2]
              refine pcall (fn_num20 4) (by simp only [go_sem, Nat.reduceEqDiff, Nat.reduceAdd, Nat.reduceLeDiff, Nat.reduceLT, ↓reduceIte, reduceCtorEq, Int.reduceLT, Int.reduceToNat, Int.reduceEq, Int.reduceBEq, Int.reduceBNe, Nat.reduceBEq]) ?_
              simp only [go_sem, Nat.reduceEqDiff, Nat.reduceAdd, Nat.reduceLeDiff, Nat.reduceLT, ↓reduceIte, reduceCtorEq, Int.reduceLT, Int.reduceToNat, Int.reduceEq, Int.reduceBEq, Int.reduceBNe, Nat.reduceBEq, f4, f15, n1, n2]
              refine pcall (fn_num20 4) (by simp only [go_sem, Nat.reduceEqDiff, Nat.reduceAdd, Nat.reduceLeDiff, Nat.reduceLT, ↓reduceIte, reduceCtorEq, Int.reduceLT, Int.reduceToNat, Int.reduceEq, Int.reduceBEq, Int.reduceBNe, Nat.reduceBEq]) ?_
              rw [zero_avf] at hE
              simp only [go_sem, Nat.reduceEqDiff, Nat.reduceAdd, Nat.reduceLeDiff, Nat.reduceLT, ↓reduceIte, reduceCtorEq, Int.reduceLT, Int.reduceToNat, Int.reduceEq, Int.reduceBEq, Int.reduceBNe, Nat.reduceBEq, f4, f15, n1, n2]
              refine pcall hE (by simp only [go_sem, Nat.reduceEqDiff, Nat.reduceAdd, Nat.reduceLeDiff, Nat.reduceLT, ↓reduceIte, reduceCtorEq, Int.reduceLT, Int.reduceToNat, Int.reduceEq, Int.reduceBEq, Int.reduceBNe, Nat.reduceBEq]) ?_
              simp only [go_sem, Nat.reduceEqDiff, Nat.reduceAdd, Nat.reduceLeDiff, Nat.reduceLT, ↓reduceIte, reduceCtorEq, Int.reduceLT, Int.reduceToNat, Int.reduceEq, Int.reduceBEq, Int.reduceBNe, Nat.reduceBEq, f4, f15, hw]
              exact ⟨k - 1, by omega, j + 1, by omega, rfl, by omega, by simp [shrink_upd, hsg, hsn, hsn1]⟩
            | true =>
              rw [hz] at hR
              simp only [if_true] at hR
              have hE := fn_eqSelf u hok
              simp only [go_sem, Nat.reduceEqDiff, Nat.reduceAdd, Nat.reduceLeDiff, Nat.reduceLT, ↓reduceIte, reduceCtorEq, Int.reduceLT, Int.reduceToNat, Int.reduceEq, Int.reduceBEq, Int.reduceBNe, Nat.reduceBEq, f4, f15, hx, n1, n2]
              refine pcall hR (by simp only [go_sem, Nat.reduceEqDiff, Nat.reduceAdd, Nat.reduceLeDiff, Nat.reduceLT, ↓reduceIte, reduceCtorEq, Int.reduceLT, Int.reduceToNat, Int.reduceEq, Int.reduceBEq, Int.reduceBNe, Nat.reduceBEq]) ?_
              simp only [go_sem, Nat.reduceEqDiff, Nat.reduceAdd, Nat.reduceLeDiff, Nat.reduceLT, ↓reduceIte, reduceCtorEq, Int.reduceLT, Int.reduceToNat, Int.reduceEq, Int.reduceBEq, Int.reduceBNe, Nat.reduceBEq, f4, f15, n1, n2]
              refine pcall (fn_num20 4) (by simp only [go_sem, Nat.reduceEqDiff, Nat.reduceAdd, Nat.reduceLeDiff, Nat.reduceLT, ↓reduceIte, reduceCtorEq, Int.reduceLT, Int.reduceToNat, Int.reduceEq, Int.reduceBEq, Int.reduceBNe, Nat.reduceBEq]) ?_
              simp only [go_sem, Nat.reduceEqDiff, Nat.reduceAdd, Nat.reduceLeDiff, Nat.reduceLT, ↓reduceIte, reduceCtorEq, Int.reduceLT, Int.reduceToNat, Int.reduceEq, Int.reduceBEq, Int.reduceBNe, Nat.reduceBEq, f4, f15, n1, n2]
              refine pcall (fn_num20 4) (by simp only [go_sem, Nat.reduceEqDiff, Nat.reduceAdd, Nat.reduceLeDiff, Nat.reduceLT, ↓reduceIte, reduceCtorEq, Int.reduceLT, Int.reduceToNat, Int.reduceEq, Int.reduceBEq, Int.reduceBNe, Nat.reduceBEq]) ?_
              simp only [go_sem, Nat.reduceEqDiff, Nat.reduceAdd, Nat.reduceLeDiff, Nat.reduceLT, ↓reduceIte, reduceCtorEq, Int.reduceLT, Int.reduceToNat, Int.reduceEq, Int.reduceBEq, Int.reduceBNe, Nat.reduceBEq, f4, f15, n1, n2]
              refine pcall (fn_num20 0) (by simp only [go_sem, Nat.reduceEqDiff, Nat.reduceAdd, Nat.reduceLeDiff, Nat.reduceLT, ↓reduceIte, reduceCtorEq, Int.reduceLT, Int.reduceToNat, Int.reduceEq, Int.reduceBEq, Int.reduceBNe, Nat.reduceBEq]) ?_
              simp only [go_sem, Nat.reduceEqDiff, Nat.reduceAdd, Nat.reduceLeDiff, Nat.reduceLT, ↓reduceIte, reduceCtorEq, Int.reduceLT, Int.reduceToNat, Int.reduceEq, Int.reduceBEq, Int.reduceBNe, Nat.reduceBEq, f4, f15, n1, n2]
              refine pcall hE (by simp only [go_sem, Nat.reduceEqDiff, Nat.reduceAdd, Nat.reduceLeDiff, Nat.reduceLT, ↓reduceIte, reduceCtorEq, Int.reduceLT, Int.reduceToNat, Int.reduceEq, Int.reduceBEq, Int.reduceBNe, Nat.reduceBEq]) ?_
              simp only [go_sem, Nat.reduceEqDiff, Nat.reduceAdd, Nat.reduceLeDiff, Nat.reduceLT, ↓reduceIte, reduceCtorEq, Int.reduceLT, Int.reduceToNat, Int.reduceEq, Int.reduceBEq, Int.reduceBNe, Nat.reduceBEq, f4, f15, hw]
              exact ⟨k - 1, by omega, j + 1, by omega, rfl, by omega, by simp [shrink_upd, hsg, hsn, hsn1]⟩
        · have hj' : decide ((j : Int) < (ty.length : Int)) = false := decide_eq_false (by omega)
          simp only [go_sem, Nat.reduceEqDiff, Nat.reduceAdd, Nat.reduceLeDiff, Nat.reduceLT, ↓reduceIte, reduceCtorEq, Int.reduceLT, Int.reduceToNat, Int.reduceEq, Int.reduceBEq, Int.reduceBNe, Nat.reduceBEq, f4, f15, hj']
          refine pcall fn_wakes20 (by simp only [go_sem, Nat.reduceEqDiff, Nat.reduceAdd, Nat.reduceLeDiff, Nat.reduceLT, ↓reduceIte, reduceCtorEq, Int.reduceLT, Int.reduceToNat, Int.reduceEq, Int.reduceBEq, Int.reduceBNe, Nat.reduceBEq]) ?_
          simp only [go_sem, Nat.reduceEqDiff, Nat.reduceAdd, Nat.reduceLeDiff, Nat.reduceLT, ↓reduceIte, reduceCtorEq, Int.reduceLT, Int.reduceToNat, Int.reduceEq, Int.reduceBEq, Int.reduceBNe, Nat.reduceBEq]
          exact hsh
  · have hi' : decide ((i : Int) < ((ns6 ns).length : Int)) = false := decide_eq_false (by omega)
    simp only [go_sem, Nat.reduceEqDiff, Nat.reduceAdd, Nat.reduceLeDiff, Nat.reduceLT, ↓reduceIte, reduceCtorEq, Int.reduceLT, Int.reduceToNat, Int.reduceEq, Int.reduceBEq, Int.reduceBNe, Nat.reduceBEq, f1, f3, f4, f5, hi']
    refine cloop (fun k t => ∃ (j : Nat) (ty : List (List UInt8)), j + k = l.length ∧ j ≤ 6 ∧ ty.length ≤ s.length + 138 + 7 * j ∧ t.fr 1 = .ptr h.n 0 ∧ t.fr 4 = .sl .own 1 (ty.map AV.str) ∧ t.fr 10 = .int .i64 (j : Nat) ∧ t.hp = ⟨h.n + 1, updB h.bk h.n (ask6 l s ns fs)⟩) l.length
      ⟨0, tx, by simp, by omega, by omega, by simp [fr_apply, f1], by simp [fr_apply, f4], by simp [fr_apply], by simp [ask6]⟩ ?_
    clear f1 f3 f4 f5 hi' hk hi19 htx hi
    rintro k ⟨f, hp⟩ ⟨j, ty, hk, hj6, hty, f1, f4, f10, rfl⟩
    simp only at f1 f4 f10
    unfold ask6
    by_cases hj : j < l.length
    · have hj' : decide ((j : Int) < (l.length : Int)) = true := decide_eq_true (by omega)
      by_cases h6 : (j : Int) < 6
      · have h6' : decide ((j : Int) < 6) = true := decide_eq_true h6
        have hw : IntKind.i64.wrap ((j : Int) + 1) = ((j + 1 : Nat) : Int) := by rw [wrap64] <;> omega
        have hx := getAv hj
        have hto := ho _ (List.getElem_mem hj)
        generalize l[j] = x at hx hto
        have hN := fn_wTerm x hto
        have hM := fn_rTerm x hto
        have hcl : x.av.cells.length = 4 := by cases x; rw [av_mk]; rfl
        cases hm : mayB x with
        | false =>
          rw [hm] at hN hM
          simp only [Bool.false_eq_true, if_false] at hN
          obtain ⟨xk, xn, xv, xl⟩ := x
          rw [av_mk] at hN hM hx
          simp only [go_sem, Nat.reduceEqDiff, Nat.reduceAdd, Nat.reduceLeDiff, Nat.reduceLT, ↓reduceIte, reduceCtorEq, Int.reduceLT, Int.reduceToNat, Int.reduceEq, Int.reduceBEq, Int.reduceBNe, Nat.reduceBEq, f1, f4, f10, hj', h6', hx]
          refine pcall hN (by simp only [go_sem, Nat.reduceEqDiff, Nat.reduceAdd, Nat.reduceLeDiff, Nat.reduceLT, ↓reduceIte, reduceCtorEq, Int.reduceLT, Int.reduceToNat, Int.reduceEq, Int.reduceBEq, Int.reduceBNe, Nat.reduceBEq]) ?_
          simp only [go_sem, Nat.reduceEqDiff, Nat.reduceAdd, Nat.reduceLeDiff, Nat.reduceLT, ↓reduceIte, reduceCtorEq, Int.reduceLT, Int.reduceToNat, Int.reduceEq, Int.reduceBEq, Int.reduceBNe, Nat.reduceBEq, f1, f4, f10, hx]
          refine pcall hM (by simp only [go_sem, Nat.reduceEqDiff, Nat.reduceAdd, Nat.reduceLeDiff, Nat.reduceLT, ↓reduceIte, reduceCtorEq, Int.reduceLT, Int.reduceToNat, Int.reduceEq, Int.reduceBEq, Int.reduceBNe, Nat.reduceBEq]) ?_
          simp only [go_sem, Nat.reduceEqDiff, Nat.reduceAdd, Nat.reduceLeDiff, Nat.reduceLT, ↓reduceIte, reduceCtorEq, Int.reduceLT, Int.reduceToNat, Int.reduceEq, Int.reduceBEq, Int.reduceBNe, Nat.reduceBEq, f1, f4, f10, hx]
          refine pcall (fn_num20 1) (by simp only [go_sem, Nat.reduceEqDiff, Nat.reduceAdd, Nat.reduceLeDiff, Nat.reduceLT, ↓reduceIte, reduceCtorEq, Int.reduceLT, Int.reduceToNat, Int.reduceEq, Int.reduceBEq, Int.reduceBNe, Nat.reduceBEq]) ?_
          simp only [go_sem, Nat.reduceEqDiff, Nat.reduceAdd, Nat.reduceLeDiff, Nat.reduceLT, ↓reduceIte, reduceCtorEq, Int.reduceLT, Int.reduceToNat, Int.reduceEq, Int.reduceBEq, Int.reduceBNe, Nat.reduceBEq, f1, f4, f10, hw]
          exact ⟨k - 1, by omega, j + 1, ty, by omega, by omega, by omega, rfl, rfl⟩
        | true =>
          rw [hm] at hN hM
          simp only [if_true] at hN
          obtain ⟨g1, g2, _⟩ := may_len hm
          have hR := fn_renc x hto g1 (by omega)
          have hv : (u8s (enc x)).length ≤ 456 := by rw [u8_len]; exact g2
          generalize u8s (enc x) = v at hN hR hv
          have hNe := fn_near v j (by omega) (by omega)
          have hnl := near_len v j
          generalize near v j = nr at hNe hnl
          have hC : (ty.length + nr.length) * 16 ≤ 140737488355328 := by omega
          have hC' : ty.length + nr.length ≤ 9223372036854775807 := by omega
          clear hm g1 g2 hto hcl
          obtain ⟨xk, xn, xv, xl⟩ := x
          rw [av_mk] at hN hM hx hR
          simp only [go_sem, Nat.reduceEqDiff, Nat.reduceAdd, Nat.reduceLeDiff, Nat.reduceLT, ↓reduceIte, reduceCtorEq, Int.reduceLT, Int.reduceToNat, Int.reduceEq, Int.reduceBEq, Int.reduceBNe, Nat.reduceBEq, f1, f4, f10, hj', h6', hx]
          refine pcall hN (by simp only [go_sem, Nat.reduceEqDiff, Nat.reduceAdd, Nat.reduceLeDiff, Nat.reduceLT, ↓reduceIte, reduceCtorEq, Int.reduceLT, Int.reduceToNat, Int.reduceEq, Int.reduceBEq, Int.reduceBNe, Nat.reduceBEq]) ?_
          simp only [go_sem, Nat.reduceEqDiff, Nat.reduceAdd, Nat.reduceLeDiff, Nat.reduceLT, ↓reduceIte, reduceCtorEq, Int.reduceLT, Int.reduceToNat, Int.reduceEq, Int.reduceBEq, Int.reduceBNe, Nat.reduceBEq, f1, f4, f10, hx]
          refine pcall hM (by simp only [go_sem, Nat.reduceEqDiff, Nat.reduceAdd, Nat.reduceLeDiff, Nat.reduceLT, ↓reduceIte, reduceCtorEq, Int.reduceLT, Int.reduceToNat, Int.reduceEq, Int.reduceBEq, Int.reduceBNe, Nat.reduceBEq]) ?_
          simp only [go_sem, Nat.reduceEqDiff, Nat.reduceAdd, Nat.reduceLeDiff, Nat.reduceLT, ↓reduceIte, reduceCtorEq, Int.reduceLT, Int.reduceToNat, Int.reduceEq, Int.reduceBEq, Int.reduceBNe, Nat.reduceBEq, f1, f4, f10, hx]
          refine pcall hR (by simp only [go_sem, Nat.reduceEqDiff, Nat.reduceAdd, Nat.reduceLeDiff, Nat.reduceLT, ↓reduceIte, reduceCtorEq, Int.reduceLT, Int.reduceToNat, Int.reduceEq, Int.reduceBEq, Int.reduceBNe, Nat.reduceBEq]) ?_
          simp only [go_sem, Nat.reduceEqDiff, Nat.reduceAdd, Nat.reduceLeDiff, Nat.reduceLT, ↓reduceIte, reduceCtorEq, Int.reduceLT, Int.reduceToNat, Int.reduceEq, Int.reduceBEq, Int.reduceBNe, Nat.reduceBEq, f1, f4, f10, hx]
          refine pcall hNe (by simp only [go_sem, Nat.reduceEqDiff, Nat.reduceAdd, Nat.reduceLeDiff, Nat.reduceLT, ↓reduceIte, reduceCtorEq, Int.reduceLT, Int.reduceToNat, Int.reduceEq, Int.reduceBEq, Int.reduceBNe, Nat.reduceBEq]) ?_
          simp only [go_sem, Nat.reduceEqDiff, Nat.reduceAdd, Nat.reduceLeDiff, Nat.reduceLT, ↓reduceIte, reduceCtorEq, Int.reduceLT, Int.reduceToNat, Int.reduceEq, Int.reduceBEq, Int.reduceBNe, Nat.reduceBEq, f1, f4, f10, hC, hC']
          refine pcall (fn_num20 0) (by simp only [go_sem, Nat.reduceEqDiff, Nat.reduceAdd, Nat.reduceLeDiff, Nat.reduceLT, ↓reduceIte, reduceCtorEq, Int.reduceLT, Int.reduceToNat, Int.reduceEq, Int.reduceBEq, Int.reduceBNe, Nat.reduceBEq]) ?_
          simp only [go_sem, Nat.reduceEqDiff, Nat.reduceAdd, Nat.reduceLeDiff, Nat.reduceLT, ↓reduceIte, reduceCtorEq, Int.reduceLT, Int.reduceToNat, Int.reduceEq, Int.reduceBEq, Int.reduceBNe, Nat.reduceBEq, f1, f4, f10, hw, apFl_own]
          exact ⟨k - 1, by omega, j + 1, ty ++ nr, by omega, by omega, by simp; omega, by simp, rfl⟩
      · have h6' : decide ((j : Int) < 6) = false := decide_eq_false h6
        simp only [go_sem, Nat.reduceEqDiff, Nat.reduceAdd, Nat.reduceLeDiff, Nat.reduceLT, ↓reduceIte, reduceCtorEq, Int.reduceLT, Int.reduceToNat, Int.reduceEq, Int.reduceBEq, Int.reduceBNe, Nat.reduceBEq, f1, f4, f10, hj', h6']
        refine cloop (fun k t => ∃ j : Nat, j + k = ty.length ∧ t.fr 4 = .sl .own 1 (ty.map AV.str) ∧ t.fr 15 = .int .i64 (j : Nat) ∧ h.n + 1 ≤ t.hp.n ∧ Shrink h t.hp h) ty.length ⟨0, by simp, by simp [fr_apply, f4], by simp [fr_apply], by simp, by simp [shrink_upd, shrink_n]⟩ ?_
        have htyl : ty.length < 1000000000000000 := by omega
        clear f1 f4 f10 hj' hk hj6 hj
        rintro k ⟨f, hp⟩ ⟨j, hk, f4, f15, hnn, hsh⟩
        simp only at f4 f15 hnn hsh
        by_cases hj : j < ty.length
        · have hj' : decide ((j : Int) < (ty.length : Int)) = true := decide_eq_true (by omega)
          have hw : IntKind.i64.wrap ((j : Int) + 1) = ((j + 1 : Nat) : Int) := by rw [wrap64] <;> omega
          have hx := getStr hj
          generalize ty[j] = x at hx
          have hP := fn_TakeNumber x
          have hQ := fn_rTakeNumber' x
          have hW := fn_wTake x
          have hR := fn_rTake' x
          have hok := decW_ok 5 (x, false)
          have n1 : ¬ hp.n = hp.n + 1 := by omega
          have n2 : ¬ hp.n + 1 = hp.n := by omega
          have hsn : h.n ≤ hp.n := by omega
          have hsn1 : h.n ≤ hp.n + 1 := by omega
          have hsg := shrink_grow (n := hp.n + 2) hsh (by omega)
          generalize (decW 5 (x, false)).1 = u at hW hR hok
          generalize (decW 5 (x, false)).2.1 = v at hW hR
          generalize (numP (x, false)).1 = y at hP hQ
          generalize (numP (x, false)).2.1 = z at hP hQ
          simp only [go_sem, Nat.reduceEqDiff, Nat.reduceAdd, Nat.reduceLeDiff, Nat.reduceLT, ↓reduceIte, reduceCtorEq, Int.reduceLT, Int.reduceToNat, Int.reduceEq, Int.reduceBEq, Int.reduceBNe, Nat.reduceBEq, f4, f15, hj', hx]
          refine pcall hP (by simp only [go_sem, Nat.reduceEqDiff, Nat.reduceAdd, Nat.reduceLeDiff, Nat.reduceLT, ↓reduceIte, reduceCtorEq, Int.reduceLT, Int.reduceToNat, Int.reduceEq, Int.reduceBEq, Int.reduceBNe, Nat.reduceBEq]) ?_
          cases hb : (numP (x, false)).2.2 with
          | false =>
            rw [hb] at hQ
            simp only [Bool.false_eq_true, if_false] at hQ
            simp only [go_sem, Nat.reduceEqDiff, Nat.reduceAdd, Nat.reduceLeDiff, Nat.reduceLT, ↓reduceIte, reduceCtorEq, Int.reduceLT, Int.reduceToNat, Int.reduceEq, Int.reduceBEq, Int.reduceBNe, Nat.reduceBEq, f4, f15, hx]
            refine pcall hQ (by simp only [go_sem, Nat.reduceEqDiff, Nat.reduceAdd, Nat.reduceLeDiff, Nat.reduceLT, ↓reduceIte, reduceCtorEq, Int.reduceLT, Int.reduceToNat, Int.reduceEq, Int.reduceBEq, Int.reduceBNe, Nat.reduceBEq]) ?_
            simp only [go_sem, Nat.reduceEqDiff, Nat.reduceAdd, Nat.reduceLeDiff, Nat.reduceLT, ↓reduceIte, reduceCtorEq, Int.reduceLT, Int.reduceToNat, Int.reduceEq, Int.reduceBEq, Int.reduceBNe, Nat.reduceBEq, f4, f15, hx]
            refine pcall hW (by simp only [go_sem, Nat.reduceEqDiff, Nat.reduceAdd, Nat.reduceLeDiff, Nat.reduceLT, ↓reduceIte, reduceCtorEq, Int.reduceLT, Int.reduceToNat, Int.reduceEq, Int.reduceBEq, Int.reduceBNe, Nat.reduceBEq]) ?_
            cases hz : okW x with
            | false =>
              rw [hz] at hR
              simp only [Bool.false_eq_true, if_false] at hR
              have hE := fn_eqSelf (T.mk 0 [] 0 []) (by rw [ok_mk]; simp)
              simp only [go_sem, Nat.reduceEqDiff, Nat.reduceAdd, Nat.reduceLeDiff, Nat.reduceLT, ↓reduceIte, reduceCtorEq, Int.reduceLT, Int.reduceToNat, Int.reduceEq, Int.reduceBEq, Int.reduceBNe, Nat.reduceBEq, f4, f15, hx, n1, n2]
              refine pcall hR (by simp only [go_sem, Nat.reduceEqDiff, Nat.reduceAdd, Nat.reduceLeDiff, Nat.reduceLT, ↓reduceIte, reduceCtorEq, Int.reduceLT, Int.reduceToNat, Int.reduceEq, Int.reduceBEq, Int.reduceBNe, Nat.reduceBEq]) ?_
              simp only [go_sem, Nat.reduceEqDiff, Nat.reduceAdd, Nat.reduceLeDiff, Nat.reduceLT, ↓reduceIte, reduceCtorEq, Int.reduceLT, Int.reduceToNat, Int.reduceEq, Int.reduceBEq, Int.reduceBNe, Nat.reduceBEq, f4, f15, n1, n2, zero_avf]
              refine pcall (fn_num20 0) (by simp only [go_sem, Nat.reduceEqDiff, Nat.reduceAdd, Nat.reduceLeDiff, Nat.reduceLT, ↓reduceIte, reduceCtorEq, Int.reduceLT, Int.reduceToNat, Int.reduceEq, Int.reduceBEq, Int.reduceBNe, Nat.reduceBEq]) ?_
              simp only [go_sem, Nat.reduceEqDiff, Nat.reduceAdd, Nat.reduceLeDiff, Nat.reduceLT, ↓reduceIte, reduceCtorEq, Int.reduceLT, Int.reduceToNat, Int.reduceEq, Int.reduceBEq, Int.reduceBNe, Nat.reduceBEq, f4, f15, n1, n2]
              refine pcall (fn_num20 4) (by simp only [go_sem, Nat.reduceEqDiff, Nat.reduceAdd, Nat.reduceLeDiff, Nat.reduceLT, ↓reduceIte, reduceCtorEq, Int.reduceLT, Int.reduceToNat, Int.reduceEq, Int.reduceBEq, Int.reduceBNe, Nat.reduceBEq]) ?_
              simp only [go_sem, Nat.reduceEqDiff, Nat.reduceAdd, Nat.reduceLeDiff, Nat.reduceLT, ↓reduceIte, reduceCtorEq, Int.reduceLT, Int.reduceToNat, Int.reduceEq, Int.reduceBEq, Int.reduceBNe, Nat.reduceBEq, f4, f15, n1, n2]
              refine pcall (fn_num20 4) (by simp only [go_sem, Nat.reduceEqDiff, Nat.reduceAdd, Nat.reduceLeDiff, Nat.reduceLT, ↓reduceIte, reduceCtorEq, Int.reduceLT, Int.reduceToNat, Int.reduceEq, Int.reduceBEq, Int.reduceBNe, Nat.reduceBEq]) ?_
              rw [zero_avf] at hE
              simp only [go_sem, Nat.reduceEqDiff, Nat.reduceAdd, Nat.reduceLeDiff, Nat.reduceLT, ↓reduceIte, reduceCtorEq, Int.reduceLT, Int.reduceToNat, Int.reduceEq, Int.reduceBEq, Int.reduceBNe, Nat.reduceBEq, f4, f15, n1, n2]
              refine pcall hE (by simp only [go_sem, Nat.reduceEqDiff, Nat.reduceAdd, Nat.reduceLeDiff, Nat.reduceLT, ↓reduceIte, reduceCtorEq, Int.reduceLT, Int.reduceToNat, Int.reduceEq, Int.reduceBEq, Int.reduceBNe, Nat.reduceBEq]) ?_
              simp only [go_sem, Nat.reduceEqDiff, Nat.reduceAdd, Nat.reduceLeDiff, Nat.reduceLT, ↓reduceIte, reduceCtorEq, Int.reduceLT, Int.reduceToNat, Int.reduceEq, Int.reduceBEq, Int.reduceBNe, Nat.reduceBEq, f4, f15, hw]
              exact ⟨k - 1, by omega, j + 1, by omega, rfl, by omega, by simp [shrink_upd, hsg, hsn, hsn1]⟩
            | true =>
              rw [hz] at hR
              simp only [if_true] at hR
              have hE := fn_eqSelf u hok
              simp only [go_sem, Nat.reduceEqDiff, Nat.reduceAdd, Nat.reduceLeDiff, Nat.reduceLT, ↓reduceIte, reduceCtorEq, Int.reduceLT, Int.reduceToNat, Int.reduceEq, Int.reduceBEq, Int.reduceBNe, Nat.reduceBEq, f4, f15, hx, n1, n2]
              refine pcall hR (by simp only [go_sem, Nat.reduceEqDiff, Nat.reduceAdd, Nat.reduceLeDiff, Nat.reduceLT, ↓reduceIte, reduceCtorEq, Int.reduceLT, Int.reduceToNat, Int.reduceEq, Int.reduceBEq, Int.reduceBNe, Nat.reduceBEq]) ?_
              simp only [go_sem, Nat.reduceEqDiff, Nat.reduceAdd, Nat.reduceLeDiff, Nat.reduceLT, ↓reduceIte, reduceCtorEq, Int.reduceLT, Int.reduceToNat, Int.reduceEq, Int.reduceBEq, Int.reduceBNe, Nat.reduceBEq, f4, f15, n1, n2]
              refine pcall (fn_num20 0) (by simp only [go_sem, Nat.reduceEqDiff, Nat.reduceAdd, Nat.reduceLeDiff, Nat.reduceLT, ↓reduceIte, reduceCtorEq, Int.reduceLT, Int.reduceToNat, Int.reduceEq, Int.reduceBEq, Int.reduceBNe, Nat.reduceBEq]) ?_
              simp only [go_sem, Nat.reduceEqDiff, Nat.reduceAdd, Nat.reduceLeDiff, Nat.reduceLT, ↓reduceIte, reduceCtorEq, Int.reduceLT, Int.reduceToNat, Int.reduceEq, Int.reduceBEq, Int.reduceBNe, Nat.reduceBEq, f4, f15, n1, n2]
              refine pcall (fn_num20 0) (by simp only [go_sem, Nat.reduceEqDiff, Nat.reduceAdd, Nat.reduceLeDiff, Nat.reduceLT, ↓reduceIte, reduceCtorEq, Int.reduceLT, Int.reduceToNat, Int.reduceEq, Int.reduceBEq, Int.reduceBNe, Nat.reduceBEq]) ?_
              simp only [go_sem, Nat.reduceEqDiff, Nat.reduceAdd, Nat.reduceLeDiff, Nat.reduceLT, ↓reduceIte, reduceCtorEq, Int.reduceLT, Int.reduceToNat, Int.reduceEq, Int.reduceBEq, Int.reduceBNe, Nat.reduceBEq, f4, f15, n1, n2]
              refine pcall hE (by simp only [go_sem, Nat.reduceEqDiff, Nat.reduceAdd, Nat.reduceLeDiff, Nat.reduceLT, ↓reduceIte, reduceCtorEq, Int.reduceLT, Int.reduceToNat, Int.reduceEq, Int.reduceBEq, Int.reduceBNe, Nat.reduceBEq]) ?_
              simp only [go_sem, Nat.reduceEqDiff, Nat.reduceAdd, Nat.reduceLeDiff, Nat.reduceLT, ↓reduceIte, reduceCtorEq, Int.reduceLT, Int.reduceToNat, Int.reduceEq, Int.reduceBEq, Int.reduceBNe, Nat.reduceBEq, f4, f15, hw]
              exact ⟨k - 1, by omega, j + 1, by omega, rfl, by omega, by simp [shrink_upd, hsg, hsn, hsn1]⟩
          | true =>
            rw [hb] at hQ
            simp only [if_true] at hQ
            simp only [go_sem, Nat.reduceEqDiff, Nat.reduceAdd, Nat.reduceLeDiff, Nat.reduceLT, ↓reduceIte, reduceCtorEq, Int.reduceLT, Int.reduceToNat, Int.reduceEq, Int.reduceBEq, Int.reduceBNe, Nat.reduceBEq, f4, f15, hx]
            refine pcall hQ (by simp only [go_sem, Nat.reduceEqDiff, Nat.reduceAdd, Nat.reduceLeDiff, Nat.reduceLT, ↓reduceIte, reduceCtorEq, Int.reduceLT, Int.reduceToNat, Int.reduceEq, Int.reduceBEq, Int.reduceBNe, Nat.reduceBEq]) ?_
            simp only [go_sem, Nat.reduceEqDiff, Nat.reduceAdd, Nat.reduceLeDiff, Nat.reduceLT, ↓reduceIte, reduceCtorEq, Int.reduceLT, Int.reduceToNat, Int.reduceEq, Int.reduceBEq, Int.reduceBNe, Nat.reduceBEq, f4, f15, hx]
            refine pcall hW (by simp only [go_sem, Nat.reduceEqDiff, Nat.reduceAdd, Nat.reduceLeDiff, Nat.reduceLT, ↓reduceIte, reduceCtorEq, Int.reduceLT, Int.reduceToNat, Int.reduceEq, Int.reduceBEq, Int.reduceBNe, Nat.reduceBEq]) ?_
            cases hz : okW x with
            | false =>
              rw [hz] at hR
              simp only [Bool.false_eq_true, if_false] at hR
              have hE := fn_eqSelf (T.mk 0 [] 0 []) (by rw [ok_mk]; simp)
              simp only [go_sem, Nat.reduceEqDiff, Nat.reduceAdd, Nat.reduceLeDiff, Nat.reduceLT, ↓reduceIte, reduceCtorEq, Int.reduceLT, Int.reduceToNat, Int.reduceEq, Int.reduceBEq, Int.reduceBNe, Nat.reduceBEq, f4, f15, hx, n1, n2]
              refine pcall hR (by simp only [go_sem, Nat.reduceEqDiff, Nat.reduceAdd, Nat.reduceLeDiff, Nat.reduceLT, ↓reduceIte, reduceCtorEq, Int.reduceLT, Int.reduceToNat, Int.reduceEq, Int.reduceBEq, Int.reduceBNe, Nat.reduceBEq]) ?_
              simp only [go_sem, Nat.reduceEqDiff, Nat.reduceAdd, Nat.reduceLeDiff, Nat.reduceLT, ↓reduceIte, reduceCtorEq, Int.reduceLT, Int.reduceToNat, Int.reduceEq, Int.reduceBEq, Int.reduceBNe, Nat.reduceBEq, f4, f15, n1, n2, zero_avf]
              refine pcall (fn_num20 4) (by simp only [go_sem, Nat.reduceEqDiff, Nat.reduceAdd, Nat.reduceLeDiff, Nat.reduceLT, ↓reduceIte, reduceCtorEq, Int.reduceLT, Int.reduceToNat, Int.reduceEq, Int.reduceBEq, Int.reduceBNe, Nat.reduceBEq]) ?_
              simp only [go_sem, Nat.reduceEqDiff, Nat.reduceAdd, Nat.reduceLeDiff, Nat.reduceLT, ↓reduceIte, reduceCtorEq, Int.reduceLT, Int.reduceToNat, Int.reduceEq, Int.reduceBEq, Int.reduceBNe, Nat.reduceBEq, f4, f15, n1, n2]
              refine pcall (fn_num20 4) (by simp only [go_sem, Nat.reduceEqDiff, Nat.reduceAdd, Nat.reduceLeDiff, Nat.reduceLT, ↓reduceIte, reduceCtorEq, Int.reduceLT, Int.reduceToNat, Int.reduceEq, Int.reduceBEq, Int.reduceBNe, Nat.reduceBEq]) ?_
              simp only [go_sem, Nat.reduceEqDiff, Nat.reduceAdd, Nat.reduceLeDiff, Nat.reduceLT, ↓reduceIte, reduceCtorEq, Int.reduceLT, Int.reduceToNat, Int.reduceEq, Int.reduceBEq, Int.reduceBNe, Nat.reduceBEq, f4, f15, n1, n2]
              refine pcall (fn_num20 4) (by simp only [go_sem, Nat.reduceEqDiff, Nat.reduceAdd, Nat.reduceLeDiff, Nat.reduceLT, ↓reduceIte, reduceCtorEq, Int.reduceLT, Int.reduceToNat, Int.reduceEq, Int.reduceBEq, Int.reduceBNe, Nat.reduceBEq]) ?_
              simp only [go_sem, Nat.reduceEqDiff, Nat.reduceAdd, Nat.reduceLeDiff, Nat.reduceLT, ↓reduceIte, reduceCtorEq, Int.reduceLT, Int.reduceToNat, Int.reduceEq, Int.reduceBEq, Int.reduceBNe, Nat.reduceBEq, f4, f15, n1, n2]
              refine pcall (fn_num20 4) (by simp only [go_sem, Nat.reduceEqDiff, Nat.reduceAdd, Nat.reduceLeDiff, Nat.reduceLT, ↓reduceIte, reduceCtorEq, Int.reduceLT, Int.reduceToNat, Int.reduceEq, Int.reduceBEq, Int.reduceBNe, Nat.reduceBEq]) ?_
              rw [zero_avf] at hE
              simp only [go_sem, Nat.reduceEqDiff, Nat.reduceAdd, Nat.reduceLeDiff, Nat.reduceLT, ↓reduceIte, reduceCtorEq, Int.reduceLT, Int.reduceToNat, Int.reduceEq, Int.reduceBEq, Int.reduceBNe, Nat.reduceBEq, f4, f15, n1, n2]
              refine pcall hE (by simp only [go_sem, Nat.reduceEqDiff, Nat.reduceAdd, Nat.reduceLeDiff, Nat.reduceLT, ↓reduceIte, reduceCtorEq, Int.reduceLT, Int.reduceToNat, Int.reduceEq, Int.reduceBEq, Int.reduceBNe, Nat.reduceBEq]) ?_
              simp only [go_sem, Nat.reduceEqDiff, Nat.reduceAdd, Nat.reduceLeDiff, Nat.reduceLT, ↓reduceIte, reduceCtorEq, Int.reduceLT, Int.reduceToNat, Int.reduceEq, Int.reduceBEq, Int.reduceBNe, Nat.reduceBEq, f4, f15, hw]
              exact ⟨k - 1, by omega, j + 1, by omega, rfl, by omega, by simp [shrink_upd, hsg, hsn, hsn1]⟩
            | true =>
              rw [hz] at hR
              simp only [if_true] at hR
              have hE := fn_eqSelf u hok
              simp only [go_sem, Nat.reduceEqDiff, Nat.reduceAdd, Nat.reduceLeDiff, Nat.reduceLT, ↓reduceIte, reduceCtorEq, Int.reduceLT, Int.reduceToNat, Int.reduceEq, Int.reduceBEq, Int.reduceBNe, Nat.reduceBEq, f4, f15, hx, n1, n2]
              refine pcall hR (by simp only [go_sem, Nat.reduceEqDiff, Nat.reduceAdd, Nat.reduceLeDiff, Nat.reduceLT, ↓reduceIte, reduceCtorEq, Int.reduceLT, Int.reduceToNat, Int.reduceEq, Int.reduceBEq, Int.reduceBNe, Nat.reduceBEq]) ?_
              simp only [go_sem, Nat.reduceEqDiff, Nat.reduceAdd, Nat.reduceLeDiff, Nat.reduceLT, ↓reduceIte, reduceCtorEq, Int.reduceLT, Int.reduceToNat, Int.reduceEq, Int.reduceBEq, Int.reduceBNe, Nat.reduceBEq, f4, f15, n1, n2]
              refine pcall (fn_num20 4) (by simp only [go_sem, Nat.reduceEqDiff, Nat.reduceAdd, Nat.reduceLeDiff, Nat.reduceLT, ↓reduceIte, reduceCtorEq, Int.reduceLT, Int.reduceToNat, Int.reduceEq, Int.reduceBEq, Int.reduceBNe, Nat.reduceBEq]) ?_
              simp only [go_sem, Nat.reduceEqDiff, Nat.reduceAdd, Nat.reduceLeDiff, Nat.reduceLT, ↓reduceIte, reduceCtorEq, Int.reduceLT, Int.reduceToNat, Int.reduceEq, Int.reduceBEq, Int.reduceBNe, Nat.reduceBEq, f4, f15, n1, n2]
              refine pcall (fn_num20 4) (by simp only [go_sem, Nat.reduceEqDiff, Nat.reduceAdd, Nat.reduceLeDiff, Nat.reduceLT, ↓reduceIte, reduceCtorEq, Int.reduceLT, Int.reduceToNat, Int.reduceEq, Int.reduceBEq, Int.reduceBNe, Nat.reduceBEq]) ?_
              simp only [go_sem, Nat.reduceEqDiff, Nat.reduceAdd, Nat.reduceLeDiff, Nat.reduceLT, ↓reduceIte, reduceCtorEq, Int.reduceLT, Int.reduceToNat, Int.reduceEq, Int.reduceBEq, Int.reduceBNe, Nat.reduceBEq, f4, f15, n1, n2]
              refine pcall (fn_num20 0) (by simp only [go_sem, Nat.reduceEqDiff, Nat.reduceAdd, Nat.reduceLeDiff, Nat.reduceLT, ↓reduceIte, reduceCtorEq, Int.reduceLT, Int.reduceToNat, Int.reduceEq, Int.reduceBEq, Int.reduceBNe, Nat.reduceBEq]) ?_
              simp only [go_sem, Nat.reduceEqDiff, Nat.reduceAdd, Nat.reduceLeDiff, Nat.reduceLT, ↓reduceIte, reduceCtorEq, Int.reduceLT, Int.reduceToNat, Int.reduceEq, Int.reduceBEq, Int.reduceBNe, Nat.reduceBEq, f4, f15, n1, n2]
              refine pcall hE (by simp only [go_sem, Nat.reduceEqDiff, Nat.reduceAdd, Nat.reduceLeDiff, Nat.reduceLT, ↓reduceIte, reduceCtorEq, Int.reduceLT, Int.reduceToNat, Int.reduceEq, Int.reduceBEq, Int.reduceBNe, Nat.reduceBEq]) ?_
              simp only [go_sem, Nat.reduceEqDiff, Nat.reduceAdd, Nat.reduceLeDiff, Nat.reduceLT, ↓reduceIte, reduceCtorEq, Int.reduceLT, Int.reduceToNat, Int.reduceEq, Int.reduceBEq, Int.reduceBNe, Nat.reduceBEq, f4, f15, hw]
              exact ⟨k - 1, by omega, j + 1, by omega, rfl, by omega, by simp [shrink_upd, hsg, hsn, hsn1]⟩
        · have hj' : decide ((j : Int) < (ty.length : Int)) = false := decide_eq_false (by omega)
          simp only [go_sem, Nat.reduceEqDiff, Nat.reduceAdd, Nat.reduceLeDiff, Nat.reduceLT, ↓reduceIte, reduceCtorEq, Int.reduceLT, Int.reduceToNat, Int.reduceEq, Int.reduceBEq, Int.reduceBNe, Nat.reduceBEq, f4, f15, hj']
          refine pcall fn_wakes20 (by simp only [go_sem, Nat.reduceEqDiff, Nat.reduceAdd, Nat.reduceLeDiff, Nat.reduceLT, ↓reduceIte, reduceCtorEq, Int.reduceLT, Int.reduceToNat, Int.reduceEq, Int.reduceBEq, Int.reduceBNe, Nat.reduceBEq]) ?_
          simp only [go_sem, Nat.reduceEqDiff, Nat.reduceAdd, Nat.reduceLeDiff, Nat.reduceLT, ↓reduceIte, reduceCtorEq, Int.reduceLT, Int.reduceToNat, Int.reduceEq, Int.reduceBEq, Int.reduceBNe, Nat.reduceBEq]
          exact hsh
    · have hj' : decide ((j : Int) < (l.length : Int)) = false := decide_eq_false (by omega)
      simp only [go_sem, Nat.reduceEqDiff, Nat.reduceAdd, Nat.reduceLeDiff, Nat.reduceLT, ↓reduceIte, reduceCtorEq, Int.reduceLT, Int.reduceToNat, Int.reduceEq, Int.reduceBEq, Int.reduceBNe, Nat.reduceBEq, f1, f4, f10, hj']
      refine cloop (fun k t => ∃ j : Nat, j + k = ty.length ∧ t.fr 4 = .sl .own 1 (ty.map AV.str) ∧ t.fr 15 = .int .i64 (j : Nat) ∧ h.n + 1 ≤ t.hp.n ∧ Shrink h t.hp h) ty.length ⟨0, by simp, by simp [fr_apply, f4], by simp [fr_apply], by simp, by simp [shrink_upd, shrink_n]⟩ ?_
      have htyl : ty.length < 1000000000000000 := by omega
      clear f1 f4 f10 hj' hk hj6 hj
      rintro k ⟨f, hp⟩ ⟨j, hk, f4, f15, hnn, hsh⟩
      simp only at f4 f15 hnn hsh
      by_cases hj : j < ty.length
      · have hj' : decide ((j : Int) < (ty.length : Int)) = true := decide_eq_true (by omega)
        have hw : IntKind.i64.wrap ((j : Int) + 1) = ((j + 1 : Nat) : Int) := by rw [wrap64] <;> omega
        have hx := getStr hj
        generalize ty[j] = x at hx
        have hP := fn_TakeNumber x
        have hQ := fn_rTakeNumber' x
        have hW := fn_wTake x
        have hR := fn_rTake' x
        have hok := decW_ok 5 (x, false)
        have n1 : ¬ hp.n = hp.n + 1 := by omega
        have n2 : ¬ hp.n + 1 = hp.n := by omega
        have hsn : h.n ≤ hp.n := by omega
        have hsn1 : h.n ≤ hp.n + 1 := by omega
        have hsg := shrink_grow (n := hp.n + 2) hsh (by omega)
        generalize (decW 5 (x, false)).1 = u at hW hR hok
        generalize (decW 5 (x, false)).2.1 = v at hW hR
        generalize (numP (x, false)).1 = y at hP hQ
        generalize (numP (x, false)).2.1 = z at hP hQ
        simp only [go_sem, Nat.reduceEqDiff, Nat.reduceAdd, Nat.reduceLeDiff, Nat.reduceLT, ↓reduceIte, reduceCtorEq, Int.reduceLT, Int.reduceToNat, Int.reduceEq, Int.reduceBEq, Int.reduceBNe, Nat.reduceBEq, f4, f15, hj', hx]
        refine pcall hP (by simp only [go_sem, Nat.reduceEqDiff, Nat.reduceAdd, Nat.reduceLeDiff, Nat.reduceLT, ↓reduceIte, reduceCtorEq, Int.reduceLT, Int.reduceToNat, Int.reduceEq, Int.reduceBEq, Int.reduceBNe, Nat.reduceBEq]) ?_
        cases hb : (numP (x, false)).2.2 with
        | false =>
          rw [hb] at hQ
          simp only [Bool.false_eq_true, if_false] at hQ
          simp only [go_sem, Nat.reduceEqDiff, Nat.reduceAdd, Nat.reduceLeDiff, Nat.reduceLT, ↓reduceIte, reduceCtorEq, Int.reduceLT, Int.reduceToNat, Int.reduceEq, Int.reduceBEq, Int.reduceBNe, Nat.reduceBEq, f4, f15, hx]
          refine pcall hQ (by simp only [go_sem, Nat.reduceEqDiff, Nat.reduceAdd, Nat.reduceLeDiff, Nat.reduceLT, ↓reduceIte, reduceCtorEq, Int.reduceLT, Int.reduceToNat, Int.reduceEq, Int.reduceBEq, Int.reduceBNe, Nat.reduceBEq]) ?_
          simp only [go_sem, Nat.reduceEqDiff, Nat.reduceAdd, Nat.reduceLeDiff, Nat.reduceLT, ↓reduceIte, reduceCtorEq, Int.reduceLT, Int.reduceToNat, Int.reduceEq, Int.reduceBEq, Int.reduceBNe, Nat.reduceBEq, f4, f15, hx]
          refine pcall hW (by simp only [go_sem, Nat.reduceEqDiff, Nat.reduceAdd, Nat.reduceLeDiff, Nat.reduceLT, ↓reduceIte, reduceCtorEq, Int.reduceLT, Int.reduceToNat, Int.reduceEq, Int.reduceBEq, Int.reduceBNe, Nat.reduceBEq]) ?_
          cases hz : okW x with
          | false =>
            rw [hz] at hR
            simp only [Bool.false_eq_true, if_false] at hR
            have hE := fn_eqSelf (T.mk 0 [] 0 []) (by rw [ok_mk]; simp)
            simp only [go_sem, Nat.reduceEqDiff, Nat.reduceAdd, Nat.reduceLeDiff, Nat.reduceLT, ↓reduceIte, reduceCtorEq, Int.reduceLT, Int.reduceToNat, Int.reduceEq, Int.reduceBEq, Int.reduceBNe, Nat.reduceBEq, f4, f15, hx, n1, n2]
            refine pcall hR (by simp only [go_sem, Nat.reduceEqDiff, Nat.reduceAdd, Nat.reduceLeDiff, Nat.reduceLT, ↓reduceIte, reduceCtorEq, Int.reduceLT, Int.reduceToNat, Int.reduceEq, Int.reduceBEq, Int.reduceBNe, Nat.reduceBEq]) ?_
            simp only [go_sem, Nat.reduceEqDiff, Nat.reduceAdd, Nat.reduceLeDiff, Nat.reduceLT, ↓reduceIte, reduceCtorEq, Int.reduceLT, Int.reduceToNat, Int.reduceEq, Int.reduceBEq, Int.reduceBNe, Nat.reduceBEq, f4, f15, n1, n2, zero_avf]
            refine pcall (fn_num20 0) (by simp only [go_sem, Nat.reduceEqDiff, Nat.reduceAdd, Nat.reduceLeDiff, Nat.reduceLT, ↓reduceIte, reduceCtorEq, Int.reduceLT, Int.reduceToNat, Int.reduceEq, Int.reduceBEq, Int.reduceBNe, Nat.reduceBEq]) ?_
            simp only [go_sem, Nat.reduceEqDiff, Nat.reduceAdd, Nat.reduceLeDiff, Nat.reduceLT, ↓reduceIte, reduceCtorEq, Int.reduceLT, Int.reduceToNat, Int.reduceEq, Int.reduceBEq, Int.reduceBNe, Nat.reduceBEq, f4, f15, n1, n2]
            refine pcall (fn_num20 4) (by simp only [go_sem, Nat.reduceEqDiff, Nat.reduceAdd, Nat.reduceLeDiff, Nat.reduceLT, ↓reduceIte, reduceCtorEq, Int.reduceLT, Int.reduceToNat, Int.reduceEq, Int.reduceBEq, Int.reduceBNe, Nat.reduceBEq]) ?_
            simp only [go_sem, Nat.reduceEqDiff, Nat.reduceAdd, Nat.reduceLeDiff, Nat.reduceLT, ↓reduceIte, reduceCtorEq, Int.reduceLT, Int.reduceToNat, Int.reduceEq, Int.reduceBEq, Int.reduceBNe, Nat.reduceBEq, f4, f15, n1, n2]
            refine pcall (fn_num20 4) (by simp only [go_sem, Nat.reduceEqDiff, Nat.reduceAdd, Nat.reduceLeDiff, Nat.reduceLT, ↓reduceIte, reduceCtorEq, Int.reduceLT, Int.reduceToNat, Int.reduceEq, Int.reduceBEq, Int.reduceBNe, Nat.reduceBEq]) ?_
            rw [zero_avf] at hE
            simp only [go_sem, Nat.reduceEqDiff, Nat.reduceAdd, Nat.reduceLeDiff, Nat.reduceLT, ↓reduceIte, reduceCtorEq, Int.reduceLT, Int.reduceToNat, Int.reduceEq, Int.reduceBEq, Int.reduceBNe, Nat.reduceBEq, f4, f15, n1, n2]
            refine pcall hE (by simp only [go_sem, Nat.reduceEqDiff, Nat.reduceAdd, Nat.reduceLeDiff, Nat.reduceLT, ↓reduceIte, reduceCtorEq, Int.reduceLT, Int.reduceToNat, Int.reduceEq, Int.reduceBEq, Int.reduceBNe, Nat.reduceBEq]) ?_
            simp only [go_sem, Nat.reduceEqDiff, Nat.reduceAdd, Nat.reduceLeDiff, Nat.reduceLT, ↓reduceIte, reduceCtorEq, Int.reduceLT, Int.reduceToNat, Int.reduceEq, Int.reduceBEq, Int.reduceBNe, Nat.reduceBEq, f4, f15, hw]
            exact ⟨k - 1, by omega, j + 1, by omega, rfl, by omega, by simp [shrink_upd, hsg, hsn, hsn1]⟩
          | true =>
            rw [hz] at hR
            simp only [if_true] at hR
            have hE := fn_eqSelf u hok
            simp only [go_sem, Nat.reduceEqDiff, Nat.reduceAdd, Nat.reduceLeDiff, Nat.reduceLT, ↓reduceIte, reduceCtorEq, Int.reduceLT, Int.reduceToNat, Int.reduceEq, Int.reduceBEq, Int.reduceBNe, Nat.reduceBEq, f4, f15, hx, n1, n2]
            refine pcall hR (by simp only [go_sem, Nat.reduceEqDiff, Nat.reduceAdd, Nat.reduceLeDiff, Nat.reduceLT, ↓reduceIte, reduceCtorEq, Int.reduceLT, Int.reduceToNat, Int.reduceEq, Int.reduceBEq, Int.reduceBNe, Nat.reduceBEq]) ?_
            simp only [go_sem, Nat.reduceEqDiff, Nat.reduceAdd, Nat.reduceLeDiff, Nat.reduceLT, ↓reduceIte, reduceCtorEq, Int.reduceLT, Int.reduceToNat, Int.reduceEq, Int.reduceBEq, Int.reduceBNe, Nat.reduceBEq, f4, f15, n1, n2]
            refine pcall (fn_num20 0) (by simp only [go_sem, Nat.reduceEqDiff, Nat.reduceAdd, Nat.reduceLeDiff, Nat.reduceLT, ↓reduceIte, reduceCtorEq, Int.reduceLT, Int.reduceToNat, Int.reduceEq, Int.reduceBEq, Int.reduceBNe, Nat.reduceBEq]) ?_
            simp only [go_sem, Nat.reduceEqDiff, Nat.reduceAdd, Nat.reduceLeDiff, Nat.reduceLT, ↓reduceIte, reduceCtorEq, Int.reduceLT, Int.reduceToNat, Int.reduceEq, Int.reduceBEq, Int.reduceBNe, Nat.reduceBEq, f4, f15, n1, n2]
            refine pcall (fn_num20 0) (by simp only [go_sem, Nat.reduceEqDiff, Nat.reduceAdd, Nat.reduceLeDiff, Nat.reduceLT, ↓reduceIte, reduceCtorEq, Int.reduceLT, Int.reduceToNat, Int.reduceEq, Int.reduceBEq, Int.reduceBNe, Nat.reduceBEq]) ?_
            simp only [go_sem, Nat.reduceEqDiff, Nat.reduceAdd, Nat.reduceLeDiff, Nat.reduceLT, ↓reduceIte, reduceCtorEq, Int.reduceLT, Int.reduceToNat, Int.reduceEq, Int.reduceBEq, Int.reduceBNe, Nat.reduceBEq, f4, f15, n1, n2]
            refine pcall hE (by simp only [go_sem, Nat.reduceEqDiff, Nat.reduceAdd, Nat.reduceLeDiff, Nat.reduceLT, ↓reduceIte, reduceCtorEq, Int.reduceLT, Int.reduceToNat, Int.reduceEq, Int.reduceBEq, Int.reduceBNe, Nat.reduceBEq]) ?_
            simp only [go_sem, Nat.reduceEqDiff, Nat.reduceAdd, Nat.reduceLeDiff, Nat.reduceLT, ↓reduceIte, reduceCtorEq, Int.reduceLT, Int.reduceToNat, Int.reduceEq, Int.reduceBEq, Int.reduceBNe, Nat.reduceBEq, f4, f15, hw]
            exact ⟨k - 1, by omega, j + 1, by omega, rfl, by omega, by simp [shrink_upd, hsg, hsn, hsn1]⟩
        | true =>
          rw [hb] at hQ
          simp only [if_true] at hQ
          simp only [go_sem, Nat.reduceEqDiff, Nat.reduceAdd, Nat.reduceLeDiff, Nat.reduceLT, ↓reduceIte, reduceCtorEq, Int.reduceLT, Int.reduceToNat, Int.reduceEq, Int.reduceBEq, Int.reduceBNe, Nat.reduceBEq, f4, f15, hx]
          refine pcall hQ (by simp only [go_sem, Nat.reduceEqDiff, Nat.reduceAdd, Nat.reduceLeDiff, Nat.reduceLT, ↓reduceIte, reduceCtorEq, Int.reduceLT, Int.reduceToNat, Int.reduceEq, Int.reduceBEq, Int.reduceBNe, Nat.reduceBEq]) ?_
          simp only [go_sem, Nat.reduceEqDiff, Nat.reduceAdd, Nat.reduceLeDiff, Nat.reduceLT, ↓reduceIte, reduceCtorEq, Int.reduceLT, Int.reduceToNat, Int.reduceEq, Int.reduceBEq, Int.reduceBNe, Nat.reduceBEq, f4, f15, hx]
          refine pcall hW (by simp only [go_sem, Nat.reduceEqDiff, Nat.reduceAdd, Nat.reduceLeDiff, Nat.reduceLT, ↓reduceIte, reduceCtorEq, Int.reduceLT, Int.reduceToNat, Int.reduceEq, Int.reduceBEq, Int.reduceBNe, Nat.reduceBEq]) ?_
          cases hz : okW x with
          | false =>
            rw [hz] at hR
            simp only [Bool.false_eq_true, if_false] at hR
            have hE := fn_eqSelf (T.mk 0 [] 0 []) (by rw [ok_mk]; simp)
            simp only [go_sem, Nat.reduceEqDiff, Nat.reduceAdd, Nat.reduceLeDiff, Nat.reduceLT, ↓reduceIte, reduceCtorEq, Int.reduceLT, Int.reduceToNat, Int.reduceEq, Int.reduceBEq, Int.reduceBNe, Nat.reduceBEq, f4, f15, hx, n1, n2]
            refine pcall hR (by simp only [go_sem, Nat.reduceEqDiff, Nat.reduceAdd, Nat.reduceLeDiff, Nat.reduceLT, ↓reduceIte, reduceCtorEq, Int.reduceLT, Int.reduceToNat, Int.reduceEq, Int.reduceBEq, Int.reduceBNe, Nat.reduceBEq]) ?_
            simp only [go_sem, Nat.reduceEqDiff, Nat.reduceAdd, Nat.reduceLeDiff, Nat.reduceLT, ↓reduceIte, reduceCtorEq, Int.reduceLT, Int.reduceToNat, Int.reduceEq, Int.reduceBEq, Int.reduceBNe, Nat.reduceBEq, f4, f15, n1, n2, zero_avf]
            refine pcall (fn_num20 4) (by simp only [go_sem, Nat.reduceEqDiff, Nat.reduceAdd, Nat.reduceLeDiff, Nat.reduceLT, ↓reduceIte, reduceCtorEq, Int.reduceLT, Int.reduceToNat, Int.reduceEq, Int.reduceBEq, Int.reduceBNe, Nat.reduceBEq]) ?_
            simp only [go_sem, Nat.reduceEqDiff, Nat.reduceAdd, Nat.reduceLeDiff, Nat.reduceLT, ↓reduceIte, reduceCtorEq, Int.reduceLT, Int.reduceToNat, Int.reduceEq, Int.reduceBEq, Int.reduceBNe, Nat.reduceBEq, f4, f15, n1, n2]
            refine pcall (fn_num20 4) (by simp only [go_sem, Nat.reduceEqDiff, Nat.reduceAdd, Nat.reduceLeDiff, Nat.reduceLT, ↓reduceIte, reduceCtorEq, Int.reduceLT, Int.reduceToNat, Int.reduceEq, Int.reduceBEq, Int.reduceBNe, Nat.reduceBEq]) ?_
            simp only [go_sem, Nat.reduceEqDiff, Nat.reduceAdd, Nat.reduceLeDiff, Nat.reduceLT, ↓reduceIte, reduceCtorEq, Int.reduceLT, Int.reduceToNat, Int.reduceEq, Int.reduceBEq, Int.reduceBNe, Nat.reduceBEq, f4, f15, n1, n2]
            refine pcall (fn_num20 4) (by simp only [go_sem, Nat.reduceEqDiff, Nat.reduceAdd, Nat.reduceLeDiff, Nat.reduceLT, ↓reduceIte, reduceCtorEq, Int.reduceLT, Int.reduceToNat, Int.reduceEq, Int.reduceBEq, Int.reduceBNe, Nat.reduceBEq]) ?_
            simp only [go_sem, Nat.reduceEqDiff, Nat.reduceAdd, Nat.reduceLeDiff, Nat.reduceLT, ↓reduceIte, reduceCtorEq, Int.reduceLT, Int.reduceToNat, Int.reduceEq, Int.reduceBEq, Int.reduceBNe, Nat.reduceBEq, f4, f15, n1, n2]
            refine pcall (fn_num20 4) (by simp only [go_sem, Nat.reduceEqDiff, Nat.reduceAdd, Nat.reduceLeDiff, Nat.reduceLT, ↓reduceIte, reduceCtorEq, Int.reduceLT, Int.reduceToNat, Int.reduceEq, Int.reduceBEq, Int.reduceBNe, Nat.reduceBEq]) ?_
            rw [zero_avf] at hE
            simp only [go_sem, Nat.reduceEqDiff, Nat.reduceAdd, Nat.reduceLeDiff, Nat.reduceLT, ↓reduceIte, reduceCtorEq, Int.reduceLT, Int.reduceToNat, Int.reduceEq, Int.reduceBEq, Int.reduceBNe, Nat.reduceBEq, f4, f15, n1, n2]
            refine pcall hE (by simp only [go_sem, Nat.reduceEqDiff, Nat.reduceAdd, Nat.reduceLeDiff, Nat.reduceLT, ↓reduceIte, reduceCtorEq, Int.reduceLT, Int.reduceToNat, Int.reduceEq, Int.reduceBEq, Int.reduceBNe, Nat.reduceBEq]) ?_
            simp only [go_sem, Nat.reduceEqDiff, Nat.reduceAdd, Nat.reduceLeDiff, Nat.reduceLT, ↓reduceIte, reduceCtorEq, Int.reduceLT, Int.reduceToNat, Int.reduceEq, Int.reduceBEq, Int.reduceBNe, Nat.reduceBEq, f4, f15, hw]
            exact ⟨k - 1, by omega, j + 1, by omega, rfl, by omega, by simp [shrink_upd, hsg, hsn, hsn1]⟩
          | true =>
            rw [hz] at hR
            simp only [if_true] at hR
            have hE := fn_eqSelf u hok
            simp only [go_sem, Nat.reduceEqDiff, Nat.reduceAdd, Nat.reduceLeDiff, Nat.reduceLT, ↓reduceIte, reduceCtorEq, Int.reduceLT, Int.reduceToNat, Int.reduceEq, Int.reduceBEq, Int.reduceBNe, Nat.reduceBEq, f4, f15, hx, n1, n2]
            refine pcall hR (by simp only [go_sem, Nat.reduceEqDiff, Nat.reduceAdd, Nat.reduceLeDiff, Nat.reduceLT, ↓reduceIte, reduceCtorEq, Int.reduceLT, Int.reduceToNat, Int.reduceEq, Int.reduceBEq, Int.reduceBNe, Nat.reduceBEq]) ?_
            simp only [go_sem, Nat.reduceEqDiff, Nat.reduceAdd, Nat.reduceLeDiff, Nat.reduceLT, ↓reduceIte, reduceCtorEq, Int.reduceLT, Int.reduceToNat, Int.reduceEq, Int.reduceBEq, Int.reduceBNe, Nat.reduceBEq, f4, f15, n1, n2]
            refine pcall (fn_num20 4) (by simp only [go_sem, Nat.reduceEqDiff, Nat.reduceAdd, Nat.reduceLeDiff, Nat.reduceLT, ↓reduceIte, reduceCtorEq, Int.reduceLT, Int.reduceToNat, Int.reduceEq, Int.reduceBEq, Int.reduceBNe, Nat.reduceBEq]) ?_
            simp only [go_sem, Nat.reduceEqDiff, Nat.reduceAdd, Nat.reduceLeDiff, Nat.reduceLT, ↓reduceIte, reduceCtorEq, Int.reduceLT, Int.reduceToNat, Int.reduceEq, Int.reduceBEq, Int.reduceBNe, Nat.reduceBEq, f4, f15, n1, n2]
            refine pcall (fn_num20 4) (by simp only [go_sem, Nat.reduceEqDiff, Nat.reduceAdd, Nat.reduceLeDiff, Nat.reduceLT, ↓reduceIte, reduceCtorEq, Int.reduceLT, Int.reduceToNat, Int.reduceEq, Int.reduceBEq, Int.reduceBNe, Nat.reduceBEq]) ?_
            simp only [go_sem, Nat.reduceEqDiff, Nat.reduceAdd, Nat.reduceLeDiff, Nat.reduceLT, ↓reduceIte, reduceCtorEq, Int.reduceLT, Int.reduceToNat, Int.reduceEq, Int.reduceBEq, Int.reduceBNe, Nat.reduceBEq, f4, f15, n1, n2]
            refine pcall (fn_num20 0) (by simp only [go_sem, Nat.reduceEqDiff, Nat.reduceAdd, Nat.reduceLeDiff, Nat.reduceLT, ↓reduceIte, reduceCtorEq, Int.reduceLT, Int.reduceToNat, Int.reduceEq, Int.reduceBEq, Int.reduceBNe, Nat.reduceBEq]) ?_
            simp only [go_sem, Nat.reduceEqDiff, Nat.reduceAdd, Nat.reduceLeDiff, Nat.reduceLT, ↓reduceIte, reduceCtorEq, Int.reduceLT, Int.reduceToNat, Int.reduceEq, Int.reduceBEq, Int.reduceBNe, Nat.reduceBEq, f4, f15, n1, n2]
            refine pcall hE (by simp only [go_sem, Nat.reduceEqDiff, Nat.reduceAdd, Nat.reduceLeDiff, Nat.reduceLT, ↓reduceIte, reduceCtorEq, Int.reduceLT, Int.reduceToNat, Int.reduceEq, Int.reduceBEq, Int.reduceBNe, Nat.reduceBEq]) ?_
            simp only [go_sem, Nat.reduceEqDiff, Nat.reduceAdd, Nat.reduceLeDiff, Nat.reduceLT, ↓reduceIte, reduceCtorEq, Int.reduceLT, Int.reduceToNat, Int.reduceEq, Int.reduceBEq, Int.reduceBNe, Nat.reduceBEq, f4, f15, hw]
            exact ⟨k - 1, by omega, j + 1, by omega, rfl, by omega, by simp [shrink_upd, hsg, hsn, hsn1]⟩
      · have hj' : decide ((j : Int) < (ty.length : Int)) = false := decide_eq_false (by omega)
        simp only [go_sem, Nat.reduceEqDiff, Nat.reduceAdd, Nat.reduceLeDiff, Nat.reduceLT, ↓reduceIte, reduceCtorEq, Int.reduceLT, Int.reduceToNat, Int.reduceEq, Int.reduceBEq, Int.reduceBNe, Nat.reduceBEq, f4, f15, hj']
        refine pcall fn_wakes20 (by simp only [go_sem, Nat.reduceEqDiff, Nat.reduceAdd, Nat.reduceLeDiff, Nat.reduceLT, ↓reduceIte, reduceCtorEq, Int.reduceLT, Int.reduceToNat, Int.reduceEq, Int.reduceBEq, Int.reduceBNe, Nat.reduceBEq]) ?_
        simp only [go_sem, Nat.reduceEqDiff, Nat.reduceAdd, Nat.reduceLeDiff, Nat.reduceLT, ↓reduceIte, reduceCtorEq, Int.reduceLT, Int.reduceToNat, Int.reduceEq, Int.reduceBEq, Int.reduceBNe, Nat.reduceBEq]
        exact hsh
end Go.Proofs.Ythaoooohomfkcaa.Ab
