/- WireBack's walk: the law. -/
import Derived.Test.YthaoooohomfkcaaWu0
import Derived.Test.YthaoooohomfkcaaWq0
namespace Go.Proofs.Ythaoooohomfkcaa.Ab
set_option linter.unusedVariables false
set_option linter.unusedSimpArgs false
set_option maxRecDepth 10000
attribute [local go_sem] Nat.zero_le Bool.not_true Bool.not_false Bool.false_eq_true if_false if_true forall_const true_and and_true List.map Option.map Bool.and_self Bool.and_true Bool.true_and Bool.false_and Bool.and_false List.getElem?_cons_zero List.getElem?_nil List.getElem?_cons_succ Int.natCast_nonneg Int.toNat_natCast List.length_map List.length_cons List.length_nil Nat.zero_add Nat.le_refl List.drop_zero List.drop_succ_cons List.take_succ_cons List.take_zero List.take_nil ne_eq not_true_eq_false not_false_eq_true upd_same Nat.add_assoc Nat.left_eq_add Nat.add_eq_left Nat.add_left_cancel_iff Nat.succ_ne_self Nat.one_ne_zero Nat.add_zero Nat.le_add_right ite_self List.set_cons_zero List.set_cons_succ List.all_cons List.all_nil bne_self_eq_false List.isEmpty_cons Int.cast_ofNat_Int Nat.mul_one List.nil_append or_self or_true true_or List.cons_append List.append_nil Option.none_beq_some Option.some_beq_some beq_self_eq_true
theorem c9 : compF Try.prog ow Try.f9 = (some (184, ([(.t 2)], (.seq (.ops [(none, (.box 1 (.t 0))), (none, (.set 2 (.bool false)))]) (.seq (.seq (.ops [(none, (.ld (some 25) (.t 1) (.agg 4))), (none, (.call (some 26) (.k (.func 36 [] [])) [(.t 25)] none))]) (.cond (.t 26) (.seq (.ops [(none, (.set 2 (.bool true)))]) .ret) .skip)) (.seq (.seq (.ops [(none, (.set 3 (.int .i64 0)))]) (.block 0 (.loop (.seq (.seq (.ops [(none, (.cp 27 3)), (none, (.fa (some 28) (.t 1) 3)), (none, (.ld (some 29) (.t 28) (.one (some 8)))), (none, (.len (some 30) (.t 29) false true)), (none, (.bin (some 31) .lss (.t 27) (.t 30) false false)), (none, (.cp 32 31)), ((some (32, true)), (.cp 33 3)), ((some (32, true)), (.bin (some 34) .lss (.t 33) (.k (.int .i64 6)) false false)), (none, (.pick (some 35) (.t 32) (.t 34) (.k (.bool false))))]) (.cond (.t 35) .skip (.exit 0))) (.seq (.block 1 (.seq (.ops [(none, (.fa (some 39) (.t 1) 3)), (none, (.ld (some 40) (.t 39) (.one (some 8)))), (none, (.cp 41 3)), (none, (.ia (some 42) (.t 40) (.t 41) (some 8) none)), (none, (.ld (some 43) (.t 42) (.agg 8))), (none, (.call (some 44) (.k (.func 49 [] [])) [(.t 43)] none)), (none, (.cp 38 44)), (none, (.ext (some 45) (.t 38) 0)), (none, (.ext (some 46) (.t 38) 1)), (none, (.mv 4 45)), (none, (.mv 5 46))]) (.seq (.seq (.ops [(none, (.cp 47 5)), (none, (.call (some 48) (.k (.func 41 [] [])) [(.t 47)] none)), (none, (.bin (some 49) .neq (.t 48) (.k (.int .i64 0)) false false))]) (.cond (.t 49) (.exit 1) .skip)) (.seq (.ops [(none, (.cp 51 4)), (none, (.bin (some 52) .add (.t 51) (.k (.str [98, 101, 104, 105, 110, 100])) false false)), (none, (.call (some 53) (.k (.func 50 [] [])) [(.t 52)] none)), (none, (.cp 50 53)), (none, (.ext (some 54) (.t 50) 0)), (none, (.ext (some 55) (.t 50) 1)), (none, (.ext (some 56) (.t 50) 2)), (none, (.alloc 6 [(.int .i64 0), (.int .i64 0), (.str []), (.int .i64 0), (.sl .full 4 []), (.int .i64 0), (.int .i64 0), (.int .i64 0)])), (none, (.st (.t 6) (.t 54) 8)), (none, (.mv 7 55)), (none, (.mv 8 56))]) (.seq (.seq (.opsD [(none, (.cp 57 8)), (none, (.call (some 58) (.k (.func 41 [] [])) [(.t 57)] none)), (none, (.bin (some 59) .neq (.t 58) (.k (.int .i64 0)) false false)), (none, (.cp 60 59)), ((some (60, false)), (.cp 61 7)), ((some (60, false)), (.bin (some 62) .neq (.t 61) (.k (.str [98, 101, 104, 105, 110, 100])) false false)), (none, (.pick (some 63) (.t 60) (.k (.bool true)) (.t 62))), (none, (.cp 64 63)), ((some (64, false)), (.ld (some 65) (.t 6) (.agg 8))), ((some (64, false)), (.fa (some 66) (.t 1) 3)), ((some (64, false)), (.ld (some 67) (.t 66) (.one (some 8)))), ((some (64, false)), (.cp 68 3)), ((some (64, false)), (.ia (some 69) (.t 67) (.t 68) (some 8) none)), ((some (64, false)), (.ld (some 70) (.t 69) (.agg 8))), ((some (64, false)), (.call (some 71) (.k (.func 52 [] [])) [(.t 65), (.t 70)] none)), ((some (64, false)), (.un (some 72) .not (.t 71))), (none, (.pick (some 73) (.t 64) (.k (.bool true)) (.t 72)))]) (.cond (.t 73) (.seq (.ops [(none, (.set 2 (.bool false)))]) .ret) .skip)) (.seq (.ops [(none, (.set 9 (.int .i64 0)))]) (.block 2 (.loop (.seq (.seq (.ops [(none, (.cp 74 9)), (none, (.cp 75 4)), (none, (.len (some 76) (.t 75) true false)), (none, (.bin (some 77) .lss (.t 74) (.t 76) false false))]) (.cond (.t 77) .skip (.exit 2))) (.seq (.block 3 (.seq (.ops [(none, (.cp 81 4)), (none, (.cp 82 9)), (none, (.sl (some 83) (.t 81) none (some (.t 82)) none true none)), (none, (.call (some 84) (.k (.func 50 [] [])) [(.t 83)] none)), (none, (.cp 80 84)), (none, (.ext (some 85) (.t 80) 0)), (none, (.ext (some 86) (.t 80) 1)), (none, (.ext (some 87) (.t 80) 2)), (none, (.alloc 10 [(.int .i64 0), (.int .i64 0), (.str []), (.int .i64 0), (.sl .full 4 []), (.int .i64 0), (.int .i64 0), (.int .i64 0)])), (none, (.st (.t 10) (.t 85) 8)), (none, (.mv 11 86)), (none, (.mv 12 87))]) (.seq (.ops [(none, (.cp 88 12)), (none, (.call (some 89) (.k (.func 41 [] [])) [(.t 88)] none)), (none, (.bin (some 90) .neq (.t 89) (.k (.int .i64 4)) false false))]) (.cond (.t 90) (.seq (.ops [(none, (.set 2 (.bool false)))]) .ret) .skip)))) (.ops [(none, (.cp 78 9)), (none, (.bin (some 79) .add (.t 78) (.k (.int .i64 1)) false false)), (none, (.mv 9 79))]))))))))))) (.ops [(none, (.cp 36 3)), (none, (.bin (some 37) .add (.t 36) (.k (.int .i64 1)) false false)), (none, (.mv 3 37))])))))) (.seq (.seq (.ops [(none, (.set 13 (.int .i64 0)))]) (.block 4 (.loop (.seq (.seq (.ops [(none, (.cp 91 13)), (none, (.fa (some 92) (.t 1) 0)), (none, (.fa (some 93) (.t 92) 1)), (none, (.ld (some 94) (.t 93) (.one (some 1)))), (none, (.len (some 95) (.t 94) false true)), (none, (.bin (some 96) .lss (.t 91) (.t 95) false false)), (none, (.cp 97 96)), ((some (97, true)), (.cp 98 13)), ((some (97, true)), (.bin (some 99) .lss (.t 98) (.k (.int .i64 6)) false false)), (none, (.pick (some 100) (.t 97) (.t 99) (.k (.bool false))))]) (.cond (.t 100) .skip (.exit 4))) (.seq (.block 5 (.seq (.ops [(none, (.fa (some 104) (.t 1) 0)), (none, (.fa (some 105) (.t 104) 1)), (none, (.ld (some 106) (.t 105) (.one (some 1)))), (none, (.cp 107 13)), (none, (.ia (some 108) (.t 106) (.t 107) (some 1) none)), (none, (.ld (some 109) (.t 108) (.one none))), (none, (.call (some 110) (.k (.func 50 [] [])) [(.t 109)] none)), (none, (.cp 103 110)), (none, (.ext (some 111) (.t 103) 0)), (none, (.ext (some 112) (.t 103) 1)), (none, (.ext (some 113) (.t 103) 2)), (none, (.alloc 14 [(.int .i64 0), (.int .i64 0), (.str []), (.int .i64 0), (.sl .full 4 []), (.int .i64 0), (.int .i64 0), (.int .i64 0)])), (none, (.st (.t 14) (.t 111) 8)), (none, (.mv 15 112)), (none, (.mv 16 113))]) (.seq (.seq (.ops [(none, (.cp 114 16)), (none, (.call (some 115) (.k (.func 41 [] [])) [(.t 114)] none)), (none, (.bin (some 116) .neq (.t 115) (.k (.int .i64 0)) false false))]) (.cond (.t 116) (.exit 5) .skip)) (.seq (.ops [(none, (.ld (some 118) (.t 14) (.agg 8))), (none, (.call (some 119) (.k (.func 49 [] [])) [(.t 118)] none)), (none, (.cp 117 119)), (none, (.ext (some 120) (.t 117) 0)), (none, (.ext (some 121) (.t 117) 1)), (none, (.mv 17 120)), (none, (.mv 18 121))]) (.seq (.ops [(none, (.cp 122 18)), (none, (.call (some 123) (.k (.func 41 [] [])) [(.t 122)] none)), (none, (.bin (some 124) .neq (.t 123) (.k (.int .i64 0)) false false)), (none, (.cp 125 124)), ((some (125, false)), (.cp 126 17)), ((some (125, false)), (.cp 127 15)), ((some (125, false)), (.bin (some 128) .add (.t 126) (.t 127) false false)), ((some (125, false)), (.fa (some 129) (.t 1) 0)), ((some (125, false)), (.fa (some 130) (.t 129) 1)), ((some (125, false)), (.ld (some 131) (.t 130) (.one (some 1)))), ((some (125, false)), (.cp 132 13)), ((some (125, false)), (.ia (some 133) (.t 131) (.t 132) (some 1) none)), ((some (125, false)), (.ld (some 134) (.t 133) (.one none))), ((some (125, false)), (.bin (some 135) .neq (.t 128) (.t 134) false false)), (none, (.pick (some 136) (.t 125) (.k (.bool true)) (.t 135)))]) (.cond (.t 136) (.seq (.ops [(none, (.set 2 (.bool false)))]) .ret) .skip)))))) (.ops [(none, (.cp 101 13)), (none, (.bin (some 102) .add (.t 101) (.k (.int .i64 1)) false false)), (none, (.mv 13 102))])))))) (.seq (.seq (.ops [(none, (.set 19 (.int .i64 0)))]) (.block 6 (.loop (.seq (.seq (.ops [(none, (.cp 137 19)), (none, (.fa (some 138) (.t 1) 2)), (none, (.ld (some 139) (.t 138) (.one (some 1)))), (none, (.len (some 140) (.t 139) false true)), (none, (.bin (some 141) .lss (.t 137) (.t 140) false false)), (none, (.cp 142 141)), ((some (142, true)), (.cp 143 19)), ((some (142, true)), (.bin (some 144) .lss (.t 143) (.k (.int .i64 20)) false false)), (none, (.pick (some 145) (.t 142) (.t 144) (.k (.bool false))))]) (.cond (.t 145) .skip (.exit 6))) (.seq (.block 7 (.seq (.ops [(none, (.fa (some 149) (.t 1) 2)), (none, (.ld (some 150) (.t 149) (.one (some 1)))), (none, (.cp 151 19)), (none, (.ia (some 152) (.t 150) (.t 151) (some 1) none)), (none, (.ld (some 153) (.t 152) (.one none))), (none, (.call (some 154) (.k (.func 37 [] [])) [(.t 153)] none)), (none, (.cp 148 154)), (none, (.ext (some 155) (.t 148) 0)), (none, (.ext (some 156) (.t 148) 1)), (none, (.mv 20 155)), (none, (.mv 21 156))]) (.seq (.seq (.ops [(none, (.cp 157 21)), (none, (.call (some 158) (.k (.func 41 [] [])) [(.t 157)] none)), (none, (.bin (some 159) .neq (.t 158) (.k (.int .i64 0)) false false))]) (.cond (.t 159) (.exit 7) .skip)) (.seq (.ops [(none, (.cp 161 20)), (none, (.bin (some 162) .add (.t 161) (.k (.str [122])) false false)), (none, (.call (some 163) (.k (.func 44 [] [])) [(.t 162)] none)), (none, (.cp 160 163)), (none, (.ext (some 164) (.t 160) 0)), (none, (.ext (some 165) (.t 160) 1)), (none, (.ext (some 166) (.t 160) 2)), (none, (.mv 22 164)), (none, (.mv 23 165)), (none, (.mv 24 166))]) (.seq (.ops [(none, (.cp 167 24)), (none, (.call (some 168) (.k (.func 41 [] [])) [(.t 167)] none)), (none, (.bin (some 169) .neq (.t 168) (.k (.int .i64 0)) false false)), (none, (.cp 170 169)), ((some (170, false)), (.cp 171 22)), ((some (170, false)), (.fa (some 172) (.t 1) 2)), ((some (170, false)), (.ld (some 173) (.t 172) (.one (some 1)))), ((some (170, false)), (.cp 174 19)), ((some (170, false)), (.ia (some 175) (.t 173) (.t 174) (some 1) none)), ((some (170, false)), (.ld (some 176) (.t 175) (.one none))), ((some (170, false)), (.bin (some 177) .neq (.t 171) (.t 176) false false)), (none, (.pick (some 178) (.t 170) (.k (.bool true)) (.t 177))), (none, (.cp 179 178)), ((some (179, false)), (.cp 180 23)), ((some (179, false)), (.bin (some 181) .neq (.t 180) (.k (.str [122])) false false)), (none, (.pick (some 182) (.t 179) (.k (.bool true)) (.t 181)))]) (.cond (.t 182) (.seq (.ops [(none, (.set 2 (.bool false)))]) .ret) .skip)))))) (.ops [(none, (.cp 146 19)), (none, (.bin (some 147) .add (.t 146) (.k (.int .i64 1)) false false)), (none, (.mv 19 147))])))))) (.seq (.ops [(none, (.call (some 183) (.k (.func 48 [] [])) [] none)), (none, (.mv 2 183))]) .ret))))))))) := by kernel_rfl
attribute [local go_sem] strip_flS strip_flT isOwn_flS
theorem Fr.frA (f : Fr) : f.av = frA f.k f.t f.a f.b f.n := by obtain ⟨k, t, a, b, n⟩ := f; cases t; rfl
def askB (l : List T) (s : List (List UInt8)) (ns : List Int) (fs : List Fr) : Blk := .cells [.sl .sh 4 (l.map T.av), .sl .sh 1 (s.map AV.str), .sl .sh 1 (ns.map (AV.int .i64)), .sl .sh 8 (fs.map Fr.av)]
theorem fn_EqFrameF (k : Int) (t : T) (a b n : Int) (ht : t.ok) : PFn Try.prog 52 [frF k t a b n, frA k t a b n] (.bool true) := by
  have h := fn_EqFrame k t a b n k t a b n ht
  rw [eqT_refl] at h
  simp only [beq_self_eq_true, Bool.and_self] at h
  refine pfn_fk ?_
  simp only [List.map_cons, List.map_nil, fk_frF, fk_frA]
  exact h
theorem frS_len {k : Int} {t : T} {a b n : Int} (h : okFr k t a b n = true) : (frS k t a b n).length ≤ 480 := by
  obtain ⟨h1, h2⟩ := bodyL_le h
  have := vb5 (n := bodyL k t a b n) (by omega) (by omega)
  unfold frS
  rw [List.length_append, u8_len]
  unfold vbs; rw [u8_len]
  unfold bodyL at h2 this ⊢
  omega
set_option maxHeartbeats 1600000 in
theorem fn_WireBack (l : List T) (s : List (List UInt8)) (ns : List Int) (fs : List Fr) (hl : l.length < 1000000000000000) (ho : ∀ x ∈ l, x.ok) (hs : s.length < 1000000000000000) (hf : fs.length < 1000000000000000) (hfo : ∀ f ∈ fs, f.t.ok) (hn : ns.length * 8 ≤ 140737488351232) (hsl : ∀ x ∈ s, x.length ≤ 140737488351232) : PFn Try.prog 9 [ask20 l s ns fs] (.bool true) := by
  intro h
  refine fnC mixed Try.func9 c9 (by simp) ?_
  have hH := fn_Heavy20 l s ns fs hl ho hs hf hfo
  unfold ask20 at hH ⊢
  simp only [go_sem, Nat.reduceEqDiff, Nat.reduceAdd, Nat.reduceLeDiff, Nat.reduceLT, ↓reduceIte, reduceCtorEq, Int.reduceLT, Int.reduceToNat, Int.reduceEq, Int.reduceBEq, Int.reduceBNe, Nat.reduceBEq]
  refine pcall hH (by simp only [go_sem, Nat.reduceEqDiff, Nat.reduceAdd, Nat.reduceLeDiff, Nat.reduceLT, ↓reduceIte, reduceCtorEq, Int.reduceLT, Int.reduceToNat, Int.reduceEq, Int.reduceBEq, Int.reduceBNe, Nat.reduceBEq]) ?_
  simp only [go_sem, Nat.reduceEqDiff, Nat.reduceAdd, Nat.reduceLeDiff, Nat.reduceLT, ↓reduceIte, reduceCtorEq, Int.reduceLT, Int.reduceToNat, Int.reduceEq, Int.reduceBEq, Int.reduceBNe, Nat.reduceBEq]
  refine cif (fun h1 => ?_) (fun h1 => ?_)
  · simp only [go_sem, Nat.reduceEqDiff, Nat.reduceAdd, Nat.reduceLeDiff, Nat.reduceLT, ↓reduceIte, reduceCtorEq, Int.reduceLT, Int.reduceToNat, Int.reduceEq, Int.reduceBEq, Int.reduceBNe, Nat.reduceBEq]
  simp only [go_sem, Nat.reduceEqDiff, Nat.reduceAdd, Nat.reduceLeDiff, Nat.reduceLT, ↓reduceIte, reduceCtorEq, Int.reduceLT, Int.reduceToNat, Int.reduceEq, Int.reduceBEq, Int.reduceBNe, Nat.reduceBEq]
  have sh0 : Shrink h ⟨h.n + 1, updB h.bk h.n (askB l s ns fs)⟩ h := by simp [shrink_upd, shrink_n]
  refine cloop (fun k t => ∃ i : Nat, i + k = fs.length ∧ t.fr 1 = .ptr h.n 0 ∧ t.fr 3 = .int .i64 (i : Nat) ∧ h.n + 1 ≤ t.hp.n ∧ t.hp.bk h.n = askB l s ns fs ∧ Shrink h t.hp h) fs.length ⟨0, by simp, by simp [fr_apply, argsF], by simp [fr_apply, argsF], by simp, by simp [bk_apply, askB], by simpa [askB] using sh0⟩ ?_
  clear sh0
  rintro k ⟨f, hp⟩ ⟨i, hk, f1, f3, hnn, hbk, hsh⟩
  simp only at f1 f3 hnn hbk hsh
  unfold askB at hbk
  by_cases hi : i < fs.length
  · have hi' : decide ((i : Int) < (fs.length : Int)) = true := decide_eq_true (by omega)
    by_cases h6 : (i : Int) < 6
    · have h6' : decide ((i : Int) < 6) = true := decide_eq_true h6
      have hw : IntKind.i64.wrap ((i : Int) + 1) = ((i + 1 : Nat) : Int) := by rw [wrap64] <;> omega
      have hx : (fs.map Fr.av)[i]? = some fs[i].av := by simp [hi]
      have hto := hfo _ (List.getElem_mem hi)
      rw [Fr.frA] at hx
      generalize fs[i] = g at hx hto
      obtain ⟨gk, gt, ga, gb, gn⟩ := g
      simp only at hx hto
      have hF := fn_wFrame gk gt ga gb gn hto
      have hE := fn_EqFrameF gk gt ga gb gn hto
      have hS := frS_len (k := gk) (t := gt) (a := ga) (b := gb) (n := gn)
      have hT := okTk_frS (k := gk) (t := gt) (a := ga) (b := gb) (n := gn)
      have hC := okTk_cut (k := gk) (t := gt) (a := ga) (b := gb) (n := gn)
      generalize hS0 : frS gk gt ga gb gn = S at *
      generalize okFr gk gt ga gb gn = m at *
      obtain ⟨tk, tn, tv, tl⟩ := gt
      unfold frA at hF hE hx
      unfold frF at hE hT
      simp only at hF hE hx hT
      simp only [go_sem, Nat.reduceEqDiff, Nat.reduceAdd, Nat.reduceLeDiff, Nat.reduceLT, ↓reduceIte, reduceCtorEq, Int.reduceLT, Int.reduceToNat, Int.reduceEq, Int.reduceBEq, Int.reduceBNe, Nat.reduceBEq, f1, f3, hi', h6', hbk, hx]
      refine pcall hF (by simp only [go_sem, Nat.reduceEqDiff, Nat.reduceAdd, Nat.reduceLeDiff, Nat.reduceLT, ↓reduceIte, reduceCtorEq, Int.reduceLT, Int.reduceToNat, Int.reduceEq, Int.reduceBEq, Int.reduceBNe, Nat.reduceBEq]) ?_
      cases m with
      | false =>
        simp only [go_sem, Nat.reduceEqDiff, Nat.reduceAdd, Nat.reduceLeDiff, Nat.reduceLT, ↓reduceIte, reduceCtorEq, Int.reduceLT, Int.reduceToNat, Int.reduceEq, Int.reduceBEq, Int.reduceBNe, Nat.reduceBEq, f1, f3]
        refine pcall (fn_num20 1) (by simp only [go_sem, Nat.reduceEqDiff, Nat.reduceAdd, Nat.reduceLeDiff, Nat.reduceLT, ↓reduceIte, reduceCtorEq, Int.reduceLT, Int.reduceToNat, Int.reduceEq, Int.reduceBEq, Int.reduceBNe, Nat.reduceBEq]) ?_
        simp only [go_sem, Nat.reduceEqDiff, Nat.reduceAdd, Nat.reduceLeDiff, Nat.reduceLT, ↓reduceIte, reduceCtorEq, Int.reduceLT, Int.reduceToNat, Int.reduceEq, Int.reduceBEq, Int.reduceBNe, Nat.reduceBEq, f1, f3, hw]
        exact ⟨k - 1, by omega, i + 1, by omega, rfl, hnn, hbk, hsh⟩
      | true =>
        have hS1 := hS rfl
        have hlen : S.length + 6 ≤ 9223372036854775807 := by omega
        have hlen2 : S.length ≤ 9223372036854775801 := by omega
        simp only [go_sem, Nat.reduceEqDiff, Nat.reduceAdd, Nat.reduceLeDiff, Nat.reduceLT, ↓reduceIte, reduceCtorEq, Int.reduceLT, Int.reduceToNat, Int.reduceEq, Int.reduceBEq, Int.reduceBNe, Nat.reduceBEq, f1, f3]
        refine pcall (fn_num20 0) (by simp only [go_sem, Nat.reduceEqDiff, Nat.reduceAdd, Nat.reduceLeDiff, Nat.reduceLT, ↓reduceIte, reduceCtorEq, Int.reduceLT, Int.reduceToNat, Int.reduceEq, Int.reduceBEq, Int.reduceBNe, Nat.reduceBEq]) ?_
        simp only [go_sem, Nat.reduceEqDiff, Nat.reduceAdd, Nat.reduceLeDiff, Nat.reduceLT, ↓reduceIte, reduceCtorEq, Int.reduceLT, Int.reduceToNat, Int.reduceEq, Int.reduceBEq, Int.reduceBNe, Nat.reduceBEq, f1, f3, hlen, hlen2]
        have hW := fn_wTakeF (S ++ [98, 101, 104, 105, 110, 100])
        obtain ⟨t1, t2, t3⟩ := hT rfl [98, 101, 104, 105, 110, 100]
        rw [t1, t2, t3] at hW
        simp only [if_true] at hW
        refine pcall hW (by simp only [go_sem, Nat.reduceEqDiff, Nat.reduceAdd, Nat.reduceLeDiff, Nat.reduceLT, ↓reduceIte, reduceCtorEq, Int.reduceLT, Int.reduceToNat, Int.reduceEq, Int.reduceBEq, Int.reduceBNe, Nat.reduceBEq]) ?_
        have n1 : ¬ h.n = hp.n := by omega
        have n2 : ¬ hp.n = h.n := by omega
        simp only [go_sem, Nat.reduceEqDiff, Nat.reduceAdd, Nat.reduceLeDiff, Nat.reduceLT, ↓reduceIte, reduceCtorEq, Int.reduceLT, Int.reduceToNat, Int.reduceEq, Int.reduceBEq, Int.reduceBNe, Nat.reduceBEq, f1, f3, n1, n2, hbk]
        refine pcallD (fn_num20 0) (by simp only [go_sem, Nat.reduceEqDiff, Nat.reduceAdd, Nat.reduceLeDiff, Nat.reduceLT, ↓reduceIte, reduceCtorEq, Int.reduceLT, Int.reduceToNat, Int.reduceEq, Int.reduceBEq, Int.reduceBNe, Nat.reduceBEq]) ?_
        simp only [go_sem, Nat.reduceEqDiff, Nat.reduceAdd, Nat.reduceLeDiff, Nat.reduceLT, ↓reduceIte, reduceCtorEq, Int.reduceLT, Int.reduceToNat, Int.reduceEq, Int.reduceBEq, Int.reduceBNe, Nat.reduceBEq, f1, f3, n1, n2, hbk, hx]
        refine pcallD hE (by simp only [go_sem, Nat.reduceEqDiff, Nat.reduceAdd, Nat.reduceLeDiff, Nat.reduceLT, ↓reduceIte, reduceCtorEq, Int.reduceLT, Int.reduceToNat, Int.reduceEq, Int.reduceBEq, Int.reduceBNe, Nat.reduceBEq]) ?_
        simp only [go_sem, Nat.reduceEqDiff, Nat.reduceAdd, Nat.reduceLeDiff, Nat.reduceLT, ↓reduceIte, reduceCtorEq, Int.reduceLT, Int.reduceToNat, Int.reduceEq, Int.reduceBEq, Int.reduceBNe, Nat.reduceBEq, f1, f3, n1, n2, hbk]
        have hsn : h.n ≤ hp.n := by omega
        have hsg := shrink_grow (n := hp.n + 1) hsh (by omega)
        refine cloop (fun q t => ∃ j : Nat, j + q = S.length ∧ t.fr 1 = .ptr h.n 0 ∧ t.fr 3 = .int .i64 (i : Nat) ∧ t.fr 4 = .str S ∧ t.fr 9 = .int .i64 (j : Nat) ∧ h.n + 1 ≤ t.hp.n ∧ t.hp.bk h.n = askB l s ns fs ∧ Shrink h t.hp h) S.length ⟨0, by simp, by simp [fr_apply, f1], by simp [fr_apply, f3], by simp [fr_apply], by simp [fr_apply], by simp; omega, by simp [bk_apply, n1, hbk, askB], by simp [shrink_upd, hsg, hsn]⟩ ?_
        clear hsg
        rintro q ⟨f', hp'⟩ ⟨j, hj, f1', f3', f4', f9', hnn', hbk', hsh'⟩
        simp only at f1' f3' f4' f9' hnn' hbk' hsh'
        by_cases hjl : j < S.length
        · have hjd : decide ((j : Int) < (S.length : Int)) = true := decide_eq_true (by omega)
          have hwj : IntKind.i64.wrap ((j : Int) + 1) = ((j + 1 : Nat) : Int) := by rw [wrap64] <;> omega
          have q1 : natOf (.int .i64 (j : Int)) = some j := by simp [natOf]
          have q2 : j ≤ S.length := by omega
          have hW' := fn_wTakeF (S.take j)
          rw [hC rfl hjl] at hW'
          simp only [Bool.false_eq_true, if_false] at hW'
          unfold fr0 at hW'
          have hsg := shrink_grow (n := hp'.n + 1) hsh' (by omega)
          have hsn' : h.n ≤ hp'.n := by omega
          have n1' : ¬ h.n = hp'.n := by omega
          simp only [go_sem, Nat.reduceEqDiff, Nat.reduceAdd, Nat.reduceLeDiff, Nat.reduceLT, ↓reduceIte, reduceCtorEq, Int.reduceLT, Int.reduceToNat, Int.reduceEq, Int.reduceBEq, Int.reduceBNe, Nat.reduceBEq, f1', f3', f4', f9', hjd, q1, q2, Nat.sub_zero]
          refine pcall hW' (by simp only [go_sem, Nat.reduceEqDiff, Nat.reduceAdd, Nat.reduceLeDiff, Nat.reduceLT, ↓reduceIte, reduceCtorEq, Int.reduceLT, Int.reduceToNat, Int.reduceEq, Int.reduceBEq, Int.reduceBNe, Nat.reduceBEq]) ?_
          simp only [go_sem, Nat.reduceEqDiff, Nat.reduceAdd, Nat.reduceLeDiff, Nat.reduceLT, ↓reduceIte, reduceCtorEq, Int.reduceLT, Int.reduceToNat, Int.reduceEq, Int.reduceBEq, Int.reduceBNe, Nat.reduceBEq, f1', f3', f4', f9']
          refine pcall (fn_num20 4) (by simp only [go_sem, Nat.reduceEqDiff, Nat.reduceAdd, Nat.reduceLeDiff, Nat.reduceLT, ↓reduceIte, reduceCtorEq, Int.reduceLT, Int.reduceToNat, Int.reduceEq, Int.reduceBEq, Int.reduceBNe, Nat.reduceBEq]) ?_
          simp only [go_sem, Nat.reduceEqDiff, Nat.reduceAdd, Nat.reduceLeDiff, Nat.reduceLT, ↓reduceIte, reduceCtorEq, Int.reduceLT, Int.reduceToNat, Int.reduceEq, Int.reduceBEq, Int.reduceBNe, Nat.reduceBEq, f1', f3', f4', f9', hwj]
          exact ⟨q - 1, by omega, j + 1, by omega, rfl, by omega, by simp [n1', hbk'], by simp [shrink_upd, hsg, hsn']⟩
        · have hjd : decide ((j : Int) < (S.length : Int)) = false := decide_eq_false (by omega)
          simp only [go_sem, Nat.reduceEqDiff, Nat.reduceAdd, Nat.reduceLeDiff, Nat.reduceLT, ↓reduceIte, reduceCtorEq, Int.reduceLT, Int.reduceToNat, Int.reduceEq, Int.reduceBEq, Int.reduceBNe, Nat.reduceBEq, f1', f3', f4', f9', hjd, hw]
          exact ⟨k - 1, by omega, i + 1, by omega, rfl, hnn', hbk', hsh'⟩
    · have h6' : decide ((i : Int) < 6) = false := decide_eq_false h6
      simp only [go_sem, Nat.reduceEqDiff, Nat.reduceAdd, Nat.reduceLeDiff, Nat.reduceLT, ↓reduceIte, reduceCtorEq, Int.reduceLT, Int.reduceToNat, Int.reduceEq, Int.reduceBEq, Int.reduceBNe, Nat.reduceBEq, f1, f3, hi', h6', hbk]
      refine cloop (fun k t => ∃ i : Nat, i + k = s.length ∧ t.fr 1 = .ptr h.n 0 ∧ t.fr 13 = .int .i64 (i : Nat) ∧ h.n + 1 ≤ t.hp.n ∧ t.hp.bk h.n = askB l s ns fs ∧ Shrink h t.hp h) s.length ⟨0, by simp, by simp [fr_apply, f1], by simp [fr_apply], hnn, hbk, hsh⟩ ?_
      rintro k ⟨f, hp⟩ ⟨i, hk, f1, f3, hnn, hbk, hsh⟩
      simp only at f1 f3 hnn hbk hsh
      unfold askB at hbk
      by_cases hi : i < s.length
      · have hi' : decide ((i : Int) < (s.length : Int)) = true := decide_eq_true (by omega)
        by_cases h6 : (i : Int) < 6
        · have h6' : decide ((i : Int) < 6) = true := decide_eq_true h6
          have hw : IntKind.i64.wrap ((i : Int) + 1) = ((i + 1 : Nat) : Int) := by rw [wrap64] <;> omega
          have hx := getStr hi
          have hxl := hsl _ (List.getElem_mem hi)
          generalize s[i] = x at hx hxl
          have hW := fn_wTakeF x
          have hI := okTk_inv (s := x)
          have n1 : ¬ h.n = hp.n := by omega
          have n2 : ¬ hp.n = h.n := by omega
          have hsn : h.n ≤ hp.n := by omega
          have hsg := shrink_grow (n := hp.n + 1) hsh (by omega)
          simp only [go_sem, Nat.reduceEqDiff, Nat.reduceAdd, Nat.reduceLeDiff, Nat.reduceLT, ↓reduceIte, reduceCtorEq, Int.reduceLT, Int.reduceToNat, Int.reduceEq, Int.reduceBEq, Int.reduceBNe, Nat.reduceBEq, f1, f3, hi', h6', hbk, hx]
          refine pcall hW (by simp only [go_sem, Nat.reduceEqDiff, Nat.reduceAdd, Nat.reduceLeDiff, Nat.reduceLT, ↓reduceIte, reduceCtorEq, Int.reduceLT, Int.reduceToNat, Int.reduceEq, Int.reduceBEq, Int.reduceBNe, Nat.reduceBEq]) ?_
          cases hm : okTk x with
          | false =>
            unfold fr0
            simp only [go_sem, Nat.reduceEqDiff, Nat.reduceAdd, Nat.reduceLeDiff, Nat.reduceLT, ↓reduceIte, reduceCtorEq, Int.reduceLT, Int.reduceToNat, Int.reduceEq, Int.reduceBEq, Int.reduceBNe, Nat.reduceBEq, f1, f3, n1, n2, hbk]
            refine pcall (fn_num20 4) (by simp only [go_sem, Nat.reduceEqDiff, Nat.reduceAdd, Nat.reduceLeDiff, Nat.reduceLT, ↓reduceIte, reduceCtorEq, Int.reduceLT, Int.reduceToNat, Int.reduceEq, Int.reduceBEq, Int.reduceBNe, Nat.reduceBEq]) ?_
            simp only [go_sem, Nat.reduceEqDiff, Nat.reduceAdd, Nat.reduceLeDiff, Nat.reduceLT, ↓reduceIte, reduceCtorEq, Int.reduceLT, Int.reduceToNat, Int.reduceEq, Int.reduceBEq, Int.reduceBNe, Nat.reduceBEq, f1, f3, n1, n2, hw]
            exact ⟨k - 1, by omega, i + 1, by omega, rfl, by omega, by simp [n1, hbk, askB], by simp [shrink_upd, hsg, hsn]⟩
          | true =>
            obtain ⟨gk, gt, ga, gb, gn, hok, hto, e1, e2⟩ := hI hm
            have hF := fn_wFrame gk gt ga gb gn hto
            rw [hok] at hF
            simp only [if_true] at hF
            have hF' : PFn Try.prog 49 [frF gk gt ga gb gn] (.tup [.str (frS gk gt ga gb gn), .int .i64 0]) := by
              refine pfn_fk ?_
              simp only [List.map_cons, List.map_nil, fk_frF]
              exact hF
            rw [e1]
            clear hW hI hF hm e1
            generalize (lenR x).2.1 = rest at *
            generalize frS gk gt ga gb gn = S at *
            subst e2
            simp only [List.length_append] at hxl
            obtain ⟨tk, tn, tv, tl⟩ := gt
            unfold frF at hF' ⊢
            simp only at hF' ⊢
            have hlen : S.length + rest.length ≤ 9223372036854775807 := by omega
            simp only [go_sem, Nat.reduceEqDiff, Nat.reduceAdd, Nat.reduceLeDiff, Nat.reduceLT, ↓reduceIte, reduceCtorEq, Int.reduceLT, Int.reduceToNat, Int.reduceEq, Int.reduceBEq, Int.reduceBNe, Nat.reduceBEq, f1, f3, n1, n2, hbk]
            refine pcall (fn_num20 0) (by simp only [go_sem, Nat.reduceEqDiff, Nat.reduceAdd, Nat.reduceLeDiff, Nat.reduceLT, ↓reduceIte, reduceCtorEq, Int.reduceLT, Int.reduceToNat, Int.reduceEq, Int.reduceBEq, Int.reduceBNe, Nat.reduceBEq]) ?_
            simp only [go_sem, Nat.reduceEqDiff, Nat.reduceAdd, Nat.reduceLeDiff, Nat.reduceLT, ↓reduceIte, reduceCtorEq, Int.reduceLT, Int.reduceToNat, Int.reduceEq, Int.reduceBEq, Int.reduceBNe, Nat.reduceBEq, f1, f3, n1, n2, hbk]
            refine pcall hF' (by simp only [go_sem, Nat.reduceEqDiff, Nat.reduceAdd, Nat.reduceLeDiff, Nat.reduceLT, ↓reduceIte, reduceCtorEq, Int.reduceLT, Int.reduceToNat, Int.reduceEq, Int.reduceBEq, Int.reduceBNe, Nat.reduceBEq]) ?_
            simp only [go_sem, Nat.reduceEqDiff, Nat.reduceAdd, Nat.reduceLeDiff, Nat.reduceLT, ↓reduceIte, reduceCtorEq, Int.reduceLT, Int.reduceToNat, Int.reduceEq, Int.reduceBEq, Int.reduceBNe, Nat.reduceBEq, f1, f3, n1, n2, hbk]
            refine pcall (fn_num20 0) (by simp only [go_sem, Nat.reduceEqDiff, Nat.reduceAdd, Nat.reduceLeDiff, Nat.reduceLT, ↓reduceIte, reduceCtorEq, Int.reduceLT, Int.reduceToNat, Int.reduceEq, Int.reduceBEq, Int.reduceBNe, Nat.reduceBEq]) ?_
            simp only [go_sem, Nat.reduceEqDiff, Nat.reduceAdd, Nat.reduceLeDiff, Nat.reduceLT, ↓reduceIte, reduceCtorEq, Int.reduceLT, Int.reduceToNat, Int.reduceEq, Int.reduceBEq, Int.reduceBNe, Nat.reduceBEq, f1, f3, n1, n2, hbk, hx, hlen, hw]
            exact ⟨k - 1, by omega, i + 1, by omega, rfl, by omega, by simp [n1, hbk, askB], by simp [shrink_upd, hsg, hsn]⟩
        · have h6' : decide ((i : Int) < 6) = false := decide_eq_false h6
          simp only [go_sem, Nat.reduceEqDiff, Nat.reduceAdd, Nat.reduceLeDiff, Nat.reduceLT, ↓reduceIte, reduceCtorEq, Int.reduceLT, Int.reduceToNat, Int.reduceEq, Int.reduceBEq, Int.reduceBNe, Nat.reduceBEq, f1, f3, hi', h6', hbk]
          refine cloop (fun k t => ∃ i : Nat, i + k = ns.length ∧ t.fr 1 = .ptr h.n 0 ∧ t.fr 19 = .int .i64 (i : Nat) ∧ h.n + 1 ≤ t.hp.n ∧ t.hp.bk h.n = askB l s ns fs ∧ Shrink h t.hp h) ns.length ⟨0, by simp, by simp [fr_apply, f1], by simp [fr_apply], hnn, hbk, hsh⟩ ?_
          rintro k ⟨f, hp⟩ ⟨i, hk, f1, f3, hnn, hbk, hsh⟩
          simp only at f1 f3 hnn hbk hsh
          unfold askB at hbk
          by_cases hi : i < ns.length
          · have hi' : decide ((i : Int) < (ns.length : Int)) = true := decide_eq_true (by omega)
            by_cases h6 : (i : Int) < 20
            · have h6' : decide ((i : Int) < 20) = true := decide_eq_true h6
              have hw : IntKind.i64.wrap ((i : Int) + 1) = ((i + 1 : Nat) : Int) := by rw [wrap64] <;> omega
              have hx : (ns.map (AV.int .i64))[i]? = some (.int .i64 ns[i]) := by simp [hi]
              generalize ns[i] = x at hx
              have hN := fn_wNumber x
              simp only [go_sem, Nat.reduceEqDiff, Nat.reduceAdd, Nat.reduceLeDiff, Nat.reduceLT, ↓reduceIte, reduceCtorEq, Int.reduceLT, Int.reduceToNat, Int.reduceEq, Int.reduceBEq, Int.reduceBNe, Nat.reduceBEq, f1, f3, hi', h6', hbk, hx]
              refine pcall hN (by simp only [go_sem, Nat.reduceEqDiff, Nat.reduceAdd, Nat.reduceLeDiff, Nat.reduceLT, ↓reduceIte, reduceCtorEq, Int.reduceLT, Int.reduceToNat, Int.reduceEq, Int.reduceBEq, Int.reduceBNe, Nat.reduceBEq]) ?_
              cases hm : okN x with
              | false =>
                simp only [go_sem, Nat.reduceEqDiff, Nat.reduceAdd, Nat.reduceLeDiff, Nat.reduceLT, ↓reduceIte, reduceCtorEq, Int.reduceLT, Int.reduceToNat, Int.reduceEq, Int.reduceBEq, Int.reduceBNe, Nat.reduceBEq, f1, f3, hbk]
                refine pcall (fn_num20 1) (by simp only [go_sem, Nat.reduceEqDiff, Nat.reduceAdd, Nat.reduceLeDiff, Nat.reduceLT, ↓reduceIte, reduceCtorEq, Int.reduceLT, Int.reduceToNat, Int.reduceEq, Int.reduceBEq, Int.reduceBNe, Nat.reduceBEq]) ?_
                simp only [go_sem, Nat.reduceEqDiff, Nat.reduceAdd, Nat.reduceLeDiff, Nat.reduceLT, ↓reduceIte, reduceCtorEq, Int.reduceLT, Int.reduceToNat, Int.reduceEq, Int.reduceBEq, Int.reduceBNe, Nat.reduceBEq, f1, f3, hw]
                exact ⟨k - 1, by omega, i + 1, by omega, rfl, hnn, by first | exact hbk | rfl, hsh⟩
              | true =>
                have hT := fn_TakeNumber (vbs (zz x) ++ [122])
                rw [numP_vbs hm] at hT
                simp only [Bool.false_eq_true, if_false] at hT
                have hv : (vbs (zz x)).length ≤ 5 := by
                  rw [okN_iff] at hm
                  have := vb5 hm.1 hm.2
                  unfold vbs; rw [u8_len]; exact this
                have hlen : (vbs (zz x)).length + 1 ≤ 9223372036854775807 := by omega
                have hlen2 : (vbs (zz x)).length ≤ 9223372036854775806 := by omega
                simp only [go_sem, Nat.reduceEqDiff, Nat.reduceAdd, Nat.reduceLeDiff, Nat.reduceLT, ↓reduceIte, reduceCtorEq, Int.reduceLT, Int.reduceToNat, Int.reduceEq, Int.reduceBEq, Int.reduceBNe, Nat.reduceBEq, f1, f3, hbk]
                refine pcall (fn_num20 0) (by simp only [go_sem, Nat.reduceEqDiff, Nat.reduceAdd, Nat.reduceLeDiff, Nat.reduceLT, ↓reduceIte, reduceCtorEq, Int.reduceLT, Int.reduceToNat, Int.reduceEq, Int.reduceBEq, Int.reduceBNe, Nat.reduceBEq]) ?_
                simp only [go_sem, Nat.reduceEqDiff, Nat.reduceAdd, Nat.reduceLeDiff, Nat.reduceLT, ↓reduceIte, reduceCtorEq, Int.reduceLT, Int.reduceToNat, Int.reduceEq, Int.reduceBEq, Int.reduceBNe, Nat.reduceBEq, f1, f3, hbk, hlen, hlen2]
                refine pcall hT (by simp only [go_sem, Nat.reduceEqDiff, Nat.reduceAdd, Nat.reduceLeDiff, Nat.reduceLT, ↓reduceIte, reduceCtorEq, Int.reduceLT, Int.reduceToNat, Int.reduceEq, Int.reduceBEq, Int.reduceBNe, Nat.reduceBEq]) ?_
                simp only [go_sem, Nat.reduceEqDiff, Nat.reduceAdd, Nat.reduceLeDiff, Nat.reduceLT, ↓reduceIte, reduceCtorEq, Int.reduceLT, Int.reduceToNat, Int.reduceEq, Int.reduceBEq, Int.reduceBNe, Nat.reduceBEq, f1, f3, hbk]
                refine pcall (fn_num20 0) (by simp only [go_sem, Nat.reduceEqDiff, Nat.reduceAdd, Nat.reduceLeDiff, Nat.reduceLT, ↓reduceIte, reduceCtorEq, Int.reduceLT, Int.reduceToNat, Int.reduceEq, Int.reduceBEq, Int.reduceBNe, Nat.reduceBEq]) ?_
                simp only [go_sem, Nat.reduceEqDiff, Nat.reduceAdd, Nat.reduceLeDiff, Nat.reduceLT, ↓reduceIte, reduceCtorEq, Int.reduceLT, Int.reduceToNat, Int.reduceEq, Int.reduceBEq, Int.reduceBNe, Nat.reduceBEq, f1, f3, hbk, hx, hw]
                exact ⟨k - 1, by omega, i + 1, by omega, rfl, hnn, by first | exact hbk | rfl, hsh⟩
            · have h6' : decide ((i : Int) < 20) = false := decide_eq_false h6
              simp only [go_sem, Nat.reduceEqDiff, Nat.reduceAdd, Nat.reduceLeDiff, Nat.reduceLT, ↓reduceIte, reduceCtorEq, Int.reduceLT, Int.reduceToNat, Int.reduceEq, Int.reduceBEq, Int.reduceBNe, Nat.reduceBEq, f1, f3, hi', h6', hbk]
              refine pcall fn_wakes20 (by simp only [go_sem, Nat.reduceEqDiff, Nat.reduceAdd, Nat.reduceLeDiff, Nat.reduceLT, ↓reduceIte, reduceCtorEq, Int.reduceLT, Int.reduceToNat, Int.reduceEq, Int.reduceBEq, Int.reduceBNe, Nat.reduceBEq]) ?_
              simp only [go_sem, Nat.reduceEqDiff, Nat.reduceAdd, Nat.reduceLeDiff, Nat.reduceLT, ↓reduceIte, reduceCtorEq, Int.reduceLT, Int.reduceToNat, Int.reduceEq, Int.reduceBEq, Int.reduceBNe, Nat.reduceBEq]
              exact hsh
          · have hi' : decide ((i : Int) < (ns.length : Int)) = false := decide_eq_false (by omega)
            simp only [go_sem, Nat.reduceEqDiff, Nat.reduceAdd, Nat.reduceLeDiff, Nat.reduceLT, ↓reduceIte, reduceCtorEq, Int.reduceLT, Int.reduceToNat, Int.reduceEq, Int.reduceBEq, Int.reduceBNe, Nat.reduceBEq, f1, f3, hi', hbk]
            refine pcall fn_wakes20 (by simp only [go_sem, Nat.reduceEqDiff, Nat.reduceAdd, Nat.reduceLeDiff, Nat.reduceLT, ↓reduceIte, reduceCtorEq, Int.reduceLT, Int.reduceToNat, Int.reduceEq, Int.reduceBEq, Int.reduceBNe, Nat.reduceBEq]) ?_
            simp only [go_sem, Nat.reduceEqDiff, Nat.reduceAdd, Nat.reduceLeDiff, Nat.reduceLT, ↓reduceIte, reduceCtorEq, Int.reduceLT, Int.reduceToNat, Int.reduceEq, Int.reduceBEq, Int.reduceBNe, Nat.reduceBEq]
            exact hsh
      · have hi' : decide ((i : Int) < (s.length : Int)) = false := decide_eq_false (by omega)
        simp only [go_sem, Nat.reduceEqDiff, Nat.reduceAdd, Nat.reduceLeDiff, Nat.reduceLT, ↓reduceIte, reduceCtorEq, Int.reduceLT, Int.reduceToNat, Int.reduceEq, Int.reduceBEq, Int.reduceBNe, Nat.reduceBEq, f1, f3, hi', hbk]
        refine cloop (fun k t => ∃ i : Nat, i + k = ns.length ∧ t.fr 1 = .ptr h.n 0 ∧ t.fr 19 = .int .i64 (i : Nat) ∧ h.n + 1 ≤ t.hp.n ∧ t.hp.bk h.n = askB l s ns fs ∧ Shrink h t.hp h) ns.length ⟨0, by simp, by simp [fr_apply, f1], by simp [fr_apply], hnn, hbk, hsh⟩ ?_
        rintro k ⟨f, hp⟩ ⟨i, hk, f1, f3, hnn, hbk, hsh⟩
        simp only at f1 f3 hnn hbk hsh
        unfold askB at hbk
        by_cases hi : i < ns.length
        · have hi' : decide ((i : Int) < (ns.length : Int)) = true := decide_eq_true (by omega)
          by_cases h6 : (i : Int) < 20
          · have h6' : decide ((i : Int) < 20) = true := decide_eq_true h6
            have hw : IntKind.i64.wrap ((i : Int) + 1) = ((i + 1 : Nat) : Int) := by rw [wrap64] <;> omega
            have hx : (ns.map (AV.int .i64))[i]? = some (.int .i64 ns[i]) := by simp [hi]
            generalize ns[i] = x at hx
            have hN := fn_wNumber x
            simp only [go_sem, Nat.reduceEqDiff, Nat.reduceAdd, Nat.reduceLeDiff, Nat.reduceLT, ↓reduceIte, reduceCtorEq, Int.reduceLT, Int.reduceToNat, Int.reduceEq, Int.reduceBEq, Int.reduceBNe, Nat.reduceBEq, f1, f3, hi', h6', hbk, hx]
            refine pcall hN (by simp only [go_sem, Nat.reduceEqDiff, Nat.reduceAdd, Nat.reduceLeDiff, Nat.reduceLT, ↓reduceIte, reduceCtorEq, Int.reduceLT, Int.reduceToNat, Int.reduceEq, Int.reduceBEq, Int.reduceBNe, Nat.reduceBEq]) ?_
            cases hm : okN x with
            | false =>
              simp only [go_sem, Nat.reduceEqDiff, Nat.reduceAdd, Nat.reduceLeDiff, Nat.reduceLT, ↓reduceIte, reduceCtorEq, Int.reduceLT, Int.reduceToNat, Int.reduceEq, Int.reduceBEq, Int.reduceBNe, Nat.reduceBEq, f1, f3, hbk]
              refine pcall (fn_num20 1) (by simp only [go_sem, Nat.reduceEqDiff, Nat.reduceAdd, Nat.reduceLeDiff, Nat.reduceLT, ↓reduceIte, reduceCtorEq, Int.reduceLT, Int.reduceToNat, Int.reduceEq, Int.reduceBEq, Int.reduceBNe, Nat.reduceBEq]) ?_
              simp only [go_sem, Nat.reduceEqDiff, Nat.reduceAdd, Nat.reduceLeDiff, Nat.reduceLT, ↓reduceIte, reduceCtorEq, Int.reduceLT, Int.reduceToNat, Int.reduceEq, Int.reduceBEq, Int.reduceBNe, Nat.reduceBEq, f1, f3, hw]
              exact ⟨k - 1, by omega, i + 1, by omega, rfl, hnn, by first | exact hbk | rfl, hsh⟩
            | true =>
              have hT := fn_TakeNumber (vbs (zz x) ++ [122])
              rw [numP_vbs hm] at hT
              simp only [Bool.false_eq_true, if_false] at hT
              have hv : (vbs (zz x)).length ≤ 5 := by
                rw [okN_iff] at hm
                have := vb5 hm.1 hm.2
                unfold vbs; rw [u8_len]; exact this
              have hlen : (vbs (zz x)).length + 1 ≤ 9223372036854775807 := by omega
              have hlen2 : (vbs (zz x)).length ≤ 9223372036854775806 := by omega
              simp only [go_sem, Nat.reduceEqDiff, Nat.reduceAdd, Nat.reduceLeDiff, Nat.reduceLT, ↓reduceIte, reduceCtorEq, Int.reduceLT, Int.reduceToNat, Int.reduceEq, Int.reduceBEq, Int.reduceBNe, Nat.reduceBEq, f1, f3, hbk]
              refine pcall (fn_num20 0) (by simp only [go_sem, Nat.reduceEqDiff, Nat.reduceAdd, Nat.reduceLeDiff, Nat.reduceLT, ↓reduceIte, reduceCtorEq, Int.reduceLT, Int.reduceToNat, Int.reduceEq, Int.reduceBEq, Int.reduceBNe, Nat.reduceBEq]) ?_
              simp only [go_sem, Nat.reduceEqDiff, Nat.reduceAdd, Nat.reduceLeDiff, Nat.reduceLT, ↓reduceIte, reduceCtorEq, Int.reduceLT, Int.reduceToNat, Int.reduceEq, Int.reduceBEq, Int.reduceBNe, Nat.reduceBEq, f1, f3, hbk, hlen, hlen2]
              refine pcall hT (by simp only [go_sem, Nat.reduceEqDiff, Nat.reduceAdd, Nat.reduceLeDiff, Nat.reduceLT, ↓reduceIte, reduceCtorEq, Int.reduceLT, Int.reduceToNat, Int.reduceEq, Int.reduceBEq, Int.reduceBNe, Nat.reduceBEq]) ?_
              simp only [go_sem, Nat.reduceEqDiff, Nat.reduceAdd, Nat.reduceLeDiff, Nat.reduceLT, ↓reduceIte, reduceCtorEq, Int.reduceLT, Int.reduceToNat, Int.reduceEq, Int.reduceBEq, Int.reduceBNe, Nat.reduceBEq, f1, f3, hbk]
              refine pcall (fn_num20 0) (by simp only [go_sem, Nat.reduceEqDiff, Nat.reduceAdd, Nat.reduceLeDiff, Nat.reduceLT, ↓reduceIte, reduceCtorEq, Int.reduceLT, Int.reduceToNat, Int.reduceEq, Int.reduceBEq, Int.reduceBNe, Nat.reduceBEq]) ?_
              simp only [go_sem, Nat.reduceEqDiff, Nat.reduceAdd, Nat.reduceLeDiff, Nat.reduceLT, ↓reduceIte, reduceCtorEq, Int.reduceLT, Int.reduceToNat, Int.reduceEq, Int.reduceBEq, Int.reduceBNe, Nat.reduceBEq, f1, f3, hbk, hx, hw]
              exact ⟨k - 1, by omega, i + 1, by omega, rfl, hnn, by first | exact hbk | rfl, hsh⟩
          · have h6' : decide ((i : Int) < 20) = false := decide_eq_false h6
            simp only [go_sem, Nat.reduceEqDiff, Nat.reduceAdd, Nat.reduceLeDiff, Nat.reduceLT, ↓reduceIte, reduceCtorEq, Int.reduceLT, Int.reduceToNat, Int.reduceEq, Int.reduceBEq, Int.reduceBNe, Nat.reduceBEq, f1, f3, hi', h6', hbk]
            refine pcall fn_wakes20 (by simp only [go_sem, Nat.reduceEqDiff, Nat.reduceAdd, Nat.reduceLeDiff, Nat.reduceLT, ↓reduceIte, reduceCtorEq, Int.reduceLT, Int.reduceToNat, Int.reduceEq, Int.reduceBEq, Int.reduceBNe, Nat.reduceBEq]) ?_
            simp only [go_sem, Nat.reduceEqDiff, Nat.reduceAdd, Nat.reduceLeDiff, Nat.reduceLT, ↓reduceIte, reduceCtorEq, Int.reduceLT, Int.reduceToNat, Int.reduceEq, Int.reduceBEq, Int.reduceBNe, Nat.reduceBEq]
            exact hsh
        · have hi' : decide ((i : Int) < (ns.length : Int)) = false := decide_eq_false (by omega)
          simp only [go_sem, Nat.reduceEqDiff, Nat.reduceAdd, Nat.reduceLeDiff, Nat.reduceLT, ↓reduceIte, reduceCtorEq, Int.reduceLT, Int.reduceToNat, Int.reduceEq, Int.reduceBEq, Int.reduceBNe, Nat.reduceBEq, f1, f3, hi', hbk]
          refine pcall fn_wakes20 (by simp only [go_sem, Nat.reduceEqDiff, Nat.reduceAdd, Nat.reduceLeDiff, Nat.reduceLT, ↓reduceIte, reduceCtorEq, Int.reduceLT, Int.reduceToNat, Int.reduceEq, Int.reduceBEq, Int.reduceBNe, Nat.reduceBEq]) ?_
          simp only [go_sem, Nat.reduceEqDiff, Nat.reduceAdd, Nat.reduceLeDiff, Nat.reduceLT, ↓reduceIte, reduceCtorEq, Int.reduceLT, Int.reduceToNat, Int.reduceEq, Int.reduceBEq, Int.reduceBNe, Nat.reduceBEq]
          exact hsh
  · have hi' : decide ((i : Int) < (fs.length : Int)) = false := decide_eq_false (by omega)
    simp only [go_sem, Nat.reduceEqDiff, Nat.reduceAdd, Nat.reduceLeDiff, Nat.reduceLT, ↓reduceIte, reduceCtorEq, Int.reduceLT, Int.reduceToNat, Int.reduceEq, Int.reduceBEq, Int.reduceBNe, Nat.reduceBEq, f1, f3, hi', hbk]
    refine cloop (fun k t => ∃ i : Nat, i + k = s.length ∧ t.fr 1 = .ptr h.n 0 ∧ t.fr 13 = .int .i64 (i : Nat) ∧ h.n + 1 ≤ t.hp.n ∧ t.hp.bk h.n = askB l s ns fs ∧ Shrink h t.hp h) s.length ⟨0, by simp, by simp [fr_apply, f1], by simp [fr_apply], hnn, hbk, hsh⟩ ?_
    rintro k ⟨f, hp⟩ ⟨i, hk, f1, f3, hnn, hbk, hsh⟩
    simp only at f1 f3 hnn hbk hsh
    unfold askB at hbk
    by_cases hi : i < s.length
    · have hi' : decide ((i : Int) < (s.length : Int)) = true := decide_eq_true (by omega)
      by_cases h6 : (i : Int) < 6
      · have h6' : decide ((i : Int) < 6) = true := decide_eq_true h6
        have hw : IntKind.i64.wrap ((i : Int) + 1) = ((i + 1 : Nat) : Int) := by rw [wrap64] <;> omega
        have hx := getStr hi
        have hxl := hsl _ (List.getElem_mem hi)
        generalize s[i] = x at hx hxl
        have hW := fn_wTakeF x
        have hI := okTk_inv (s := x)
        have n1 : ¬ h.n = hp.n := by omega
        have n2 : ¬ hp.n = h.n := by omega
        have hsn : h.n ≤ hp.n := by omega
        have hsg := shrink_grow (n := hp.n + 1) hsh (by omega)
        simp only [go_sem, Nat.reduceEqDiff, Nat.reduceAdd, Nat.reduceLeDiff, Nat.reduceLT, ↓reduceIte, reduceCtorEq, Int.reduceLT, Int.reduceToNat, Int.reduceEq, Int.reduceBEq, Int.reduceBNe, Nat.reduceBEq, f1, f3, hi', h6', hbk, hx]
        refine pcall hW (by simp only [go_sem, Nat.reduceEqDiff, Nat.reduceAdd, Nat.reduceLeDiff, Nat.reduceLT, ↓reduceIte, reduceCtorEq, Int.reduceLT, Int.reduceToNat, Int.reduceEq, Int.reduceBEq, Int.reduceBNe, Nat.reduceBEq]) ?_
        cases hm : okTk x with
        | false =>
          unfold fr0
          simp only [go_sem, Nat.reduceEqDiff, Nat.reduceAdd, Nat.reduceLeDiff, Nat.reduceLT, ↓reduceIte, reduceCtorEq, Int.reduceLT, Int.reduceToNat, Int.reduceEq, Int.reduceBEq, Int.reduceBNe, Nat.reduceBEq, f1, f3, n1, n2, hbk]
          refine pcall (fn_num20 4) (by simp only [go_sem, Nat.reduceEqDiff, Nat.reduceAdd, Nat.reduceLeDiff, Nat.reduceLT, ↓reduceIte, reduceCtorEq, Int.reduceLT, Int.reduceToNat, Int.reduceEq, Int.reduceBEq, Int.reduceBNe, Nat.reduceBEq]) ?_
          simp only [go_sem, Nat.reduceEqDiff, Nat.reduceAdd, Nat.reduceLeDiff, Nat.reduceLT, ↓reduceIte, reduceCtorEq, Int.reduceLT, Int.reduceToNat, Int.reduceEq, Int.reduceBEq, Int.reduceBNe, Nat.reduceBEq, f1, f3, n1, n2, hw]
          exact ⟨k - 1, by omega, i + 1, by omega, rfl, by omega, by simp [n1, hbk, askB], by simp [shrink_upd, hsg, hsn]⟩
        | true =>
          obtain ⟨gk, gt, ga, gb, gn, hok, hto, e1, e2⟩ := hI hm
          have hF := fn_wFrame gk gt ga gb gn hto
          rw [hok] at hF
          simp only [if_true] at hF
          have hF' : PFn Try.prog 49 [frF gk gt ga gb gn] (.tup [.str (frS gk gt ga gb gn), .int .i64 0]) := by
            refine pfn_fk ?_
            simp only [List.map_cons, List.map_nil, fk_frF]
            exact hF
          rw [e1]
          clear hW hI hF hm e1
          generalize (lenR x).2.1 = rest at *
          generalize frS gk gt ga gb gn = S at *
          subst e2
          simp only [List.length_append] at hxl
          obtain ⟨tk, tn, tv, tl⟩ := gt
          unfold frF at hF' ⊢
          simp only at hF' ⊢
          have hlen : S.length + rest.length ≤ 9223372036854775807 := by omega
          simp only [go_sem, Nat.reduceEqDiff, Nat.reduceAdd, Nat.reduceLeDiff, Nat.reduceLT, ↓reduceIte, reduceCtorEq, Int.reduceLT, Int.reduceToNat, Int.reduceEq, Int.reduceBEq, Int.reduceBNe, Nat.reduceBEq, f1, f3, n1, n2, hbk]
          refine pcall (fn_num20 0) (by simp only [go_sem, Nat.reduceEqDiff, Nat.reduceAdd, Nat.reduceLeDiff, Nat.reduceLT, ↓reduceIte, reduceCtorEq, Int.reduceLT, Int.reduceToNat, Int.reduceEq, Int.reduceBEq, Int.reduceBNe, Nat.reduceBEq]) ?_
          simp only [go_sem, Nat.reduceEqDiff, Nat.reduceAdd, Nat.reduceLeDiff, Nat.reduceLT, ↓reduceIte, reduceCtorEq, Int.reduceLT, Int.reduceToNat, Int.reduceEq, Int.reduceBEq, Int.reduceBNe, Nat.reduceBEq, f1, f3, n1, n2, hbk]
          refine pcall hF' (by simp only [go_sem, Nat.reduceEqDiff, Nat.reduceAdd, Nat.reduceLeDiff, Nat.reduceLT, ↓reduceIte, reduceCtorEq, Int.reduceLT, Int.reduceToNat, Int.reduceEq, Int.reduceBEq, Int.reduceBNe, Nat.reduceBEq]) ?_
          simp only [go_sem, Nat.reduceEqDiff, Nat.reduceAdd, Nat.reduceLeDiff, Nat.reduceLT, ↓reduceIte, reduceCtorEq, Int.reduceLT, Int.reduceToNat, Int.reduceEq, Int.reduceBEq, Int.reduceBNe, Nat.reduceBEq, f1, f3, n1, n2, hbk]
          refine pcall (fn_num20 0) (by simp only [go_sem, Nat.reduceEqDiff, Nat.reduceAdd, Nat.reduceLeDiff, Nat.reduceLT, ↓reduceIte, reduceCtorEq, Int.reduceLT, Int.reduceToNat, Int.reduceEq, Int.reduceBEq, Int.reduceBNe, Nat.reduceBEq]) ?_
          simp only [go_sem, Nat.reduceEqDiff, Nat.reduceAdd, Nat.reduceLeDiff, Nat.reduceLT, ↓reduceIte, reduceCtorEq, Int.reduceLT, Int.reduceToNat, Int.reduceEq, Int.reduceBEq, Int.reduceBNe, Nat.reduceBEq, f1, f3, n1, n2, hbk, hx, hlen, hw]
          exact ⟨k - 1, by omega, i + 1, by omega, rfl, by omega, by simp [n1, hbk, askB], by simp [shrink_upd, hsg, hsn]⟩
      · have h6' : decide ((i : Int) < 6) = false := decide_eq_false h6
        simp only [go_sem, Nat.reduceEqDiff, Nat.reduceAdd, Nat.reduceLeDiff, Nat.reduceLT, ↓reduceIte, reduceCtorEq, Int.reduceLT, Int.reduceToNat, Int.reduceEq, Int.reduceBEq, Int.reduceBNe, Nat.reduceBEq, f1, f3, hi', h6', hbk]
        refine cloop (fun k t => ∃ i : Nat, i + k = ns.length ∧ t.fr 1 = .ptr h.n 0 ∧ t.fr 19 = .int .i64 (i : Nat) ∧ h.n + 1 ≤ t.hp.n ∧ t.hp.bk h.n = askB l s ns fs ∧ Shrink h t.hp h) ns.length ⟨0, by simp, by simp [fr_apply, f1], by simp [fr_apply], hnn, hbk, hsh⟩ ?_
        rintro k ⟨f, hp⟩ ⟨i, hk, f1, f3, hnn, hbk, hsh⟩
        simp only at f1 f3 hnn hbk hsh
        unfold askB at hbk
        by_cases hi : i < ns.length
        · have hi' : decide ((i : Int) < (ns.length : Int)) = true := decide_eq_true (by omega)
          by_cases h6 : (i : Int) < 20
          · have h6' : decide ((i : Int) < 20) = true := decide_eq_true h6
            have hw : IntKind.i64.wrap ((i : Int) + 1) = ((i + 1 : Nat) : Int) := by rw [wrap64] <;> omega
            have hx : (ns.map (AV.int .i64))[i]? = some (.int .i64 ns[i]) := by simp [hi]
            generalize ns[i] = x at hx
            have hN := fn_wNumber x
            simp only [go_sem, Nat.reduceEqDiff, Nat.reduceAdd, Nat.reduceLeDiff, Nat.reduceLT, ↓reduceIte, reduceCtorEq, Int.reduceLT, Int.reduceToNat, Int.reduceEq, Int.reduceBEq, Int.reduceBNe, Nat.reduceBEq, f1, f3, hi', h6', hbk, hx]
            refine pcall hN (by simp only [go_sem, Nat.reduceEqDiff, Nat.reduceAdd, Nat.reduceLeDiff, Nat.reduceLT, ↓reduceIte, reduceCtorEq, Int.reduceLT, Int.reduceToNat, Int.reduceEq, Int.reduceBEq, Int.reduceBNe, Nat.reduceBEq]) ?_
            cases hm : okN x with
            | false =>
              simp only [go_sem, Nat.reduceEqDiff, Nat.reduceAdd, Nat.reduceLeDiff, Nat.reduceLT, ↓reduceIte, reduceCtorEq, Int.reduceLT, Int.reduceToNat, Int.reduceEq, Int.reduceBEq, Int.reduceBNe, Nat.reduceBEq, f1, f3, hbk]
              refine pcall (fn_num20 1) (by simp only [go_sem, Nat.reduceEqDiff, Nat.reduceAdd, Nat.reduceLeDiff, Nat.reduceLT, ↓reduceIte, reduceCtorEq, Int.reduceLT, Int.reduceToNat, Int.reduceEq, Int.reduceBEq, Int.reduceBNe, Nat.reduceBEq]) ?_
              simp only [go_sem, Nat.reduceEqDiff, Nat.reduceAdd, Nat.reduceLeDiff, Nat.reduceLT, ↓reduceIte, reduceCtorEq, Int.reduceLT, Int.reduceToNat, Int.reduceEq, Int.reduceBEq, Int.reduceBNe, Nat.reduceBEq, f1, f3, hw]
              exact ⟨k - 1, by omega, i + 1, by omega, rfl, hnn, by first | exact hbk | rfl, hsh⟩
            | true =>
              have hT := fn_TakeNumber (vbs (zz x) ++ [122])
              rw [numP_vbs hm] at hT
              simp only [Bool.false_eq_true, if_false] at hT
              have hv : (vbs (zz x)).length ≤ 5 := by
                rw [okN_iff] at hm
                have := vb5 hm.1 hm.2
                unfold vbs; rw [u8_len]; exact this
              have hlen : (vbs (zz x)).length + 1 ≤ 9223372036854775807 := by omega
              have hlen2 : (vbs (zz x)).length ≤ 9223372036854775806 := by omega
              simp only [go_sem, Nat.reduceEqDiff, Nat.reduceAdd, Nat.reduceLeDiff, Nat.reduceLT, ↓reduceIte, reduceCtorEq, Int.reduceLT, Int.reduceToNat, Int.reduceEq, Int.reduceBEq, Int.reduceBNe, Nat.reduceBEq, f1, f3, hbk]
              refine pcall (fn_num20 0) (by simp only [go_sem, Nat.reduceEqDiff, Nat.reduceAdd, Nat.reduceLeDiff, Nat.reduceLT, ↓reduceIte, reduceCtorEq, Int.reduceLT, Int.reduceToNat, Int.reduceEq, Int.reduceBEq, Int.reduceBNe, Nat.reduceBEq]) ?_
              simp only [go_sem, Nat.reduceEqDiff, Nat.reduceAdd, Nat.reduceLeDiff, Nat.reduceLT, ↓reduceIte, reduceCtorEq, Int.reduceLT, Int.reduceToNat, Int.reduceEq, Int.reduceBEq, Int.reduceBNe, Nat.reduceBEq, f1, f3, hbk, hlen, hlen2]
              refine pcall hT (by simp only [go_sem, Nat.reduceEqDiff, Nat.reduceAdd, Nat.reduceLeDiff, Nat.reduceLT, ↓reduceIte, reduceCtorEq, Int.reduceLT, Int.reduceToNat, Int.reduceEq, Int.reduceBEq, Int.reduceBNe, Nat.reduceBEq]) ?_
              simp only [go_sem, Nat.reduceEqDiff, Nat.reduceAdd, Nat.reduceLeDiff, Nat.reduceLT, ↓reduceIte, reduceCtorEq, Int.reduceLT, Int.reduceToNat, Int.reduceEq, Int.reduceBEq, Int.reduceBNe, Nat.reduceBEq, f1, f3, hbk]
              refine pcall (fn_num20 0) (by simp only [go_sem, Nat.reduceEqDiff, Nat.reduceAdd, Nat.reduceLeDiff, Nat.reduceLT, ↓reduceIte, reduceCtorEq, Int.reduceLT, Int.reduceToNat, Int.reduceEq, Int.reduceBEq, Int.reduceBNe, Nat.reduceBEq]) ?_
              simp only [go_sem, Nat.reduceEqDiff, Nat.reduceAdd, Nat.reduceLeDiff, Nat.reduceLT, ↓reduceIte, reduceCtorEq, Int.reduceLT, Int.reduceToNat, Int.reduceEq, Int.reduceBEq, Int.reduceBNe, Nat.reduceBEq, f1, f3, hbk, hx, hw]
              exact ⟨k - 1, by omega, i + 1, by omega, rfl, hnn, by first | exact hbk | rfl, hsh⟩
          · have h6' : decide ((i : Int) < 20) = false := decide_eq_false h6
            simp only [go_sem, Nat.reduceEqDiff, Nat.reduceAdd, Nat.reduceLeDiff, Nat.reduceLT, ↓reduceIte, reduceCtorEq, Int.reduceLT, Int.reduceToNat, Int.reduceEq, Int.reduceBEq, Int.reduceBNe, Nat.reduceBEq, f1, f3, hi', h6', hbk]
            refine pcall fn_wakes20 (by simp only [go_sem, Nat.reduceEqDiff, Nat.reduceAdd, Nat.reduceLeDiff, Nat.reduceLT, ↓reduceIte, reduceCtorEq, Int.reduceLT, Int.reduceToNat, Int.reduceEq, Int.reduceBEq, Int.reduceBNe, Nat.reduceBEq]) ?_
            simp only [go_sem, Nat.reduceEqDiff, Nat.reduceAdd, Nat.reduceLeDiff, Nat.reduceLT, ↓reduceIte, reduceCtorEq, Int.reduceLT, Int.reduceToNat, Int.reduceEq, Int.reduceBEq, Int.reduceBNe, Nat.reduceBEq]
            exact hsh
        · have hi' : decide ((i : Int) < (ns.length : Int)) = false := decide_eq_false (by omega)
          simp only [go_sem, Nat.reduceEqDiff, Nat.reduceAdd, Nat.reduceLeDiff, Nat.reduceLT, ↓reduceIte, reduceCtorEq, Int.reduceLT, Int.reduceToNat, Int.reduceEq, Int.reduceBEq, Int.reduceBNe, Nat.reduceBEq, f1, f3, hi', hbk]
          refine pcall fn_wakes20 (by simp only [go_sem, Nat.reduceEqDiff, Nat.reduceAdd, Nat.reduceLeDiff, Nat.reduceLT, ↓reduceIte, reduceCtorEq, Int.reduceLT, Int.reduceToNat, Int.reduceEq, Int.reduceBEq, Int.reduceBNe, Nat.reduceBEq]) ?_
          simp only [go_sem, Nat.reduceEqDiff, Nat.reduceAdd, Nat.reduceLeDiff, Nat.reduceLT, ↓reduceIte, reduceCtorEq, Int.reduceLT, Int.reduceToNat, Int.reduceEq, Int.reduceBEq, Int.reduceBNe, Nat.reduceBEq]
          exact hsh
    · have hi' : decide ((i : Int) < (s.length : Int)) = false := decide_eq_false (by omega)
      simp only [go_sem, Nat.reduceEqDiff, Nat.reduceAdd, Nat.reduceLeDiff, Nat.reduceLT, ↓reduceIte, reduceCtorEq, Int.reduceLT, Int.reduceToNat, Int.reduceEq, Int.reduceBEq, Int.reduceBNe, Nat.reduceBEq, f1, f3, hi', hbk]
      refine cloop (fun k t => ∃ i : Nat, i + k = ns.length ∧ t.fr 1 = .ptr h.n 0 ∧ t.fr 19 = .int .i64 (i : Nat) ∧ h.n + 1 ≤ t.hp.n ∧ t.hp.bk h.n = askB l s ns fs ∧ Shrink h t.hp h) ns.length ⟨0, by simp, by simp [fr_apply, f1], by simp [fr_apply], hnn, hbk, hsh⟩ ?_
      rintro k ⟨f, hp⟩ ⟨i, hk, f1, f3, hnn, hbk, hsh⟩
      simp only at f1 f3 hnn hbk hsh
      unfold askB at hbk
      by_cases hi : i < ns.length
      · have hi' : decide ((i : Int) < (ns.length : Int)) = true := decide_eq_true (by omega)
        by_cases h6 : (i : Int) < 20
        · have h6' : decide ((i : Int) < 20) = true := decide_eq_true h6
          have hw : IntKind.i64.wrap ((i : Int) + 1) = ((i + 1 : Nat) : Int) := by rw [wrap64] <;> omega
          have hx : (ns.map (AV.int .i64))[i]? = some (.int .i64 ns[i]) := by simp [hi]
          generalize ns[i] = x at hx
          have hN := fn_wNumber x
          simp only [go_sem, Nat.reduceEqDiff, Nat.reduceAdd, Nat.reduceLeDiff, Nat.reduceLT, ↓reduceIte, reduceCtorEq, Int.reduceLT, Int.reduceToNat, Int.reduceEq, Int.reduceBEq, Int.reduceBNe, Nat.reduceBEq, f1, f3, hi', h6', hbk, hx]
          refine pcall hN (by simp only [go_sem, Nat.reduceEqDiff, Nat.reduceAdd, Nat.reduceLeDiff, Nat.reduceLT, ↓reduceIte, reduceCtorEq, Int.reduceLT, Int.reduceToNat, Int.reduceEq, Int.reduceBEq, Int.reduceBNe, Nat.reduceBEq]) ?_
          cases hm : okN x with
          | false =>
            simp only [go_sem, Nat.reduceEqDiff, Nat.reduceAdd, Nat.reduceLeDiff, Nat.reduceLT, ↓reduceIte, reduceCtorEq, Int.reduceLT, Int.reduceToNat, Int.reduceEq, Int.reduceBEq, Int.reduceBNe, Nat.reduceBEq, f1, f3, hbk]
            refine pcall (fn_num20 1) (by simp only [go_sem, Nat.reduceEqDiff, Nat.reduceAdd, Nat.reduceLeDiff, Nat.reduceLT, ↓reduceIte, reduceCtorEq, Int.reduceLT, Int.reduceToNat, Int.reduceEq, Int.reduceBEq, Int.reduceBNe, Nat.reduceBEq]) ?_
            simp only [go_sem, Nat.reduceEqDiff, Nat.reduceAdd, Nat.reduceLeDiff, Nat.reduceLT, ↓reduceIte, reduceCtorEq, Int.reduceLT, Int.reduceToNat, Int.reduceEq, Int.reduceBEq, Int.reduceBNe, Nat.reduceBEq, f1, f3, hw]
            exact ⟨k - 1, by omega, i + 1, by omega, rfl, hnn, by first | exact hbk | rfl, hsh⟩
          | true =>
            have hT := fn_TakeNumber (vbs (zz x) ++ [122])
            rw [numP_vbs hm] at hT
            simp only [Bool.false_eq_true, if_false] at hT
            have hv : (vbs (zz x)).length ≤ 5 := by
              rw [okN_iff] at hm
              have := vb5 hm.1 hm.2
              unfold vbs; rw [u8_len]; exact this
            have hlen : (vbs (zz x)).length + 1 ≤ 9223372036854775807 := by omega
            have hlen2 : (vbs (zz x)).length ≤ 9223372036854775806 := by omega
            simp only [go_sem, Nat.reduceEqDiff, Nat.reduceAdd, Nat.reduceLeDiff, Nat.reduceLT, ↓reduceIte, reduceCtorEq, Int.reduceLT, Int.reduceToNat, Int.reduceEq, Int.reduceBEq, Int.reduceBNe, Nat.reduceBEq, f1, f3, hbk]
            refine pcall (fn_num20 0) (by simp only [go_sem, Nat.reduceEqDiff, Nat.reduceAdd, Nat.reduceLeDiff, Nat.reduceLT, ↓reduceIte, reduceCtorEq, Int.reduceLT, Int.reduceToNat, Int.reduceEq, Int.reduceBEq, Int.reduceBNe, Nat.reduceBEq]) ?_
            simp only [go_sem, Nat.reduceEqDiff, Nat.reduceAdd, Nat.reduceLeDiff, Nat.reduceLT, ↓reduceIte, reduceCtorEq, Int.reduceLT, Int.reduceToNat, Int.reduceEq, Int.reduceBEq, Int.reduceBNe, Nat.reduceBEq, f1, f3, hbk, hlen, hlen2]
            refine pcall hT (by simp only [go_sem, Nat.reduceEqDiff, Nat.reduceAdd, Nat.reduceLeDiff, Nat.reduceLT, ↓reduceIte, reduceCtorEq, Int.reduceLT, Int.reduceToNat, Int.reduceEq, Int.reduceBEq, Int.reduceBNe, Nat.reduceBEq]) ?_
            simp only [go_sem, Nat.reduceEqDiff, Nat.reduceAdd, Nat.reduceLeDiff, Nat.reduceLT, ↓reduceIte, reduceCtorEq, Int.reduceLT, Int.reduceToNat, Int.reduceEq, Int.reduceBEq, Int.reduceBNe, Nat.reduceBEq, f1, f3, hbk]
            refine pcall (fn_num20 0) (by simp only [go_sem, Nat.reduceEqDiff, Nat.reduceAdd, Nat.reduceLeDiff, Nat.reduceLT, ↓reduceIte, reduceCtorEq, Int.reduceLT, Int.reduceToNat, Int.reduceEq, Int.reduceBEq, Int.reduceBNe, Nat.reduceBEq]) ?_
            simp only [go_sem, Nat.reduceEqDiff, Nat.reduceAdd, Nat.reduceLeDiff, Nat.reduceLT, ↓reduceIte, reduceCtorEq, Int.reduceLT, Int.reduceToNat, Int.reduceEq, Int.reduceBEq, Int.reduceBNe, Nat.reduceBEq, f1, f3, hbk, hx, hw]
            exact ⟨k - 1, by omega, i + 1, by omega, rfl, hnn, by first | exact hbk | rfl, hsh⟩
        · have h6' : decide ((i : Int) < 20) = false := decide_eq_false h6
          simp only [go_sem, Nat.reduceEqDiff, Nat.reduceAdd, Nat.reduceLeDiff, Nat.reduceLT, ↓reduceIte, reduceCtorEq, Int.reduceLT, Int.reduceToNat, Int.reduceEq, Int.reduceBEq, Int.reduceBNe, Nat.reduceBEq, f1, f3, hi', h6', hbk]
          refine pcall fn_wakes20 (by simp only [go_sem, Nat.reduceEqDiff, Nat.reduceAdd, Nat.reduceLeDiff, Nat.reduceLT, ↓reduceIte, reduceCtorEq, Int.reduceLT, Int.reduceToNat, Int.reduceEq, Int.reduceBEq, Int.reduceBNe, Nat.reduceBEq]) ?_
          simp only [go_sem, Nat.reduceEqDiff, Nat.reduceAdd, Nat.reduceLeDiff, Nat.reduceLT, ↓reduceIte, reduceCtorEq, Int.reduceLT, Int.reduceToNat, Int.reduceEq, Int.reduceBEq, Int.reduceBNe, Nat.reduceBEq]
          exact hsh
      · have hi' : decide ((i : Int) < (ns.length : Int)) = false := decide_eq_false (by omega)
        simp only [go_sem, Nat.reduceEqDiff, Nat.reduceAdd, Nat.reduceLeDiff, Nat.reduceLT, ↓reduceIte, reduceCtorEq, Int.reduceLT, Int.reduceToNat, Int.reduceEq, Int.reduceBEq, Int.reduceBNe, Nat.reduceBEq, f1, f3, hi', hbk]
        refine pcall fn_wakes20 (by simp only [go_sem, Nat.reduceEqDiff, Nat.reduceAdd, Nat.reduceLeDiff, Nat.reduceLT, ↓reduceIte, reduceCtorEq, Int.reduceLT, Int.reduceToNat, Int.reduceEq, Int.reduceBEq, Int.reduceBNe, Nat.reduceBEq]) ?_
        simp only [go_sem, Nat.reduceEqDiff, Nat.reduceAdd, Nat.reduceLeDiff, Nat.reduceLT, ↓reduceIte, reduceCtorEq, Int.reduceLT, Int.reduceToNat, Int.reduceEq, Int.reduceBEq, Int.reduceBNe, Nat.reduceBEq]
        exact hsh
end Go.Proofs.Ythaoooohomfkcaa.Ab
