/- The layer of words: what its statements share. No condition. -/
import Derived.Test.YtnibelnjflhkgaaDoorLx9
namespace Go.Proofs.YtnibelnjflhkgaaDoor.Ab
set_option linter.unusedVariables false
set_option linter.unusedSimpArgs false
set_option maxRecDepth 10000
attribute [local go_sem] decide_true decide_false Nat.zero_le Bool.not_true Bool.not_false Bool.false_eq_true if_false if_true forall_const true_and and_true List.map Option.map Bool.and_self Bool.and_true Bool.true_and Bool.false_and Bool.and_false List.getElem?_cons_zero List.getElem?_nil List.getElem?_cons_succ Int.natCast_nonneg Int.toNat_natCast List.length_map List.length_cons List.length_nil Nat.zero_add Nat.le_refl List.drop_zero List.drop_succ_cons List.take_succ_cons List.take_zero List.take_nil ne_eq not_true_eq_false not_false_eq_true upd_same Nat.add_assoc Nat.left_eq_add Nat.add_eq_left Nat.add_left_cancel_iff Nat.succ_ne_self Nat.one_ne_zero Nat.add_zero Nat.le_add_right ite_self List.set_cons_zero List.set_cons_succ List.all_cons List.all_nil bne_self_eq_false List.isEmpty_cons Int.cast_ofNat_Int Nat.mul_one List.nil_append or_self or_true true_or List.cons_append List.append_nil Option.none_beq_some Option.some_beq_some beq_self_eq_true
theorem c10 : compF Tryd.prog ow Tryd.f10 = (some (4, ([(.t 2)], (.seq (.ops [(none, (.set 2 (.int .i64 0)))]) (.seq (.ops [(none, (.mv 3 0)), (none, (.mv 2 3))]) .ret))))) := by kernel_rfl
theorem c7 : compF Tryd.prog ow Tryd.f7 = (some (7, ([(.t 2)], (.seq (.ops [(none, (.box 1 (.t 0))), (none, (.set 2 (.bool false)))]) (.seq (.ops [(none, (.fa (some 3) (.t 1) 0)), (none, (.ld (some 4) (.t 3) (.one (some 1)))), (none, (.call (some 5) (.k (.func 23 [] [])) [(.t 4)] none)), (none, (.bin (some 6) .gtr (.t 5) (.k (.int .i64 9000)) false false)), (none, (.mv 2 6))]) .ret))))) := by kernel_rfl
theorem c12 : compF Tryd.prog ow Tryd.f12 = (some (31, ([(.t 0)], (.seq (.ops [(none, (.set 0 (.bool false)))]) (.seq (.ops [(none, (.call (some 5) (.k (.func 8 [] [])) [(.k (.str [102, 40, 88, 41]))] none)), (none, (.cp 4 5)), (none, (.ext (some 6) (.t 4) 0)), (none, (.ext (some 7) (.t 4) 1)), (none, (.ext (some 8) (.t 4) 2)), (none, (.mv 1 6)), (none, (.mv 2 7)), (none, (.mv 3 8))]) (.seq (.ops [(none, (.cp 9 3)), (none, (.call (some 10) (.k (.func 10 [] [])) [(.t 9)] none)), (none, (.bin (some 11) .eql (.t 10) (.k (.int .i64 0)) false false)), (none, (.cp 12 11)), ((some (12, true)), (.cp 13 1)), ((some (12, true)), (.len (some 14) (.t 13) false true)), ((some (12, true)), (.bin (some 15) .eql (.t 14) (.k (.int .i64 5)) false false)), (none, (.pick (some 16) (.t 12) (.t 15) (.k (.bool false)))), (none, (.cp 17 16)), ((some (17, true)), (.cp 18 1)), ((some (17, true)), (.ia (some 19) (.t 18) (.k (.int .i64 2)) (some 4) none)), ((some (17, true)), (.fa (some 20) (.t 19) 1)), ((some (17, true)), (.ld (some 21) (.t 20) (.one none))), ((some (17, true)), (.bin (some 22) .eql (.t 21) (.k (.str [88])) false false)), (none, (.pick (some 23) (.t 17) (.t 22) (.k (.bool false)))), (none, (.cp 24 23)), ((some (24, true)), (.cp 25 1)), ((some (24, true)), (.ia (some 26) (.t 25) (.k (.int .i64 4)) (some 4) none)), ((some (24, true)), (.fa (some 27) (.t 26) 0)), ((some (24, true)), (.ld (some 28) (.t 27) (.one none))), ((some (24, true)), (.bin (some 29) .eql (.t 28) (.k (.int .i64 5)) false false)), (none, (.pick (some 30) (.t 24) (.t 29) (.k (.bool false)))), (none, (.mv 0 30))]) .ret)))))) := by kernel_rfl
theorem c23 : compF Tryd.prog ow Tryd.f23 = (some (25, ([(.t 2)], (.seq (.ops [(none, (.set 2 (.int .i64 0)))]) (.seq (.ops [(none, (.cp 5 0)), (none, (.len (some 6) (.t 5) false true)), (none, (.mv 3 6))]) (.seq (.seq (.ops [(none, (.set 4 (.int .i64 0)))]) (.block 0 (.loop (.seq (.seq (.ops [(none, (.cp 7 4)), (none, (.cp 8 0)), (none, (.len (some 9) (.t 8) false true)), (none, (.bin (some 10) .lss (.t 7) (.t 9) false false)), (none, (.cp 11 10)), ((some (11, true)), (.cp 12 3)), ((some (11, true)), (.bin (some 13) .lss (.t 12) (.k (.int .i64 1048576)) false false)), (none, (.pick (some 14) (.t 11) (.t 13) (.k (.bool false))))]) (.cond (.t 14) .skip (.exit 0))) (.seq (.block 1 (.ops [(none, (.cp 17 3)), (none, (.cp 18 0)), (none, (.cp 19 4)), (none, (.ia (some 20) (.t 18) (.t 19) (some 1) none)), (none, (.ld (some 21) (.t 20) (.one none))), (none, (.len (some 22) (.t 21) true false)), (none, (.bin (some 23) .add (.t 17) (.t 22) false false)), (none, (.mv 3 23))])) (.ops [(none, (.cp 15 4)), (none, (.bin (some 16) .add (.t 15) (.k (.int .i64 1)) false false)), (none, (.mv 4 16))])))))) (.seq (.ops [(none, (.mv 24 3)), (none, (.mv 2 24))]) .ret))))))) := by kernel_rfl
theorem c11 : compF Tryd.prog ow Tryd.f11 = (some (26, ([(.t 4)], (.seq (.ops [(none, (.set 4 (.bool false)))]) (.seq (.seq (.ops [(none, (.cp 6 0)), (none, (.len (some 7) (.t 6) false true)), (none, (.cp 8 1)), (none, (.len (some 9) (.t 8) false true)), (none, (.bin (some 10) .neq (.t 7) (.t 9) false false))]) (.cond (.t 10) (.seq (.ops [(none, (.set 4 (.bool false)))]) .ret) .skip)) (.seq (.seq (.ops [(none, (.set 5 (.int .i64 0)))]) (.block 0 (.loop (.seq (.seq (.ops [(none, (.cp 11 5)), (none, (.cp 12 0)), (none, (.len (some 13) (.t 12) false true)), (none, (.bin (some 14) .lss (.t 11) (.t 13) false false))]) (.cond (.t 14) .skip (.exit 0))) (.seq (.block 1 (.seq (.opsD [(none, (.cp 17 0)), (none, (.cp 18 5)), (none, (.ia (some 19) (.t 17) (.t 18) (some 4) none)), (none, (.ld (some 20) (.t 19) (.agg 4))), (none, (.cp 21 1)), (none, (.cp 22 5)), (none, (.ia (some 23) (.t 21) (.t 22) (some 4) none)), (none, (.ld (some 24) (.t 23) (.agg 4))), (none, (.x (some 25) (.eqs true [(.i .i64), .s, (.i .i64), (.i .i64)]) [(.t 20), (.t 24)]))]) (.cond (.t 25) (.seq (.ops [(none, (.set 4 (.bool false)))]) .ret) .skip))) (.ops [(none, (.cp 15 5)), (none, (.bin (some 16) .add (.t 15) (.k (.int .i64 1)) false false)), (none, (.mv 5 16))])))))) (.seq (.ops [(none, (.set 4 (.bool true)))]) .ret))))))) := by kernel_rfl
theorem fn4_num (e : Int) : PFn Tryd.prog 10 [.int .i64 e] (.int .i64 e) := by
  intro h
  refine fnC mixed Tryd.func10 c10 (by simp) ?_
  simp only [go_sem, Nat.reduceEqDiff, Nat.reduceAdd, Nat.reduceLeDiff, Nat.reduceLT, ↓reduceIte, reduceCtorEq, Int.reduceLT, Int.reduceToNat, Int.reduceEq, Int.reduceBEq, Int.reduceBNe, Nat.reduceBEq]
def txtF : Nat → List (List UInt8) → Nat
  | t, [] => t
  | t, x :: xs => if t < 1048576 then txtF (t + x.length) xs else t
theorem txtF_ge : ∀ (xs : List (List UInt8)) (t : Nat), t ≤ txtF t xs
  | [], t => Nat.le_refl _
  | x :: xs, t => by
    rw [txtF]; split
    · have := txtF_ge xs (t + x.length); omega
    · exact Nat.le_refl _
theorem txtF_each : ∀ (xs : List (List UInt8)) (t : Nat), txtF t xs < 1048576 → ∀ x ∈ xs, x.length ≤ txtF t xs
  | [], t, _, x, hx => by cases hx
  | y :: xs, t, h, x, hx => by
    rw [txtF] at h ⊢
    split at h
    · rename_i ht
      rw [if_pos ht]
      rcases List.mem_cons.1 hx with rfl | hx
      · have := txtF_ge xs (t + x.length); omega
      · exact txtF_each xs _ h x hx
    · omega
theorem fn0_Texts (xs : List (List UInt8)) (hl : xs.length < 1000000000000000) (hs : ∀ x ∈ xs, x.length ≤ 140737488351232) : PFn Tryd.prog 23 [.sl .sh 1 (xs.map AV.str)] (.int .i64 (txtF xs.length xs : Nat)) := by
  intro h
  refine fnC mixed Tryd.func23 c23 (by simp) ?_
  generalize hR : txtF xs.length xs = R
  simp only [go_sem, Nat.reduceEqDiff, Nat.reduceAdd, Nat.reduceLeDiff, Nat.reduceLT, ↓reduceIte, reduceCtorEq, Int.reduceLT, Int.reduceToNat, Int.reduceEq, Int.reduceBEq, Int.reduceBNe, Nat.reduceBEq]
  refine cloop (fun k t => ∃ i n : Nat, i + k = xs.length ∧ n < 1000000000000000 ∧ t.fr 0 = .sl .sh 1 (xs.map AV.str) ∧ t.fr 3 = .int .i64 (n : Nat) ∧ t.fr 4 = .int .i64 (i : Nat) ∧ txtF n (xs.drop i) = R ∧ t.hp = h) xs.length ⟨0, xs.length, by omega, by omega, by simp [fr_apply, argsF], by simp [fr_apply], by simp [fr_apply], hR, rfl⟩ ?_
  clear hR
  rintro k ⟨F, hp⟩ ⟨i, n, hk, hn, f0, f3, f4, hR, rfl⟩
  simp only at f0 f3 f4
  by_cases hi : i < xs.length
  · have hi' : decide ((i : Int) < (xs.length : Int)) = true := decide_eq_true (by omega)
    have hw : IntKind.i64.wrap ((i : Int) + 1) = ((i + 1 : Nat) : Int) := by rw [wrap64] <;> omega
    have hx : (xs.map AV.str)[i]? = some (.str xs[i]) := by rw [List.getElem?_map, List.getElem?_eq_getElem hi]; rfl
    have hxl := hs xs[i] (List.getElem_mem _)
    rw [List.drop_eq_getElem_cons hi, txtF] at hR
    generalize xs[i] = x at hx hxl hR
    by_cases hb : n < 1048576
    · have hb' : decide ((n : Int) < 1048576) = true := decide_eq_true (by omega)
      have hw2 : IntKind.i64.wrap ((n : Int) + (x.length : Int)) = ((n + x.length : Nat) : Int) := by rw [wrap64] <;> omega
      rw [if_pos hb] at hR
      simp only [go_sem, Nat.reduceEqDiff, Nat.reduceAdd, Nat.reduceLeDiff, Nat.reduceLT, ↓reduceIte, reduceCtorEq, Int.reduceLT, Int.reduceToNat, Int.reduceEq, Int.reduceBEq, Int.reduceBNe, Nat.reduceBEq, f0, f3, f4, hi', hb', hx, hw, hw2]
      exact ⟨k - 1, by omega, i + 1, n + x.length, by omega, by omega, rfl, rfl, hR⟩
    · have hb' : decide ((n : Int) < 1048576) = false := decide_eq_false (by omega)
      rw [if_neg hb] at hR
      subst hR
      simp only [go_sem, Nat.reduceEqDiff, Nat.reduceAdd, Nat.reduceLeDiff, Nat.reduceLT, ↓reduceIte, reduceCtorEq, Int.reduceLT, Int.reduceToNat, Int.reduceEq, Int.reduceBEq, Int.reduceBNe, Nat.reduceBEq, f0, f3, f4, hi', hb']
  · have hi' : decide ((i : Int) < (xs.length : Int)) = false := decide_eq_false (by omega)
    rw [List.drop_eq_nil_of_le (by omega), txtF] at hR
    subst hR
    simp only [go_sem, Nat.reduceEqDiff, Nat.reduceAdd, Nat.reduceLeDiff, Nat.reduceLT, ↓reduceIte, reduceCtorEq, Int.reduceLT, Int.reduceToNat, Int.reduceEq, Int.reduceBEq, Int.reduceBNe, Nat.reduceBEq, f0, f3, f4, hi']
theorem fn4_Heavy (xs : List (List UInt8)) (hl : xs.length < 1000000000000000) (hs : ∀ x ∈ xs, x.length ≤ 140737488351232) : PFn Tryd.prog 7 [.agg [.sl .sh 1 (xs.map AV.str)]] (.bool (decide (txtF xs.length xs > 9000))) := by
  intro h
  have hT := fn0_Texts xs hl hs
  refine fnC mixed Tryd.func7 c7 (by simp) ?_
  generalize txtF xs.length xs = n at *
  have e : decide ((n : Int) > 9000) = decide (n > 9000) := by rw [Bool.eq_iff_iff]; simp; omega
  rw [← e]
  simp only [go_sem, Nat.reduceEqDiff, Nat.reduceAdd, Nat.reduceLeDiff, Nat.reduceLT, ↓reduceIte, reduceCtorEq, Int.reduceLT, Int.reduceToNat, Int.reduceEq, Int.reduceBEq, Int.reduceBNe, Nat.reduceBEq]
  refine pcall hT (by simp only [go_sem, Nat.reduceEqDiff, Nat.reduceAdd, Nat.reduceLeDiff, Nat.reduceLT, ↓reduceIte, reduceCtorEq, Int.reduceLT, Int.reduceToNat, Int.reduceEq, Int.reduceBEq, Int.reduceBNe, Nat.reduceBEq]) ?_
  simp only [go_sem, Nat.reduceEqDiff, Nat.reduceAdd, Nat.reduceLeDiff, Nat.reduceLT, ↓reduceIte, reduceCtorEq, Int.reduceLT, Int.reduceToNat, Int.reduceEq, Int.reduceBEq, Int.reduceBNe, Nat.reduceBEq]
theorem evX_tk (hp : Hp) (k n p : Int) (s : List UInt8) : evX (.eqs true [.i .i64, .s, .i .i64, .i .i64]) hp [.agg [.int .i64 k, .str s, .int .i64 n, .int .i64 p], .agg [.int .i64 k, .str s, .int .i64 n, .int .i64 p]] = some (.bool false, hp) := by
  simp [evX, cellsEq, cellEq]
theorem fn0_EqTokens (l : List Tk) (hl : l.length < 1000000000) : PFn Tryd.prog 11 [.sl (flK l) 4 (l.map Tk.av), .sl (flK l) 4 (l.map Tk.av)] (.bool true) := by
  intro h
  refine fnC mixed Tryd.func11 c11 (by simp) ?_
  have hg : ∃ f, f ≠ Fl.own ∧ f = flK l := ⟨flK l, by cases l <;> simp [flK], rfl⟩
  obtain ⟨f, hf, hfe⟩ := hg
  rw [← hfe]
  cases f with
  | own => exact absurd rfl hf
  | full =>
    have hn : l = [] := by cases l with | nil => rfl | cons _ _ => simp [flK] at hfe
    subst hn
    simp only [go_sem, Nat.reduceEqDiff, Nat.reduceAdd, Nat.reduceLeDiff, Nat.reduceLT, ↓reduceIte, reduceCtorEq, Int.reduceLT, Int.reduceToNat, Int.reduceEq, Int.reduceBEq, Int.reduceBNe, Nat.reduceBEq]
    refine cloop (fun k t => t.fr 0 = .sl .full 4 [] ∧ t.fr 5 = .int .i64 0 ∧ t.hp = h) 0 ⟨by simp [fr_apply, argsF], by simp [fr_apply], rfl⟩ ?_
    rintro k ⟨F, hp⟩ ⟨f0, f5, rfl⟩
    simp only at f0 f5
    simp only [go_sem, Nat.reduceEqDiff, Nat.reduceAdd, Nat.reduceLeDiff, Nat.reduceLT, ↓reduceIte, reduceCtorEq, Int.reduceLT, Int.reduceToNat, Int.reduceEq, Int.reduceBEq, Int.reduceBNe, Nat.reduceBEq, f0, f5, Int.lt_irrefl]
  | sh =>
    simp only [go_sem, Nat.reduceEqDiff, Nat.reduceAdd, Nat.reduceLeDiff, Nat.reduceLT, ↓reduceIte, reduceCtorEq, Int.reduceLT, Int.reduceToNat, Int.reduceEq, Int.reduceBEq, Int.reduceBNe, Nat.reduceBEq]
    refine cloop (fun k t => ∃ i : Nat, i + k = l.length ∧ t.fr 0 = .sl .sh 4 (l.map Tk.av) ∧ t.fr 1 = .sl .sh 4 (l.map Tk.av) ∧ t.fr 5 = .int .i64 (i : Nat) ∧ t.hp = h) l.length ⟨0, by omega, by simp [fr_apply, argsF], by simp [fr_apply, argsF], by simp [fr_apply], rfl⟩ ?_
    rintro k ⟨F, hp⟩ ⟨i, hk, f0, f1, f5, rfl⟩
    simp only at f0 f1 f5
    by_cases hi : i < l.length
    · have hi' : decide ((i : Int) < (l.length : Int)) = true := decide_eq_true (by omega)
      have hw : IntKind.i64.wrap ((i : Int) + 1) = ((i + 1 : Nat) : Int) := by rw [wrap64] <;> omega
      have hx : (l.map Tk.av)[i]? = some (.agg [.int .i64 l[i].k, .str l[i].s, .int .i64 l[i].n, .int .i64 (l[i].p : Nat)]) := by rw [List.getElem?_map, List.getElem?_eq_getElem hi]; rfl
      generalize l[i] = x at hx
      have q := evX_tk hp x.k x.n (x.p : Nat) x.s
      simp only [go_sem, Nat.reduceEqDiff, Nat.reduceAdd, Nat.reduceLeDiff, Nat.reduceLT, ↓reduceIte, reduceCtorEq, Int.reduceLT, Int.reduceToNat, Int.reduceEq, Int.reduceBEq, Int.reduceBNe, Nat.reduceBEq, f0, f1, f5, hi', hx, hw, q]
      exact ⟨k - 1, by omega, i + 1, by omega, rfl⟩
    · have hi' : decide ((i : Int) < (l.length : Int)) = false := decide_eq_false (by omega)
      simp only [go_sem, Nat.reduceEqDiff, Nat.reduceAdd, Nat.reduceLeDiff, Nat.reduceLT, ↓reduceIte, reduceCtorEq, Int.reduceLT, Int.reduceToNat, Int.reduceEq, Int.reduceBEq, Int.reduceBNe, Nat.reduceBEq, f0, f1, f5, hi']
theorem toks_wakes : toks [102, 40, 88, 41] = ([⟨1, [102], 0, 0⟩, ⟨4, [40], 0, 1⟩, ⟨2, [88], 0, 2⟩, ⟨4, [41], 0, 3⟩, ⟨5, [], 0, 4⟩], 0, 0) := by kernel_rfl
theorem fn4_wakes : PFn Tryd.prog 12 [] (.bool true) := by
  intro h
  have hT := fnl_Tokens [102, 40, 88, 41] (by simp)
  rw [toks_wakes] at hT
  have e : ([88] : List UInt8) == [88] := by decide
  have q2 : (0 : Int) ≤ 2 := by decide
  have q4 : (0 : Int) ≤ 4 := by decide
  refine fnC mixed Tryd.func12 c12 (by simp) ?_
  unfold tkA flK Tk.av at hT
  simp only [go_sem, Nat.reduceEqDiff, Nat.reduceAdd, Nat.reduceLeDiff, Nat.reduceLT, ↓reduceIte, reduceCtorEq, Int.reduceLT, Int.reduceToNat, Int.reduceEq, Int.reduceBEq, Int.reduceBNe, Nat.reduceBEq]
  refine pcall hT (by simp only [go_sem, Nat.reduceEqDiff, Nat.reduceAdd, Nat.reduceLeDiff, Nat.reduceLT, ↓reduceIte, reduceCtorEq, Int.reduceLT, Int.reduceToNat, Int.reduceEq, Int.reduceBEq, Int.reduceBNe, Nat.reduceBEq]) ?_
  simp only [go_sem, Nat.reduceEqDiff, Nat.reduceAdd, Nat.reduceLeDiff, Nat.reduceLT, ↓reduceIte, reduceCtorEq, Int.reduceLT, Int.reduceToNat, Int.reduceEq, Int.reduceBEq, Int.reduceBNe, Nat.reduceBEq]
  refine pcall (fn4_num 0) (by simp only [go_sem, Nat.reduceEqDiff, Nat.reduceAdd, Nat.reduceLeDiff, Nat.reduceLT, ↓reduceIte, reduceCtorEq, Int.reduceLT, Int.reduceToNat, Int.reduceEq, Int.reduceBEq, Int.reduceBNe, Nat.reduceBEq]) ?_
  simp only [go_sem, Nat.reduceEqDiff, Nat.reduceAdd, Nat.reduceLeDiff, Nat.reduceLT, ↓reduceIte, reduceCtorEq, Int.reduceLT, Int.reduceToNat, Int.reduceEq, Int.reduceBEq, Int.reduceBNe, Nat.reduceBEq, e, q2, q4]
end Go.Proofs.YtnibelnjflhkgaaDoor.Ab
