/- The statement LexTokens: its walk. No condition. -/
import Derived.Test.YtnibelnjflhkgaaDoorLa0
namespace Go.Proofs.YtnibelnjflhkgaaDoor.Ab
set_option linter.unusedVariables false
set_option linter.unusedSimpArgs false
set_option maxRecDepth 10000
attribute [local go_sem] decide_true decide_false Nat.zero_le Bool.not_true Bool.not_false Bool.false_eq_true if_false if_true forall_const true_and and_true List.map Option.map Bool.and_self Bool.and_true Bool.true_and Bool.false_and Bool.and_false List.getElem?_cons_zero List.getElem?_nil List.getElem?_cons_succ Int.natCast_nonneg Int.toNat_natCast List.length_map List.length_cons List.length_nil Nat.zero_add Nat.le_refl List.drop_zero List.drop_succ_cons List.take_succ_cons List.take_zero List.take_nil ne_eq not_true_eq_false not_false_eq_true upd_same Nat.add_assoc Nat.left_eq_add Nat.add_eq_left Nat.add_left_cancel_iff Nat.succ_ne_self Nat.one_ne_zero Nat.add_zero Nat.le_add_right ite_self List.set_cons_zero List.set_cons_succ List.all_cons List.all_nil bne_self_eq_false List.isEmpty_cons Int.cast_ofNat_Int Nat.mul_one List.nil_append or_self or_true true_or List.cons_append List.append_nil Option.none_beq_some Option.some_beq_some beq_self_eq_true
theorem c3 : compF Tryd.prog ow Tryd.f3 = (some (74, ([(.t 2)], (.seq (.ops [(none, (.box 1 (.t 0))), (none, (.set 2 (.bool false)))]) (.seq (.seq (.ops [(none, (.ld (some 13) (.t 1) (.agg 1))), (none, (.call (some 14) (.k (.func 7 [] [])) [(.t 13)] none))]) (.cond (.t 14) (.seq (.ops [(none, (.set 2 (.bool true)))]) .ret) .skip)) (.seq (.seq (.ops [(none, (.set 3 (.int .i64 0)))]) (.block 0 (.loop (.seq (.seq (.ops [(none, (.cp 15 3)), (none, (.fa (some 16) (.t 1) 0)), (none, (.ld (some 17) (.t 16) (.one (some 1)))), (none, (.len (some 18) (.t 17) false true)), (none, (.bin (some 19) .lss (.t 15) (.t 18) false false)), (none, (.cp 20 19)), ((some (20, true)), (.cp 21 3)), ((some (20, true)), (.bin (some 22) .lss (.t 21) (.k (.int .i64 8)) false false)), (none, (.pick (some 23) (.t 20) (.t 22) (.k (.bool false))))]) (.cond (.t 23) .skip (.exit 0))) (.seq (.block 1 (.seq (.ops [(none, (.fa (some 27) (.t 1) 0)), (none, (.ld (some 28) (.t 27) (.one (some 1)))), (none, (.cp 29 3)), (none, (.ia (some 30) (.t 28) (.t 29) (some 1) none)), (none, (.ld (some 31) (.t 30) (.one none))), (none, (.call (some 32) (.k (.func 8 [] [])) [(.t 31)] none)), (none, (.cp 26 32)), (none, (.ext (some 33) (.t 26) 0)), (none, (.ext (some 34) (.t 26) 1)), (none, (.ext (some 35) (.t 26) 2)), (none, (.mv 4 33)), (none, (.mv 5 34)), (none, (.mv 6 35))]) (.seq (.ops [(none, (.fa (some 37) (.t 1) 0)), (none, (.ld (some 38) (.t 37) (.one (some 1)))), (none, (.cp 39 3)), (none, (.ia (some 40) (.t 38) (.t 39) (some 1) none)), (none, (.ld (some 41) (.t 40) (.one none))), (none, (.call (some 42) (.k (.func 9 [] [])) [(.t 41)] none)), (none, (.cp 36 42)), (none, (.ext (some 43) (.t 36) 0)), (none, (.ext (some 44) (.t 36) 1)), (none, (.ext (some 45) (.t 36) 2)), (none, (.mv 7 43)), (none, (.mv 8 44)), (none, (.mv 9 45))]) (.seq (.ops [(none, (.cp 46 6)), (none, (.call (some 47) (.k (.func 10 [] [])) [(.t 46)] none)), (none, (.cp 48 9)), (none, (.bin (some 49) .neq (.t 47) (.t 48) false false)), (none, (.cp 50 49)), ((some (50, false)), (.cp 51 5)), ((some (50, false)), (.cp 52 8)), ((some (50, false)), (.bin (some 53) .neq (.t 51) (.t 52) false false)), (none, (.pick (some 54) (.t 50) (.k (.bool true)) (.t 53))), (none, (.cp 55 54)), ((some (55, false)), (.cp 56 4)), ((some (55, false)), (.cp 57 7)), ((some (55, false)), (.call (some 58) (.k (.func 11 [] [])) [(.t 56), (.t 57)] none)), ((some (55, false)), (.un (some 59) .not (.t 58))), (none, (.pick (some 60) (.t 55) (.k (.bool true)) (.t 59)))]) (.cond (.t 60) (.seq (.ops [(none, (.set 2 (.bool false)))]) .ret) .skip))))) (.ops [(none, (.cp 24 3)), (none, (.bin (some 25) .add (.t 24) (.k (.int .i64 1)) false false)), (none, (.mv 3 25))])))))) (.seq (.ops [(none, (.x (some 62) (.mks [(.int .u8 0)] 1) [(.k (.int .i64 4001)), (.k (.int .i64 4001))])), (none, (.x (some 63) .bs [(.t 62)])), (none, (.call (some 64) (.k (.func 8 [] [])) [(.t 63)] none)), (none, (.cp 61 64)), (none, (.ext (some 65) (.t 61) 0)), (none, (.ext (some 66) (.t 61) 1)), (none, (.ext (some 67) (.t 61) 2)), (none, (.mv 10 65)), (none, (.mv 11 66)), (none, (.mv 12 67))]) (.seq (.ops [(none, (.cp 68 12)), (none, (.call (some 69) (.k (.func 10 [] [])) [(.t 68)] none)), (none, (.bin (some 70) .eql (.t 69) (.k (.int .i64 2)) false false)), (none, (.cp 71 70)), ((some (71, true)), (.call (some 72) (.k (.func 12 [] [])) [] none)), (none, (.pick (some 73) (.t 71) (.t 72) (.k (.bool false)))), (none, (.mv 2 73))]) .ret)))))))) := by kernel_rfl
theorem bytes_rep : ∀ n : Nat, bytesOf (List.replicate n (AV.int .u8 0)) = some (List.replicate n 0)
  | 0 => rfl
  | n + 1 => by rw [List.replicate_succ, List.replicate_succ, bytesOf, bytes_rep n]; rfl
theorem flat_rep (n : Nat) : (List.replicate n [AV.int .u8 0]).flatten = List.replicate n (AV.int .u8 0) := by
  induction n with
  | zero => rfl
  | succ n ih => rw [List.replicate_succ, List.flatten_cons, ih]; rfl
theorem evX_mk (hp : Hp) : evX (.mks [.int .u8 0] 1) hp [.int .i64 4001, .int .i64 4001] = some (.hs hp.n 0 4001 1, hp.push (.cells (List.replicate 4001 (.int .u8 0)))) := by
  rw [← flat_rep]; rfl
theorem evX_st (hp : Hp) (l : Nat) (h : hp.bk l = .cells (List.replicate 4001 (AV.int .u8 0))) : evX .bs hp [.hs l 0 4001 1] = some (.str (List.replicate 4001 0), hp) := by
  have e : bytesOf ((List.replicate 4001 (AV.int .u8 0)).drop 0 |>.take 4001) = some (List.replicate 4001 0) := by
    rw [List.drop_zero, List.take_of_length_le (by rw [List.length_replicate]; exact Nat.le_refl _), bytes_rep]
  unfold evX
  simp only [h]
  rw [if_pos (by rw [List.length_replicate]; exact Nat.le_refl _), e]
theorem toks_long : toks (List.replicate 4001 0) = ([], 0, 2) := by
  unfold toks
  rw [if_pos (by rw [List.length_replicate]; decide)]
theorem toksF_le : ∀ (f p : Nat) (s : List UInt8) (acc : List Tk), (toksF f p s acc).1.length ≤ acc.length + f
  | 0, _, _, _ => by simp [toksF]
  | f + 1, p, s, acc => by
    rw [toksF]
    split
    · simp
    · split
      · simp
      · rename_i k t n len he
        have := toksF_le f (p + skipN false s + len) ((s.drop (skipN false s)).drop len) (acc ++ [⟨k, t, n, p + skipN false s⟩])
        exact Nat.le_trans this (by simp; omega)
theorem toks_le (s : List UInt8) : (toks s).1.length < 1000000000 := by
  unfold toks
  split
  · simp
  · have := toksF_le (s.length + 1) 0 s []
    simp at this ⊢; omega
set_option maxHeartbeats 1000000 in
theorem fn4_LexTokens (xs : List (List UInt8)) (hl : xs.length < 1000000000000000) (hs : ∀ x ∈ xs, x.length ≤ 140737488351232) : PFn Tryd.prog 3 [.agg [.sl .sh 1 (xs.map AV.str)]] (.bool true) := by
  intro h
  have hT := fn4_Heavy xs hl hs
  refine fnC mixed Tryd.func3 c3 (by simp) ?_
  simp only [go_sem, Nat.reduceEqDiff, Nat.reduceAdd, Nat.reduceLeDiff, Nat.reduceLT, ↓reduceIte, reduceCtorEq, Int.reduceLT, Int.reduceToNat, Int.reduceEq, Int.reduceBEq, Int.reduceBNe, Nat.reduceBEq]
  refine pcall hT (by simp only [go_sem, Nat.reduceEqDiff, Nat.reduceAdd, Nat.reduceLeDiff, Nat.reduceLT, ↓reduceIte, reduceCtorEq, Int.reduceLT, Int.reduceToNat, Int.reduceEq, Int.reduceBEq, Int.reduceBNe, Nat.reduceBEq]) ?_
  by_cases hv : txtF xs.length xs > 9000
  · have hv' : decide (txtF xs.length xs > 9000) = true := decide_eq_true hv
    simp only [go_sem, Nat.reduceEqDiff, Nat.reduceAdd, Nat.reduceLeDiff, Nat.reduceLT, ↓reduceIte, reduceCtorEq, Int.reduceLT, Int.reduceToNat, Int.reduceEq, Int.reduceBEq, Int.reduceBNe, Nat.reduceBEq, hv']
  have hv' : decide (txtF xs.length xs > 9000) = false := decide_eq_false hv
  have hsm := txtF_each xs xs.length (by omega)
  generalize txtF xs.length xs = N at *
  simp only [go_sem, Nat.reduceEqDiff, Nat.reduceAdd, Nat.reduceLeDiff, Nat.reduceLT, ↓reduceIte, reduceCtorEq, Int.reduceLT, Int.reduceToNat, Int.reduceEq, Int.reduceBEq, Int.reduceBNe, Nat.reduceBEq, hv']
  refine cloop (fun k t => ∃ i : Nat, i + k = xs.length ∧ t.fr 1 = .ptr h.n 0 ∧ t.fr 3 = .int .i64 (i : Nat) ∧ t.hp = ⟨h.n + 1, updB h.bk h.n (.cells [.sl .sh 1 (xs.map AV.str)])⟩) xs.length ⟨0, by omega, by simp [fr_apply], by simp [fr_apply], rfl⟩ ?_
  rintro k ⟨F, hp⟩ ⟨i, hk, f1, f3, rfl⟩
  simp only at f1 f3
  have fin : ∀ hp : Hp, evX .bs ⟨hp.n + 1, updB hp.bk hp.n (.cells (List.replicate 4001 (AV.int .u8 0)))⟩ [.hs hp.n 0 4001 1] = some (.str (List.replicate 4001 0), ⟨hp.n + 1, updB hp.bk hp.n (.cells (List.replicate 4001 (AV.int .u8 0)))⟩) := fun hp => evX_st _ _ (by simp [bk_apply])
  have q1 := evX_mk ⟨h.n + 1, updB h.bk h.n (.cells [.sl .sh 1 (xs.map AV.str)])⟩
  have q2 := fin ⟨h.n + 1, updB h.bk h.n (.cells [.sl .sh 1 (xs.map AV.str)])⟩
  simp only [Hp.push, Nat.add_assoc, Nat.reduceAdd] at q1 q2
  have hZ := fnl_Tokens (List.replicate 4001 0) (by rw [List.length_replicate]; decide)
  rw [toks_long] at hZ
  unfold tkA at hZ
  simp only [flK, List.map_nil] at hZ
  generalize List.replicate 4001 (AV.int .u8 0) = zz at *
  generalize (List.replicate 4001 0 : List UInt8) = z1 at *
  clear fin
  by_cases hi : i < xs.length
  · have hi' : decide ((i : Int) < (xs.length : Int)) = true := decide_eq_true (by omega)
    by_cases h8 : i < 8
    · have h8' : decide ((i : Int) < 8) = true := decide_eq_true (by omega)
      have hw : IntKind.i64.wrap ((i : Int) + 1) = ((i + 1 : Nat) : Int) := by rw [wrap64] <;> omega
      have hx : (xs.map AV.str)[i]? = some (.str xs[i]) := by rw [List.getElem?_map, List.getElem?_eq_getElem hi]; rfl
      have hxl := hsm xs[i] (List.getElem_mem _)
      generalize xs[i] = x at hx hxl
      have hA := fnl_Tokens x (by omega)
      have hB := fnr_Tokens x (by omega)
      have hE := fn0_EqTokens (toks x).1 (toks_le x)
      generalize toks x = R at *
      obtain ⟨l, p, e⟩ := R
      unfold tkA at hA hB
      simp only at hA hB hE
      have hN := fn4_num e
      have hO : flK l = .full ∨ flK l = .sh := by cases l <;> simp [flK]
      generalize l.map Tk.av = L at *
      rcases hO with hO | hO <;> rw [hO] at hA hB hE
      · simp only [go_sem, Nat.reduceEqDiff, Nat.reduceAdd, Nat.reduceLeDiff, Nat.reduceLT, ↓reduceIte, reduceCtorEq, Int.reduceLT, Int.reduceToNat, Int.reduceEq, Int.reduceBEq, Int.reduceBNe, Nat.reduceBEq, f1, f3, hi', h8', hx]
        refine pcall hA (by simp only [go_sem, Nat.reduceEqDiff, Nat.reduceAdd, Nat.reduceLeDiff, Nat.reduceLT, ↓reduceIte, reduceCtorEq, Int.reduceLT, Int.reduceToNat, Int.reduceEq, Int.reduceBEq, Int.reduceBNe, Nat.reduceBEq]) ?_
        simp only [go_sem, Nat.reduceEqDiff, Nat.reduceAdd, Nat.reduceLeDiff, Nat.reduceLT, ↓reduceIte, reduceCtorEq, Int.reduceLT, Int.reduceToNat, Int.reduceEq, Int.reduceBEq, Int.reduceBNe, Nat.reduceBEq, f1, f3, hx]
        refine pcall hB (by simp only [go_sem, Nat.reduceEqDiff, Nat.reduceAdd, Nat.reduceLeDiff, Nat.reduceLT, ↓reduceIte, reduceCtorEq, Int.reduceLT, Int.reduceToNat, Int.reduceEq, Int.reduceBEq, Int.reduceBNe, Nat.reduceBEq]) ?_
        simp only [go_sem, Nat.reduceEqDiff, Nat.reduceAdd, Nat.reduceLeDiff, Nat.reduceLT, ↓reduceIte, reduceCtorEq, Int.reduceLT, Int.reduceToNat, Int.reduceEq, Int.reduceBEq, Int.reduceBNe, Nat.reduceBEq, f1, f3, hx]
        refine pcall hN (by simp only [go_sem, Nat.reduceEqDiff, Nat.reduceAdd, Nat.reduceLeDiff, Nat.reduceLT, ↓reduceIte, reduceCtorEq, Int.reduceLT, Int.reduceToNat, Int.reduceEq, Int.reduceBEq, Int.reduceBNe, Nat.reduceBEq]) ?_
        simp only [go_sem, Nat.reduceEqDiff, Nat.reduceAdd, Nat.reduceLeDiff, Nat.reduceLT, ↓reduceIte, reduceCtorEq, Int.reduceLT, Int.reduceToNat, Int.reduceEq, Int.reduceBEq, Int.reduceBNe, Nat.reduceBEq, f1, f3, hx]
        refine pcall hE (by simp only [go_sem, Nat.reduceEqDiff, Nat.reduceAdd, Nat.reduceLeDiff, Nat.reduceLT, ↓reduceIte, reduceCtorEq, Int.reduceLT, Int.reduceToNat, Int.reduceEq, Int.reduceBEq, Int.reduceBNe, Nat.reduceBEq]) ?_
        simp only [go_sem, Nat.reduceEqDiff, Nat.reduceAdd, Nat.reduceLeDiff, Nat.reduceLT, ↓reduceIte, reduceCtorEq, Int.reduceLT, Int.reduceToNat, Int.reduceEq, Int.reduceBEq, Int.reduceBNe, Nat.reduceBEq, f1, f3, hw]
        exact ⟨k - 1, by omega, i + 1, by omega, rfl⟩
      · simp only [go_sem, Nat.reduceEqDiff, Nat.reduceAdd, Nat.reduceLeDiff, Nat.reduceLT, ↓reduceIte, reduceCtorEq, Int.reduceLT, Int.reduceToNat, Int.reduceEq, Int.reduceBEq, Int.reduceBNe, Nat.reduceBEq, f1, f3, hi', h8', hx]
        refine pcall hA (by simp only [go_sem, Nat.reduceEqDiff, Nat.reduceAdd, Nat.reduceLeDiff, Nat.reduceLT, ↓reduceIte, reduceCtorEq, Int.reduceLT, Int.reduceToNat, Int.reduceEq, Int.reduceBEq, Int.reduceBNe, Nat.reduceBEq]) ?_
        simp only [go_sem, Nat.reduceEqDiff, Nat.reduceAdd, Nat.reduceLeDiff, Nat.reduceLT, ↓reduceIte, reduceCtorEq, Int.reduceLT, Int.reduceToNat, Int.reduceEq, Int.reduceBEq, Int.reduceBNe, Nat.reduceBEq, f1, f3, hx]
        refine pcall hB (by simp only [go_sem, Nat.reduceEqDiff, Nat.reduceAdd, Nat.reduceLeDiff, Nat.reduceLT, ↓reduceIte, reduceCtorEq, Int.reduceLT, Int.reduceToNat, Int.reduceEq, Int.reduceBEq, Int.reduceBNe, Nat.reduceBEq]) ?_
        simp only [go_sem, Nat.reduceEqDiff, Nat.reduceAdd, Nat.reduceLeDiff, Nat.reduceLT, ↓reduceIte, reduceCtorEq, Int.reduceLT, Int.reduceToNat, Int.reduceEq, Int.reduceBEq, Int.reduceBNe, Nat.reduceBEq, f1, f3, hx]
        refine pcall hN (by simp only [go_sem, Nat.reduceEqDiff, Nat.reduceAdd, Nat.reduceLeDiff, Nat.reduceLT, ↓reduceIte, reduceCtorEq, Int.reduceLT, Int.reduceToNat, Int.reduceEq, Int.reduceBEq, Int.reduceBNe, Nat.reduceBEq]) ?_
        simp only [go_sem, Nat.reduceEqDiff, Nat.reduceAdd, Nat.reduceLeDiff, Nat.reduceLT, ↓reduceIte, reduceCtorEq, Int.reduceLT, Int.reduceToNat, Int.reduceEq, Int.reduceBEq, Int.reduceBNe, Nat.reduceBEq, f1, f3, hx]
        refine pcall hE (by simp only [go_sem, Nat.reduceEqDiff, Nat.reduceAdd, Nat.reduceLeDiff, Nat.reduceLT, ↓reduceIte, reduceCtorEq, Int.reduceLT, Int.reduceToNat, Int.reduceEq, Int.reduceBEq, Int.reduceBNe, Nat.reduceBEq]) ?_
        simp only [go_sem, Nat.reduceEqDiff, Nat.reduceAdd, Nat.reduceLeDiff, Nat.reduceLT, ↓reduceIte, reduceCtorEq, Int.reduceLT, Int.reduceToNat, Int.reduceEq, Int.reduceBEq, Int.reduceBNe, Nat.reduceBEq, f1, f3, hw]
        exact ⟨k - 1, by omega, i + 1, by omega, rfl⟩
    · have h8' : decide ((i : Int) < 8) = false := decide_eq_false (by omega)
      simp only [go_sem, Nat.reduceEqDiff, Nat.reduceAdd, Nat.reduceLeDiff, Nat.reduceLT, ↓reduceIte, reduceCtorEq, Int.reduceLT, Int.reduceToNat, Int.reduceEq, Int.reduceBEq, Int.reduceBNe, Nat.reduceBEq, f1, f3, hi', h8', q1, q2]
      refine pcall hZ (by simp only [go_sem, Nat.reduceEqDiff, Nat.reduceAdd, Nat.reduceLeDiff, Nat.reduceLT, ↓reduceIte, reduceCtorEq, Int.reduceLT, Int.reduceToNat, Int.reduceEq, Int.reduceBEq, Int.reduceBNe, Nat.reduceBEq]) ?_
      simp only [go_sem, Nat.reduceEqDiff, Nat.reduceAdd, Nat.reduceLeDiff, Nat.reduceLT, ↓reduceIte, reduceCtorEq, Int.reduceLT, Int.reduceToNat, Int.reduceEq, Int.reduceBEq, Int.reduceBNe, Nat.reduceBEq]
      refine pcall (fn4_num 2) (by simp only [go_sem, Nat.reduceEqDiff, Nat.reduceAdd, Nat.reduceLeDiff, Nat.reduceLT, ↓reduceIte, reduceCtorEq, Int.reduceLT, Int.reduceToNat, Int.reduceEq, Int.reduceBEq, Int.reduceBNe, Nat.reduceBEq]) ?_
      simp only [go_sem, Nat.reduceEqDiff, Nat.reduceAdd, Nat.reduceLeDiff, Nat.reduceLT, ↓reduceIte, reduceCtorEq, Int.reduceLT, Int.reduceToNat, Int.reduceEq, Int.reduceBEq, Int.reduceBNe, Nat.reduceBEq]
      refine pcall fn4_wakes (by simp only [go_sem, Nat.reduceEqDiff, Nat.reduceAdd, Nat.reduceLeDiff, Nat.reduceLT, ↓reduceIte, reduceCtorEq, Int.reduceLT, Int.reduceToNat, Int.reduceEq, Int.reduceBEq, Int.reduceBNe, Nat.reduceBEq]) ?_
      simp only [go_sem, Nat.reduceEqDiff, Nat.reduceAdd, Nat.reduceLeDiff, Nat.reduceLT, ↓reduceIte, reduceCtorEq, Int.reduceLT, Int.reduceToNat, Int.reduceEq, Int.reduceBEq, Int.reduceBNe, Nat.reduceBEq]
      trace_state
  · have hi' : decide ((i : Int) < (xs.length : Int)) = false := decide_eq_false (by omega)
    simp only [go_sem, Nat.reduceEqDiff, Nat.reduceAdd, Nat.reduceLeDiff, Nat.reduceLT, ↓reduceIte, reduceCtorEq, Int.reduceLT, Int.reduceToNat, Int.reduceEq, Int.reduceBEq, Int.reduceBNe, Nat.reduceBEq, f1, f3, hi', q1, q2]
    refine pcall hZ (by simp only [go_sem, Nat.reduceEqDiff, Nat.reduceAdd, Nat.reduceLeDiff, Nat.reduceLT, ↓reduceIte, reduceCtorEq, Int.reduceLT, Int.reduceToNat, Int.reduceEq, Int.reduceBEq, Int.reduceBNe, Nat.reduceBEq]) ?_
    simp only [go_sem, Nat.reduceEqDiff, Nat.reduceAdd, Nat.reduceLeDiff, Nat.reduceLT, ↓reduceIte, reduceCtorEq, Int.reduceLT, Int.reduceToNat, Int.reduceEq, Int.reduceBEq, Int.reduceBNe, Nat.reduceBEq]
    refine pcall (fn4_num 2) (by simp only [go_sem, Nat.reduceEqDiff, Nat.reduceAdd, Nat.reduceLeDiff, Nat.reduceLT, ↓reduceIte, reduceCtorEq, Int.reduceLT, Int.reduceToNat, Int.reduceEq, Int.reduceBEq, Int.reduceBNe, Nat.reduceBEq]) ?_
    simp only [go_sem, Nat.reduceEqDiff, Nat.reduceAdd, Nat.reduceLeDiff, Nat.reduceLT, ↓reduceIte, reduceCtorEq, Int.reduceLT, Int.reduceToNat, Int.reduceEq, Int.reduceBEq, Int.reduceBNe, Nat.reduceBEq]
    refine pcall fn4_wakes (by simp only [go_sem, Nat.reduceEqDiff, Nat.reduceAdd, Nat.reduceLeDiff, Nat.reduceLT, ↓reduceIte, reduceCtorEq, Int.reduceLT, Int.reduceToNat, Int.reduceEq, Int.reduceBEq, Int.reduceBNe, Nat.reduceBEq]) ?_
    simp only [go_sem, Nat.reduceEqDiff, Nat.reduceAdd, Nat.reduceLeDiff, Nat.reduceLT, ↓reduceIte, reduceCtorEq, Int.reduceLT, Int.reduceToNat, Int.reduceEq, Int.reduceBEq, Int.reduceBNe, Nat.reduceBEq]
end Go.Proofs.YtnibelnjflhkgaaDoor.Ab
