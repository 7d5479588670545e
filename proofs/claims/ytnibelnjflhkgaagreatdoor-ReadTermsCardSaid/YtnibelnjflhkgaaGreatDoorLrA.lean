/- The layer of reading: a rule is read. No condition. The statement ReadTerms: its walk. No condition. -/
import Derived.Test.YtnibelnjflhkgaaGreatDoorEv
import Derived.Test.YtnibelnjflhkgaaGreatDoorLr0
namespace Go.Proofs.YtnibelnjflhkgaaGreatDoor.Ab
set_option linter.unusedVariables false
set_option linter.unusedSimpArgs false
set_option maxRecDepth 100000
def wkS : List UInt8 := [97, 32, 60, 45, 32, 98, 32, 59, 32, 99, 44, 32, 119, 105, 116, 104, 105, 110, 32, 53, 46]
def wkT : List AV := [.sl .sh 4 [(⟨1, [97], 0, 0⟩ : Tk).av, (⟨4, [60, 45], 0, 2⟩ : Tk).av, (⟨1, [98], 0, 5⟩ : Tk).av, (⟨4, [59], 0, 7⟩ : Tk).av, (⟨1, [99], 0, 9⟩ : Tk).av, (⟨4, [44], 0, 10⟩ : Tk).av, (⟨1, [119, 105, 116, 104, 105, 110], 0, 12⟩ : Tk).av, (⟨3, [], 5, 19⟩ : Tk).av, (⟨4, [46], 0, 20⟩ : Tk).av, (⟨5, [], 0, 21⟩ : Tk).av], .int .i64 0, .int .i64 0]
theorem wk_toks : tkA (toks wkS) = wkT := by kernel_rfl
def wkP (c : UInt8) : AV := .agg [.int .i64 1, .int .i64 3, .str [c], .int .i64 0, .sl .full 4 [], .int .i64 0, .sl .full 9 [], .sl .full 9 [], .sl .full 9 []]
def wkQ (c : UInt8) : AV := .agg [.int .i64 1, .int .i64 3, .str [c], .int .i64 0, .sl .sh 4 [], .int .i64 0, .sl .sh 9 [], .sl .sh 9 [], .sl .sh 9 []]
def wkA : List AV := [.sl .sh 1 [.sl .sh 9 [wkP 98], .sl .sh 9 [wkP 99], .sl .full 9 []]]
theorem wk_concat : PFn Tryz.prog 179 wkA (.sl .sh 9 [wkQ 98, wkQ 99]) :=
  pfn_fk (fn_concat [[wkQ 98], [wkQ 99], []] (by decide) (by decide) (by decide) (fun n => rfl))
def orc5 (f : FuncId) (args : List AV) : Option AV :=
  bif Nat.beq f 94 then (bif eqAL args [.str wkS] then some (.tup wkT) else none)
  else bif Nat.beq f 179 then (bif eqAL args wkA then some (.sl .sh 9 [wkQ 98, wkQ 99]) else none)
  else none
theorem orc5_ok : ∀ f args r, orc5 f args = some r → PFn Tryz.prog f args r := by
  intro f args r h
  unfold orc5 at h
  cases h1 : Nat.beq f 94 with
  | true =>
    rw [h1] at h
    simp only [cond_true] at h
    cases h2 : eqAL args [.str wkS] with
    | true =>
      rw [h2] at h
      simp only [cond_true, Option.some.injEq] at h
      subst h
      rw [Nat.eq_of_beq_eq_true h1, eqAL_sound h2, ← wk_toks]
      exact fnl_Tokens wkS (by decide)
    | false => rw [h2] at h; cases h
  | false =>
    rw [h1] at h
    simp only [cond_false] at h
    cases h3 : Nat.beq f 179 with
    | true =>
      rw [h3] at h
      simp only [cond_true] at h
      cases h2 : eqAL args wkA with
      | true =>
        rw [h2] at h
        simp only [cond_true, Option.some.injEq] at h
        subst h
        rw [Nat.eq_of_beq_eq_true h3, eqAL_sound h2]
        exact wk_concat
      | false => rw [h2] at h; cases h
    | false => rw [h3] at h; cases h
theorem e5 : evR tabF orc5 1000 60 20 [] = some (.bool true) := by kernel_rfl
theorem fn5_wakes : PFn Tryz.prog 20 [] (.bool true) := evR_spec mixed hT orc5_ok rfl e5
end Go.Proofs.YtnibelnjflhkgaaGreatDoor.Ab

namespace Go.Proofs.YtnibelnjflhkgaaGreatDoor.Ab
set_option linter.unusedVariables false
set_option linter.unusedSimpArgs false
set_option maxRecDepth 10000
attribute [local go_sem] decide_true decide_false Nat.zero_le Bool.not_true Bool.not_false Bool.false_eq_true if_false if_true forall_const true_and and_true List.map Option.map Bool.and_self Bool.and_true Bool.true_and Bool.false_and Bool.and_false List.getElem?_cons_zero List.getElem?_nil List.getElem?_cons_succ Int.natCast_nonneg Int.toNat_natCast List.length_map List.length_cons List.length_nil Nat.zero_add Nat.le_refl List.drop_zero List.drop_succ_cons List.take_succ_cons List.take_zero List.take_nil ne_eq not_true_eq_false not_false_eq_true upd_same Nat.add_assoc Nat.left_eq_add Nat.add_eq_left Nat.add_left_cancel_iff Nat.succ_ne_self Nat.one_ne_zero Nat.add_zero Nat.le_add_right ite_self List.set_cons_zero List.set_cons_succ List.all_cons List.all_nil bne_self_eq_false List.isEmpty_cons Int.cast_ofNat_Int Nat.mul_one List.nil_append or_self or_true true_or List.cons_append List.append_nil Option.none_beq_some Option.some_beq_some beq_self_eq_true
theorem c6 : compF Tryz.prog ow Tryz.f6 = (some (59, ([(.t 2)], (.seq (.ops [(none, (.box 1 (.t 0))), (none, (.set 2 (.bool false)))]) (.seq (.seq (.ops [(none, (.ld (some 10) (.t 1) (.agg 1))), (none, (.call (some 11) (.k (.func 14 [] [])) [(.t 10)] none))]) (.cond (.t 11) (.seq (.ops [(none, (.set 2 (.bool true)))]) .ret) .skip)) (.seq (.seq (.ops [(none, (.set 3 (.int .i64 0)))]) (.block 0 (.loop (.seq (.seq (.ops [(none, (.cp 12 3)), (none, (.fa (some 13) (.t 1) 0)), (none, (.ld (some 14) (.t 13) (.one (some 1)))), (none, (.len (some 15) (.t 14) false true)), (none, (.bin (some 16) .lss (.t 12) (.t 15) false false)), (none, (.cp 17 16)), ((some (17, true)), (.cp 18 3)), ((some (17, true)), (.bin (some 19) .lss (.t 18) (.k (.int .i64 6)) false false)), (none, (.pick (some 20) (.t 17) (.t 19) (.k (.bool false))))]) (.cond (.t 20) .skip (.exit 0))) (.seq (.block 1 (.seq (.ops [(none, (.fa (some 24) (.t 1) 0)), (none, (.ld (some 25) (.t 24) (.one (some 1)))), (none, (.cp 26 3)), (none, (.ia (some 27) (.t 25) (.t 26) (some 1) none)), (none, (.ld (some 28) (.t 27) (.one none))), (none, (.call (some 29) (.k (.func 22 [] [])) [(.t 28)] none)), (none, (.cp 23 29)), (none, (.ext (some 30) (.t 23) 0)), (none, (.ext (some 31) (.t 23) 1)), (none, (.ext (some 32) (.t 23) 2)), (none, (.alloc 4 [(.int .i64 0), (.str []), (.int .i64 0), (.sl .full 4 [])])), (none, (.st (.t 4) (.t 30) 4)), (none, (.mv 5 31)), (none, (.mv 6 32))]) (.seq (.ops [(none, (.fa (some 34) (.t 1) 0)), (none, (.ld (some 35) (.t 34) (.one (some 1)))), (none, (.cp 36 3)), (none, (.ia (some 37) (.t 35) (.t 36) (some 1) none)), (none, (.ld (some 38) (.t 37) (.one none))), (none, (.call (some 39) (.k (.func 23 [] [])) [(.t 38)] none)), (none, (.cp 33 39)), (none, (.ext (some 40) (.t 33) 0)), (none, (.ext (some 41) (.t 33) 1)), (none, (.ext (some 42) (.t 33) 2)), (none, (.alloc 7 [(.int .i64 0), (.str []), (.int .i64 0), (.sl .full 4 [])])), (none, (.st (.t 7) (.t 40) 4)), (none, (.mv 8 41)), (none, (.mv 9 42))]) (.seq (.ops [(none, (.cp 43 6)), (none, (.call (some 44) (.k (.func 18 [] [])) [(.t 43)] none)), (none, (.cp 45 9)), (none, (.bin (some 46) .neq (.t 44) (.t 45) false false)), (none, (.cp 47 46)), ((some (47, false)), (.cp 48 5)), ((some (47, false)), (.cp 49 8)), ((some (47, false)), (.bin (some 50) .neq (.t 48) (.t 49) false false)), (none, (.pick (some 51) (.t 47) (.k (.bool true)) (.t 50))), (none, (.cp 52 51)), ((some (52, false)), (.ld (some 53) (.t 4) (.agg 4))), ((some (52, false)), (.ld (some 54) (.t 7) (.agg 4))), ((some (52, false)), (.call (some 55) (.k (.func 24 [] [])) [(.t 53), (.t 54)] none)), ((some (52, false)), (.un (some 56) .not (.t 55))), (none, (.pick (some 57) (.t 52) (.k (.bool true)) (.t 56)))]) (.cond (.t 57) (.seq (.ops [(none, (.set 2 (.bool false)))]) .ret) .skip))))) (.ops [(none, (.cp 21 3)), (none, (.bin (some 22) .add (.t 21) (.k (.int .i64 1)) false false)), (none, (.mv 3 22))])))))) (.seq (.ops [(none, (.call (some 58) (.k (.func 20 [] [])) [] none)), (none, (.mv 2 58))]) .ret))))))) := by kernel_rfl
theorem shrink_old {h hp : Hp} (h1 : h.n ≤ hp.n) (h2 : ∀ q, q < h.n → hp.bk q = h.bk q) : Shrink h hp h := ⟨Nat.le_refl _, h1, fun k hk => ⟨(h2 k hk).symm, .inl ⟨hk, h2 k hk⟩⟩⟩
theorem fn5_ReadTerms (xs : List (List UInt8)) (hl : xs.length < 1000000000000000) (hs : ∀ x ∈ xs, x.length ≤ 140737488351232) : PFn Tryz.prog 6 [.agg [.sl .sh 1 (xs.map AV.str)]] (.bool true) := by
  intro h
  have hT := fn4_Heavy xs hl hs
  refine fnC mixed Tryz.func6 c6 (by simp) ?_
  simp only [go_sem, Nat.reduceEqDiff, Nat.reduceAdd, Nat.reduceLeDiff, Nat.reduceLT, ↓reduceIte, reduceCtorEq, Int.reduceLT, Int.reduceToNat, Int.reduceEq, Int.reduceBEq, Int.reduceBNe, Nat.reduceBEq]
  refine pcall hT (by simp only [go_sem, Nat.reduceEqDiff, Nat.reduceAdd, Nat.reduceLeDiff, Nat.reduceLT, ↓reduceIte, reduceCtorEq, Int.reduceLT, Int.reduceToNat, Int.reduceEq, Int.reduceBEq, Int.reduceBNe, Nat.reduceBEq]) ?_
  by_cases hv : txtF xs.length xs > 9000
  · have hv' : decide (txtF xs.length xs > 9000) = true := decide_eq_true hv
    simp only [go_sem, Nat.reduceEqDiff, Nat.reduceAdd, Nat.reduceLeDiff, Nat.reduceLT, ↓reduceIte, reduceCtorEq, Int.reduceLT, Int.reduceToNat, Int.reduceEq, Int.reduceBEq, Int.reduceBNe, Nat.reduceBEq, hv']
  have hv' : decide (txtF xs.length xs > 9000) = false := decide_eq_false hv
  have hsm := txtF_each xs xs.length (by omega)
  generalize txtF xs.length xs = N at *
  simp only [go_sem, Nat.reduceEqDiff, Nat.reduceAdd, Nat.reduceLeDiff, Nat.reduceLT, ↓reduceIte, reduceCtorEq, Int.reduceLT, Int.reduceToNat, Int.reduceEq, Int.reduceBEq, Int.reduceBNe, Nat.reduceBEq, hv']
  refine cloop (fun k t => ∃ i : Nat, i + k = xs.length ∧ t.fr 1 = .ptr h.n 0 ∧ t.fr 3 = .int .i64 (i : Nat) ∧ h.n + 1 ≤ t.hp.n ∧ t.hp.bk h.n = .cells [.sl .sh 1 (xs.map AV.str)] ∧ ∀ q, q < h.n → t.hp.bk q = h.bk q) xs.length ⟨0, by omega, by simp [fr_apply], by simp [fr_apply], Nat.le_refl _, by simp [bk_apply], fun q hq => by simp [bk_apply, show q ≠ h.n by omega]⟩ ?_
  rintro k ⟨F, hp⟩ ⟨i, hk, f1, f3, hn, hb, ho⟩
  simp only at f1 f3 hn hb ho
  by_cases hi : i < xs.length
  · have hi' : decide ((i : Int) < (xs.length : Int)) = true := decide_eq_true (by omega)
    by_cases h8 : i < 6
    · have h8' : decide ((i : Int) < 6) = true := decide_eq_true (by omega)
      have hw : IntKind.i64.wrap ((i : Int) + 1) = ((i + 1 : Nat) : Int) := by rw [wrap64] <;> omega
      have hx : (xs.map AV.str)[i]? = some (.str xs[i]) := by rw [List.getElem?_map, List.getElem?_eq_getElem hi]; rfl
      have hxl := hsm xs[i] (List.getElem_mem _)
      generalize xs[i] = x at hx hxl
      have hA := fnl_readTerm x (by omega)
      have hB := fnr_readTerm x (by omega)
      rw [rdT_z zR zP] at hB
      have hok := rdT_ok zP x
      generalize rdT zP x = R at *
      obtain ⟨t, p, e⟩ := R
      simp only at hA hB hok
      have hN := fn5_num e
      have hE := fnf_eqT t t hok
      rw [eqT_refl] at hE
      have q0 : ¬ h.n = hp.n := by omega
      have q1 : ¬ hp.n = h.n := by omega
      have q2 : ¬ h.n = hp.n + 1 := by omega
      have q3 : ¬ hp.n + 1 = h.n := by omega
      have q4 : ¬ hp.n = hp.n + 1 := by omega
      have q5 : ¬ hp.n + 1 = hp.n := by omega
      simp only [go_sem, Nat.reduceEqDiff, Nat.reduceAdd, Nat.reduceLeDiff, Nat.reduceLT, ↓reduceIte, reduceCtorEq, Int.reduceLT, Int.reduceToNat, Int.reduceEq, Int.reduceBEq, Int.reduceBNe, Nat.reduceBEq, f1, f3, hi', h8', hx, hb]
      refine pcall hA (by simp only [go_sem, Nat.reduceEqDiff, Nat.reduceAdd, Nat.reduceLeDiff, Nat.reduceLT, ↓reduceIte, reduceCtorEq, Int.reduceLT, Int.reduceToNat, Int.reduceEq, Int.reduceBEq, Int.reduceBNe, Nat.reduceBEq]) ?_
      simp only [go_sem, Nat.reduceEqDiff, Nat.reduceAdd, Nat.reduceLeDiff, Nat.reduceLT, ↓reduceIte, reduceCtorEq, Int.reduceLT, Int.reduceToNat, Int.reduceEq, Int.reduceBEq, Int.reduceBNe, Nat.reduceBEq, f1, f3, hx, hb, q0, q1]
      refine pcall hB (by simp only [go_sem, Nat.reduceEqDiff, Nat.reduceAdd, Nat.reduceLeDiff, Nat.reduceLT, ↓reduceIte, reduceCtorEq, Int.reduceLT, Int.reduceToNat, Int.reduceEq, Int.reduceBEq, Int.reduceBNe, Nat.reduceBEq]) ?_
      simp only [go_sem, Nat.reduceEqDiff, Nat.reduceAdd, Nat.reduceLeDiff, Nat.reduceLT, ↓reduceIte, reduceCtorEq, Int.reduceLT, Int.reduceToNat, Int.reduceEq, Int.reduceBEq, Int.reduceBNe, Nat.reduceBEq, f1, f3, hx, hb, q0, q1, q2, q3, q4, q5]
      refine pcall hN (by simp only [go_sem, Nat.reduceEqDiff, Nat.reduceAdd, Nat.reduceLeDiff, Nat.reduceLT, ↓reduceIte, reduceCtorEq, Int.reduceLT, Int.reduceToNat, Int.reduceEq, Int.reduceBEq, Int.reduceBNe, Nat.reduceBEq]) ?_
      simp only [go_sem, Nat.reduceEqDiff, Nat.reduceAdd, Nat.reduceLeDiff, Nat.reduceLT, ↓reduceIte, reduceCtorEq, Int.reduceLT, Int.reduceToNat, Int.reduceEq, Int.reduceBEq, Int.reduceBNe, Nat.reduceBEq, f1, f3, hx, hb, q0, q1, q2, q3, q4, q5]
      refine pcall hE (by simp only [go_sem, Nat.reduceEqDiff, Nat.reduceAdd, Nat.reduceLeDiff, Nat.reduceLT, ↓reduceIte, reduceCtorEq, Int.reduceLT, Int.reduceToNat, Int.reduceEq, Int.reduceBEq, Int.reduceBNe, Nat.reduceBEq]) ?_
      simp only [go_sem, Nat.reduceEqDiff, Nat.reduceAdd, Nat.reduceLeDiff, Nat.reduceLT, ↓reduceIte, reduceCtorEq, Int.reduceLT, Int.reduceToNat, Int.reduceEq, Int.reduceBEq, Int.reduceBNe, Nat.reduceBEq, f1, f3, hw]
      exact ⟨k - 1, by omega, i + 1, by omega, rfl, by omega, by simp [q0, q2, hb], fun q hq => by simp [show q ≠ hp.n by omega, show q ≠ hp.n + 1 by omega]; exact ho q hq⟩
    · have h8' : decide ((i : Int) < 6) = false := decide_eq_false (by omega)
      simp only [go_sem, Nat.reduceEqDiff, Nat.reduceAdd, Nat.reduceLeDiff, Nat.reduceLT, ↓reduceIte, reduceCtorEq, Int.reduceLT, Int.reduceToNat, Int.reduceEq, Int.reduceBEq, Int.reduceBNe, Nat.reduceBEq, f1, f3, hi', h8', hb]
      refine pcall fn5_wakes (by simp only [go_sem, Nat.reduceEqDiff, Nat.reduceAdd, Nat.reduceLeDiff, Nat.reduceLT, ↓reduceIte, reduceCtorEq, Int.reduceLT, Int.reduceToNat, Int.reduceEq, Int.reduceBEq, Int.reduceBNe, Nat.reduceBEq]) ?_
      simp only [go_sem, Nat.reduceEqDiff, Nat.reduceAdd, Nat.reduceLeDiff, Nat.reduceLT, ↓reduceIte, reduceCtorEq, Int.reduceLT, Int.reduceToNat, Int.reduceEq, Int.reduceBEq, Int.reduceBNe, Nat.reduceBEq]
      exact shrink_old (by omega) ho
  · have hi' : decide ((i : Int) < (xs.length : Int)) = false := decide_eq_false (by omega)
    simp only [go_sem, Nat.reduceEqDiff, Nat.reduceAdd, Nat.reduceLeDiff, Nat.reduceLT, ↓reduceIte, reduceCtorEq, Int.reduceLT, Int.reduceToNat, Int.reduceEq, Int.reduceBEq, Int.reduceBNe, Nat.reduceBEq, f1, f3, hi', hb]
    refine pcall fn5_wakes (by simp only [go_sem, Nat.reduceEqDiff, Nat.reduceAdd, Nat.reduceLeDiff, Nat.reduceLT, ↓reduceIte, reduceCtorEq, Int.reduceLT, Int.reduceToNat, Int.reduceEq, Int.reduceBEq, Int.reduceBNe, Nat.reduceBEq]) ?_
    simp only [go_sem, Nat.reduceEqDiff, Nat.reduceAdd, Nat.reduceLeDiff, Nat.reduceLT, ↓reduceIte, reduceCtorEq, Int.reduceLT, Int.reduceToNat, Int.reduceEq, Int.reduceBEq, Int.reduceBNe, Nat.reduceBEq]
    exact shrink_old (by omega) ho
end Go.Proofs.YtnibelnjflhkgaaGreatDoor.Ab
