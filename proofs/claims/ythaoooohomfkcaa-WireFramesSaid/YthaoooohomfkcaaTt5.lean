/- Asking terms; how heavy they are. -/
import Derived.Test.YthaoooohomfkcaaTt4
namespace Go.Proofs.Ythaoooohomfkcaa.Ab
set_option linter.unusedVariables false
set_option linter.unusedSimpArgs false
set_option maxRecDepth 10000
attribute [local go_sem] Nat.zero_le Bool.not_true Bool.not_false Bool.false_eq_true if_false if_true forall_const true_and and_true List.map Option.map Bool.and_self Bool.and_true Bool.true_and Bool.false_and Bool.and_false List.getElem?_cons_zero List.getElem?_nil List.getElem?_cons_succ Int.natCast_nonneg Int.toNat_natCast List.length_map List.length_cons List.length_nil Nat.zero_add Nat.le_refl List.drop_zero List.drop_succ_cons List.take_succ_cons List.take_zero List.take_nil ne_eq not_true_eq_false not_false_eq_true upd_same Nat.add_assoc Nat.left_eq_add Nat.add_eq_left Nat.add_left_cancel_iff Nat.succ_ne_self Nat.one_ne_zero Nat.add_zero Nat.le_add_right ite_self List.set_cons_zero List.set_cons_succ List.all_cons List.all_nil bne_self_eq_false List.isEmpty_cons Int.cast_ofNat_Int Nat.mul_one List.nil_append or_self or_true true_or List.cons_append List.append_nil Option.none_beq_some Option.some_beq_some beq_self_eq_true
theorem c14 : compF Try.prog ow Try.f14 = (some (17, ([(.t 4), (.t 5)], (.seq (.ops [(none, (.box 2 (.t 0))), (none, (.box 3 (.t 1))), (none, (.set 4 (.int .i64 0))), (none, (.set 5 (.int .i64 0)))]) (.seq (.seq (.ops [(none, (.ld (some 6) (.t 2) (.agg 4))), (none, (.call (some 7) (.k (.func 62 [] [])) [(.t 6)] none)), (none, (.un (some 8) .not (.t 7))), (none, (.cp 9 8)), ((some (9, false)), (.ld (some 10) (.t 3) (.agg 4))), ((some (9, false)), (.call (some 11) (.k (.func 62 [] [])) [(.t 10)] none)), ((some (9, false)), (.un (some 12) .not (.t 11))), (none, (.pick (some 13) (.t 9) (.k (.bool true)) (.t 12)))]) (.cond (.t 13) (.seq (.ops [(none, (.set 4 (.int .i64 0))), (none, (.set 5 (.int .i64 1)))]) .ret) .skip)) (.seq (.ops [(none, (.ld (some 14) (.t 2) (.agg 4))), (none, (.ld (some 15) (.t 3) (.agg 4))), (none, (.call (some 16) (.k (.func 63 [] [])) [(.t 14), (.t 15)] none)), (none, (.mv 4 16)), (none, (.set 5 (.int .i64 0)))]) .ret)))))) := by kernel_rfl
theorem c83 : compF Try.prog ow Try.f83 = (some (35, ([(.t 4)], (.seq (.ops [(none, (.box 2 (.t 0))), (none, (.set 4 (.int .i64 0)))]) (.seq (.ops [(none, (.fa (some 7) (.t 2) 1)), (none, (.ld (some 8) (.t 7) (.one none))), (none, (.len (some 9) (.t 8) true false)), (none, (.bin (some 10) .add (.k (.int .i64 1)) (.t 9) false false)), (none, (.mv 5 10))]) (.seq (.seq (.ops [(none, (.cp 11 1)), (none, (.bin (some 12) .eql (.t 11) (.k (.int .i64 0)) false false))]) (.cond (.t 12) (.seq (.ops [(none, (.set 4 (.int .i64 1048576)))]) .ret) .skip)) (.seq (.seq (.ops [(none, (.set 6 (.int .i64 0)))]) (.block 0 (.loop (.seq (.seq (.ops [(none, (.cp 13 6)), (none, (.fa (some 14) (.t 2) 3)), (none, (.ld (some 15) (.t 14) (.one (some 4)))), (none, (.len (some 16) (.t 15) false true)), (none, (.bin (some 17) .lss (.t 13) (.t 16) false false)), (none, (.cp 18 17)), ((some (18, true)), (.cp 19 5)), ((some (18, true)), (.bin (some 20) .lss (.t 19) (.k (.int .i64 1048576)) false false)), (none, (.pick (some 21) (.t 18) (.t 20) (.k (.bool false))))]) (.cond (.t 21) .skip (.exit 0))) (.seq (.block 1 (.ops [(none, (.cp 24 5)), (none, (.fa (some 25) (.t 2) 3)), (none, (.ld (some 26) (.t 25) (.one (some 4)))), (none, (.cp 27 6)), (none, (.ia (some 28) (.t 26) (.t 27) (some 4) none)), (none, (.ld (some 29) (.t 28) (.agg 4))), (none, (.cp 30 1)), (none, (.bin (some 31) .sub (.t 30) (.k (.int .i64 1)) false false)), (none, (.call (some 32) (.k (.func 83 [] [])) [(.t 29), (.t 31)] none)), (none, (.bin (some 33) .add (.t 24) (.t 32) false false)), (none, (.mv 5 33))])) (.ops [(none, (.cp 22 6)), (none, (.bin (some 23) .add (.t 22) (.k (.int .i64 1)) false false)), (none, (.mv 6 23))])))))) (.seq (.ops [(none, (.mv 34 5)), (none, (.mv 4 34))]) .ret)))))))) := by kernel_rfl
theorem c60 : compF Try.prog ow Try.f60 = (some (25, ([(.t 2)], (.seq (.ops [(none, (.set 2 (.int .i64 0)))]) (.seq (.ops [(none, (.cp 5 0)), (none, (.len (some 6) (.t 5) false true)), (none, (.mv 3 6))]) (.seq (.seq (.ops [(none, (.set 4 (.int .i64 0)))]) (.block 0 (.loop (.seq (.seq (.ops [(none, (.cp 7 4)), (none, (.cp 8 0)), (none, (.len (some 9) (.t 8) false true)), (none, (.bin (some 10) .lss (.t 7) (.t 9) false false)), (none, (.cp 11 10)), ((some (11, true)), (.cp 12 3)), ((some (11, true)), (.bin (some 13) .lss (.t 12) (.k (.int .i64 1048576)) false false)), (none, (.pick (some 14) (.t 11) (.t 13) (.k (.bool false))))]) (.cond (.t 14) .skip (.exit 0))) (.seq (.block 1 (.ops [(none, (.cp 17 3)), (none, (.cp 18 0)), (none, (.cp 19 4)), (none, (.ia (some 20) (.t 18) (.t 19) (some 4) none)), (none, (.ld (some 21) (.t 20) (.agg 4))), (none, (.call (some 22) (.k (.func 83 [] [])) [(.t 21), (.k (.int .i64 30))] none)), (none, (.bin (some 23) .add (.t 17) (.t 22) false false)), (none, (.mv 3 23))])) (.ops [(none, (.cp 15 4)), (none, (.bin (some 16) .add (.t 15) (.k (.int .i64 1)) false false)), (none, (.mv 4 16))])))))) (.seq (.ops [(none, (.mv 24 3)), (none, (.mv 2 24))]) .ret))))))) := by kernel_rfl
theorem c61 : compF Try.prog ow Try.f61 = (some (25, ([(.t 2)], (.seq (.ops [(none, (.set 2 (.int .i64 0)))]) (.seq (.ops [(none, (.cp 5 0)), (none, (.len (some 6) (.t 5) false true)), (none, (.mv 3 6))]) (.seq (.seq (.ops [(none, (.set 4 (.int .i64 0)))]) (.block 0 (.loop (.seq (.seq (.ops [(none, (.cp 7 4)), (none, (.cp 8 0)), (none, (.len (some 9) (.t 8) false true)), (none, (.bin (some 10) .lss (.t 7) (.t 9) false false)), (none, (.cp 11 10)), ((some (11, true)), (.cp 12 3)), ((some (11, true)), (.bin (some 13) .lss (.t 12) (.k (.int .i64 1048576)) false false)), (none, (.pick (some 14) (.t 11) (.t 13) (.k (.bool false))))]) (.cond (.t 14) .skip (.exit 0))) (.seq (.block 1 (.ops [(none, (.cp 17 3)), (none, (.cp 18 0)), (none, (.cp 19 4)), (none, (.ia (some 20) (.t 18) (.t 19) (some 1) none)), (none, (.ld (some 21) (.t 20) (.one none))), (none, (.len (some 22) (.t 21) true false)), (none, (.bin (some 23) .add (.t 17) (.t 22) false false)), (none, (.mv 3 23))])) (.ops [(none, (.cp 15 4)), (none, (.bin (some 16) .add (.t 15) (.k (.int .i64 1)) false false)), (none, (.mv 4 16))])))))) (.seq (.ops [(none, (.mv 24 3)), (none, (.mv 2 24))]) .ret))))))) := by kernel_rfl
theorem c11 : compF Try.prog ow Try.f11 = (some (13, ([(.t 2)], (.seq (.ops [(none, (.box 1 (.t 0))), (none, (.set 2 (.bool false)))]) (.seq (.ops [(none, (.fa (some 3) (.t 1) 0)), (none, (.ld (some 4) (.t 3) (.one (some 4)))), (none, (.call (some 5) (.k (.func 60 [] [])) [(.t 4)] none)), (none, (.bin (some 6) .gtr (.t 5) (.k (.int .i64 2500)) false false)), (none, (.cp 7 6)), ((some (7, false)), (.fa (some 8) (.t 1) 1)), ((some (7, false)), (.ld (some 9) (.t 8) (.one (some 1)))), ((some (7, false)), (.call (some 10) (.k (.func 61 [] [])) [(.t 9)] none)), ((some (7, false)), (.bin (some 11) .gtr (.t 10) (.k (.int .i64 2000)) false false)), (none, (.pick (some 12) (.t 7) (.k (.bool true)) (.t 11))), (none, (.mv 2 12))]) .ret))))) := by kernel_rfl
def mayB (t : T) : Bool := (mayT t 5 24).1
theorem fn_May (t : T) (ht : t.ok) : PFn Try.prog 62 [t.av] (.bool (mayB t)) := by
  intro h
  refine fnC mixed Try.func62 c62 (by simp) ?_
  have n0 : ¬ h.n = h.n + 1 := by omega
  simp only [go_sem, Nat.reduceEqDiff, Nat.reduceAdd, Nat.reduceLeDiff, Nat.reduceLT, ↓reduceIte, reduceCtorEq, Int.reduceLT, Int.reduceToNat, Int.reduceEq, Int.reduceBEq, Int.reduceBNe, Nat.reduceBEq]
  obtain ⟨k1, k2, k3⟩ := fn_may t ht 5 24 (h.n + 1) ⟨h.n + 2, updB (updB h.bk h.n (.cells t.av.cells)) (h.n + 1) (.cells [.int .i64 24])⟩ (by omega) (by omega) (by omega) (by simp) (by simp [bk_apply])
  refine ccall k3 (by simp only [go_sem, Nat.reduceEqDiff, Nat.reduceAdd, Nat.reduceLeDiff, Nat.reduceLT, ↓reduceIte, reduceCtorEq, Int.reduceLT, Int.reduceToNat, Int.reduceEq, Int.reduceBEq, Int.reduceBNe, Nat.reduceBEq]) ?_
  simp only [Hp.put1]
  simp only [go_sem, Nat.reduceEqDiff, Nat.reduceAdd, Nat.reduceLeDiff, Nat.reduceLT, ↓reduceIte, reduceCtorEq, Int.reduceLT, Int.reduceToNat, Int.reduceEq, Int.reduceBEq, Int.reduceBNe, Nat.reduceBEq]
  rfl
theorem fn_Check (t : T) (ht : t.ok) : PFn Try.prog 13 [t.av] (.int .i64 (if mayB t = true then 0 else 1)) := by
  intro h
  refine fnC mixed Try.func13 c13 (by simp) ?_
  simp only [go_sem, Nat.reduceEqDiff, Nat.reduceAdd, Nat.reduceLeDiff, Nat.reduceLT, ↓reduceIte, reduceCtorEq, Int.reduceLT, Int.reduceToNat, Int.reduceEq, Int.reduceBEq, Int.reduceBNe, Nat.reduceBEq]
  refine pcall (fn_May t ht) (by simp only [go_sem, Nat.reduceEqDiff, Nat.reduceAdd, Nat.reduceLeDiff, Nat.reduceLT, ↓reduceIte, reduceCtorEq, Int.reduceLT, Int.reduceToNat, Int.reduceEq, Int.reduceBEq, Int.reduceBNe, Nat.reduceBEq]) ?_
  simp only [go_sem, Nat.reduceEqDiff, Nat.reduceAdd, Nat.reduceLeDiff, Nat.reduceLT, ↓reduceIte, reduceCtorEq, Int.reduceLT, Int.reduceToNat, Int.reduceEq, Int.reduceBEq, Int.reduceBNe, Nat.reduceBEq]
  refine cif (fun hc => ?_) (fun hc => ?_)
  · simp only [go_sem, Nat.reduceEqDiff, Nat.reduceAdd, Nat.reduceLeDiff, Nat.reduceLT, ↓reduceIte, reduceCtorEq, Int.reduceLT, Int.reduceToNat, Int.reduceEq, Int.reduceBEq, Int.reduceBNe, Nat.reduceBEq]
    simp at hc; simp [hc]
  · simp only [go_sem, Nat.reduceEqDiff, Nat.reduceAdd, Nat.reduceLeDiff, Nat.reduceLT, ↓reduceIte, reduceCtorEq, Int.reduceLT, Int.reduceToNat, Int.reduceEq, Int.reduceBEq, Int.reduceBNe, Nat.reduceBEq]
    simp at hc; simp [hc]
theorem fn_Order (t u : T) (ht : t.ok) (hu : u.ok) (mt : mayB t = true) (mu : mayB u = true) : PFn Try.prog 14 [t.av, u.av] (.tup [.int .i64 (cmpT t u), .int .i64 0]) := by
  intro h
  refine fnC mixed Try.func14 c14 (by simp) ?_
  simp only [go_sem, Nat.reduceEqDiff, Nat.reduceAdd, Nat.reduceLeDiff, Nat.reduceLT, ↓reduceIte, reduceCtorEq, Int.reduceLT, Int.reduceToNat, Int.reduceEq, Int.reduceBEq, Int.reduceBNe, Nat.reduceBEq]
  refine pcall (fn_May t ht) (by simp only [go_sem, Nat.reduceEqDiff, Nat.reduceAdd, Nat.reduceLeDiff, Nat.reduceLT, ↓reduceIte, reduceCtorEq, Int.reduceLT, Int.reduceToNat, Int.reduceEq, Int.reduceBEq, Int.reduceBNe, Nat.reduceBEq]) ?_
  simp only [go_sem, Nat.reduceEqDiff, Nat.reduceAdd, Nat.reduceLeDiff, Nat.reduceLT, ↓reduceIte, reduceCtorEq, Int.reduceLT, Int.reduceToNat, Int.reduceEq, Int.reduceBEq, Int.reduceBNe, Nat.reduceBEq, mt]
  refine pcall (fn_May u hu) (by simp only [go_sem, Nat.reduceEqDiff, Nat.reduceAdd, Nat.reduceLeDiff, Nat.reduceLT, ↓reduceIte, reduceCtorEq, Int.reduceLT, Int.reduceToNat, Int.reduceEq, Int.reduceBEq, Int.reduceBNe, Nat.reduceBEq]) ?_
  simp only [go_sem, Nat.reduceEqDiff, Nat.reduceAdd, Nat.reduceLeDiff, Nat.reduceLT, ↓reduceIte, reduceCtorEq, Int.reduceLT, Int.reduceToNat, Int.reduceEq, Int.reduceBEq, Int.reduceBNe, Nat.reduceBEq, mu]
  refine pcall (fn_cmpT t ht u hu) (by simp only [go_sem, Nat.reduceEqDiff, Nat.reduceAdd, Nat.reduceLeDiff, Nat.reduceLT, ↓reduceIte, reduceCtorEq, Int.reduceLT, Int.reduceToNat, Int.reduceEq, Int.reduceBEq, Int.reduceBNe, Nat.reduceBEq]) ?_
  simp only [go_sem, Nat.reduceEqDiff, Nat.reduceAdd, Nat.reduceLeDiff, Nat.reduceLT, ↓reduceIte, reduceCtorEq, Int.reduceLT, Int.reduceToNat, Int.reduceEq, Int.reduceBEq, Int.reduceBNe, Nat.reduceBEq]
def wlim : Int := 1048576
mutual
def wT : T → Int → Int | .mk k n v l, d => if (d == 0) = true then 1048576 else wTs l (IntKind.i64.wrap (d - 1)) (IntKind.i64.wrap (1 + n.length))
def wTs : List T → Int → Int → Int | [], d, n => n | t :: l, d, n => if decide (n < 1048576) = true then wTs l d (IntKind.i64.wrap (n + wT t d)) else n
end
def wSs : List (List UInt8) → Int → Int | [], n => n | s :: l, n => if decide (n < 1048576) = true then wSs l (IntKind.i64.wrap (n + s.length)) else n
theorem wTs_drop {l : List T} {i : Nat} (hi : i < l.length) (d n : Int) : wTs (l.drop i) d n = if decide (n < 1048576) = true then wTs (l.drop (i + 1)) d (IntKind.i64.wrap (n + wT l[i] d)) else n := by
  rw [List.drop_eq_getElem_cons hi, wTs]
theorem fn_weight : ∀ t : T, t.ok → ∀ d : Int, PFn Try.prog 83 [t.av, .int .i64 d] (.int .i64 (wT t d)) := by
  refine T.ind ?_
  intro k n v l ih hok d h
  rw [ok_mk] at hok
  rw [av_mk, wT]
  refine fnC mixed Try.func83 c83 (by simp) ?_
  simp only [go_sem, Nat.reduceEqDiff, Nat.reduceAdd, Nat.reduceLeDiff, Nat.reduceLT, ↓reduceIte, reduceCtorEq, Int.reduceLT, Int.reduceToNat, Int.reduceEq, Int.reduceBEq, Int.reduceBNe, Nat.reduceBEq]
  refine cif (fun hc => ?_) (fun hc => ?_)
  · simp only [go_sem, Nat.reduceEqDiff, Nat.reduceAdd, Nat.reduceLeDiff, Nat.reduceLT, ↓reduceIte, reduceCtorEq, Int.reduceLT, Int.reduceToNat, Int.reduceEq, Int.reduceBEq, Int.reduceBNe, Nat.reduceBEq, hc]
  · simp only [go_sem, Nat.reduceEqDiff, Nat.reduceAdd, Nat.reduceLeDiff, Nat.reduceLT, ↓reduceIte, reduceCtorEq, Int.reduceLT, Int.reduceToNat, Int.reduceEq, Int.reduceBEq, Int.reduceBNe, Nat.reduceBEq, hc]
    refine cloop (fun k' t => ∃ (i : Nat) (q : Int), i + k' = l.length ∧ t.fr 1 = .int .i64 d ∧ t.fr 2 = .ptr h.n 0 ∧ t.fr 5 = .int .i64 q ∧ t.fr 6 = .int .i64 (i : Nat) ∧ wTs (l.drop i) (IntKind.i64.wrap (d - 1)) q = wTs l (IntKind.i64.wrap (d - 1)) (IntKind.i64.wrap (1 + n.length)) ∧
      t.hp = ⟨h.n + 1, updB h.bk h.n (.cells [.int .i64 k, .str n, .int .i64 v, .sl .sh 4 (l.map T.av)])⟩) l.length ⟨0, IntKind.i64.wrap (1 + n.length), by simp [fr_apply, argsF]⟩ ?_
    rintro k' ⟨f, hp⟩ ⟨i, q, hk, f1, f2, f5, f6, he, rfl⟩
    simp only at f1 f2 f5 f6
    simp only [go_sem, Nat.reduceEqDiff, Nat.reduceAdd, Nat.reduceLeDiff, Nat.reduceLT, ↓reduceIte, reduceCtorEq, Int.reduceLT, Int.reduceToNat, Int.reduceEq, Int.reduceBEq, Int.reduceBNe, Nat.reduceBEq, f1, f2, f5, f6]
    refine cog (fun hb => ?_) (fun hb => ?_)
    · have hi : i < l.length := by simpa using hb
      rw [wTs_drop hi] at he
      simp only [go_sem, Nat.reduceEqDiff, Nat.reduceAdd, Nat.reduceLeDiff, Nat.reduceLT, ↓reduceIte, reduceCtorEq, Int.reduceLT, Int.reduceToNat, Int.reduceEq, Int.reduceBEq, Int.reduceBNe, Nat.reduceBEq, f1, f2, f5, f6, hb]
      refine cif (fun hq => ?_) (fun hq => ?_)
      · rw [if_pos hq] at he
        have hw : IntKind.i64.wrap ((i : Int) + 1) = ((i + 1 : Nat) : Int) := by rw [wrap64] <;> omega
        simp only [go_sem, Nat.reduceEqDiff, Nat.reduceAdd, Nat.reduceLeDiff, Nat.reduceLT, ↓reduceIte, reduceCtorEq, Int.reduceLT, Int.reduceToNat, Int.reduceEq, Int.reduceBEq, Int.reduceBNe, Nat.reduceBEq, f1, f2, f5, f6, hb, hq, getAv hi]
        refine pcall (ih _ (List.getElem_mem hi) (hok.2.2 _ (List.getElem_mem hi)) _) (by simp only [go_sem, Nat.reduceEqDiff, Nat.reduceAdd, Nat.reduceLeDiff, Nat.reduceLT, ↓reduceIte, reduceCtorEq, Int.reduceLT, Int.reduceToNat, Int.reduceEq, Int.reduceBEq, Int.reduceBNe, Nat.reduceBEq, f1]; rfl) ?_
        simp only [go_sem, Nat.reduceEqDiff, Nat.reduceAdd, Nat.reduceLeDiff, Nat.reduceLT, ↓reduceIte, reduceCtorEq, Int.reduceLT, Int.reduceToNat, Int.reduceEq, Int.reduceBEq, Int.reduceBNe, Nat.reduceBEq, f1, f2, f5, f6, hw]
        refine ⟨k' - 1, by omega, i + 1, _, by omega, rfl, ?_⟩; simp [he]
      · have hq' : ¬ decide (q < 1048576) = true := by simpa using hq
        rw [if_neg hq'] at he
        simp only [go_sem, Nat.reduceEqDiff, Nat.reduceAdd, Nat.reduceLeDiff, Nat.reduceLT, ↓reduceIte, reduceCtorEq, Int.reduceLT, Int.reduceToNat, Int.reduceEq, Int.reduceBEq, Int.reduceBNe, Nat.reduceBEq, f1, f2, f5, f6, hb, hq]
        rw [he]
    · have hi : l.length ≤ i := by simpa using hb
      rw [List.drop_eq_nil_of_le hi, wTs] at he
      simp only [go_sem, Nat.reduceEqDiff, Nat.reduceAdd, Nat.reduceLeDiff, Nat.reduceLT, ↓reduceIte, reduceCtorEq, Int.reduceLT, Int.reduceToNat, Int.reduceEq, Int.reduceBEq, Int.reduceBNe, Nat.reduceBEq, f1, f2, f5, f6, hb]
      rw [he]
theorem fn_Terms (l : List T) (hl : l.length < 1000000000000000) (ho : ∀ x ∈ l, x.ok) : PFn Try.prog 60 [.sl .sh 4 (l.map T.av)] (.int .i64 (wTs l 30 l.length)) := by
  intro h
  refine fnC mixed Try.func60 c60 (by simp) ?_
  simp only [go_sem, Nat.reduceEqDiff, Nat.reduceAdd, Nat.reduceLeDiff, Nat.reduceLT, ↓reduceIte, reduceCtorEq, Int.reduceLT, Int.reduceToNat, Int.reduceEq, Int.reduceBEq, Int.reduceBNe, Nat.reduceBEq]
  refine cloop (fun k' t => ∃ (i : Nat) (q : Int), i + k' = l.length ∧ t.fr 0 = .sl .sh 4 (l.map T.av) ∧ t.fr 3 = .int .i64 q ∧ t.fr 4 = .int .i64 (i : Nat) ∧ wTs (l.drop i) 30 q = wTs l 30 l.length ∧ t.hp = h) l.length ⟨0, l.length, by simp [fr_apply, argsF]⟩ ?_
  rintro k' ⟨f, hp⟩ ⟨i, q, hk, f0, f3, f4, he, rfl⟩
  simp only at f0 f3 f4
  simp only [go_sem, Nat.reduceEqDiff, Nat.reduceAdd, Nat.reduceLeDiff, Nat.reduceLT, ↓reduceIte, reduceCtorEq, Int.reduceLT, Int.reduceToNat, Int.reduceEq, Int.reduceBEq, Int.reduceBNe, Nat.reduceBEq, f0, f3, f4]
  refine cog (fun hb => ?_) (fun hb => ?_)
  · have hi : i < l.length := by simpa using hb
    rw [wTs_drop hi] at he
    simp only [go_sem, Nat.reduceEqDiff, Nat.reduceAdd, Nat.reduceLeDiff, Nat.reduceLT, ↓reduceIte, reduceCtorEq, Int.reduceLT, Int.reduceToNat, Int.reduceEq, Int.reduceBEq, Int.reduceBNe, Nat.reduceBEq, f0, f3, f4, hb]
    refine cif (fun hq => ?_) (fun hq => ?_)
    · rw [if_pos hq] at he
      have hw : IntKind.i64.wrap ((i : Int) + 1) = ((i + 1 : Nat) : Int) := by rw [wrap64] <;> omega
      simp only [go_sem, Nat.reduceEqDiff, Nat.reduceAdd, Nat.reduceLeDiff, Nat.reduceLT, ↓reduceIte, reduceCtorEq, Int.reduceLT, Int.reduceToNat, Int.reduceEq, Int.reduceBEq, Int.reduceBNe, Nat.reduceBEq, f0, f3, f4, hb, hq, getAv hi]
      refine pcall (fn_weight _ (ho _ (List.getElem_mem hi)) _) (by simp only [go_sem, Nat.reduceEqDiff, Nat.reduceAdd, Nat.reduceLeDiff, Nat.reduceLT, ↓reduceIte, reduceCtorEq, Int.reduceLT, Int.reduceToNat, Int.reduceEq, Int.reduceBEq, Int.reduceBNe, Nat.reduceBEq]; rfl) ?_
      simp only [go_sem, Nat.reduceEqDiff, Nat.reduceAdd, Nat.reduceLeDiff, Nat.reduceLT, ↓reduceIte, reduceCtorEq, Int.reduceLT, Int.reduceToNat, Int.reduceEq, Int.reduceBEq, Int.reduceBNe, Nat.reduceBEq, f0, f3, f4, hw]
      refine ⟨k' - 1, by omega, i + 1, _, by omega, rfl, ?_⟩; simp [he]
    · have hq' : ¬ decide (q < 1048576) = true := by simpa using hq
      rw [if_neg hq'] at he
      simp only [go_sem, Nat.reduceEqDiff, Nat.reduceAdd, Nat.reduceLeDiff, Nat.reduceLT, ↓reduceIte, reduceCtorEq, Int.reduceLT, Int.reduceToNat, Int.reduceEq, Int.reduceBEq, Int.reduceBNe, Nat.reduceBEq, f0, f3, f4, hb, hq]
      rw [he]
  · have hi : l.length ≤ i := by simpa using hb
    rw [List.drop_eq_nil_of_le hi, wTs] at he
    simp only [go_sem, Nat.reduceEqDiff, Nat.reduceAdd, Nat.reduceLeDiff, Nat.reduceLT, ↓reduceIte, reduceCtorEq, Int.reduceLT, Int.reduceToNat, Int.reduceEq, Int.reduceBEq, Int.reduceBNe, Nat.reduceBEq, f0, f3, f4, hb]
    rw [he]
theorem wSs_drop {l : List (List UInt8)} {i : Nat} (hi : i < l.length) (n : Int) : wSs (l.drop i) n = if decide (n < 1048576) = true then wSs (l.drop (i + 1)) (IntKind.i64.wrap (n + l[i].length)) else n := by
  rw [List.drop_eq_getElem_cons hi, wSs]
theorem getStr {l : List (List UInt8)} {i : Nat} (hi : i < l.length) : (l.map AV.str)[i]? = some (.str l[i]) := by simp [List.getElem?_eq_getElem hi]
theorem fn_Texts (l : List (List UInt8)) (hl : l.length < 1000000000000000) : PFn Try.prog 61 [.sl .sh 1 (l.map AV.str)] (.int .i64 (wSs l l.length)) := by
  intro h
  refine fnC mixed Try.func61 c61 (by simp) ?_
  simp only [go_sem, Nat.reduceEqDiff, Nat.reduceAdd, Nat.reduceLeDiff, Nat.reduceLT, ↓reduceIte, reduceCtorEq, Int.reduceLT, Int.reduceToNat, Int.reduceEq, Int.reduceBEq, Int.reduceBNe, Nat.reduceBEq]
  refine cloop (fun k' t => ∃ (i : Nat) (q : Int), i + k' = l.length ∧ t.fr 0 = .sl .sh 1 (l.map AV.str) ∧ t.fr 3 = .int .i64 q ∧ t.fr 4 = .int .i64 (i : Nat) ∧ wSs (l.drop i) q = wSs l l.length ∧ t.hp = h) l.length ⟨0, l.length, by simp [fr_apply, argsF]⟩ ?_
  rintro k' ⟨f, hp⟩ ⟨i, q, hk, f0, f3, f4, he, rfl⟩
  simp only at f0 f3 f4
  simp only [go_sem, Nat.reduceEqDiff, Nat.reduceAdd, Nat.reduceLeDiff, Nat.reduceLT, ↓reduceIte, reduceCtorEq, Int.reduceLT, Int.reduceToNat, Int.reduceEq, Int.reduceBEq, Int.reduceBNe, Nat.reduceBEq, f0, f3, f4]
  refine cog (fun hb => ?_) (fun hb => ?_)
  · have hi : i < l.length := by simpa using hb
    rw [wSs_drop hi] at he
    simp only [go_sem, Nat.reduceEqDiff, Nat.reduceAdd, Nat.reduceLeDiff, Nat.reduceLT, ↓reduceIte, reduceCtorEq, Int.reduceLT, Int.reduceToNat, Int.reduceEq, Int.reduceBEq, Int.reduceBNe, Nat.reduceBEq, f0, f3, f4, hb]
    refine cif (fun hq => ?_) (fun hq => ?_)
    · rw [if_pos hq] at he
      have hw : IntKind.i64.wrap ((i : Int) + 1) = ((i + 1 : Nat) : Int) := by rw [wrap64] <;> omega
      simp only [go_sem, Nat.reduceEqDiff, Nat.reduceAdd, Nat.reduceLeDiff, Nat.reduceLT, ↓reduceIte, reduceCtorEq, Int.reduceLT, Int.reduceToNat, Int.reduceEq, Int.reduceBEq, Int.reduceBNe, Nat.reduceBEq, f0, f3, f4, hb, hq, getStr hi, hw]
      refine ⟨k' - 1, by omega, i + 1, _, by omega, rfl, ?_⟩; simp [he]
    · have hq' : ¬ decide (q < 1048576) = true := by simpa using hq
      rw [if_neg hq'] at he
      simp only [go_sem, Nat.reduceEqDiff, Nat.reduceAdd, Nat.reduceLeDiff, Nat.reduceLT, ↓reduceIte, reduceCtorEq, Int.reduceLT, Int.reduceToNat, Int.reduceEq, Int.reduceBEq, Int.reduceBNe, Nat.reduceBEq, f0, f3, f4, hb, hq]
      rw [he]
  · have hi : l.length ≤ i := by simpa using hb
    rw [List.drop_eq_nil_of_le hi, wSs] at he
    simp only [go_sem, Nat.reduceEqDiff, Nat.reduceAdd, Nat.reduceLeDiff, Nat.reduceLT, ↓reduceIte, reduceCtorEq, Int.reduceLT, Int.reduceToNat, Int.reduceEq, Int.reduceBEq, Int.reduceBNe, Nat.reduceBEq, f0, f3, f4, hb]
    rw [he]
def heavyB (l : List T) (s : List (List UInt8)) : Bool := decide (2500 < wTs l 30 l.length) || decide (2000 < wSs s s.length)
theorem fn_Heavy (l : List T) (s : List (List UInt8)) (hl : l.length < 1000000000000000) (ho : ∀ x ∈ l, x.ok) (hs : s.length < 1000000000000000) : PFn Try.prog 11 [.agg [.sl .sh 4 (l.map T.av), .sl .sh 1 (s.map AV.str)]] (.bool (heavyB l s)) := by
  intro h
  refine fnC mixed Try.func11 c11 (by simp) ?_
  simp only [go_sem, Nat.reduceEqDiff, Nat.reduceAdd, Nat.reduceLeDiff, Nat.reduceLT, ↓reduceIte, reduceCtorEq, Int.reduceLT, Int.reduceToNat, Int.reduceEq, Int.reduceBEq, Int.reduceBNe, Nat.reduceBEq]
  refine pcall (fn_Terms l hl ho) (by simp only [go_sem, Nat.reduceEqDiff, Nat.reduceAdd, Nat.reduceLeDiff, Nat.reduceLT, ↓reduceIte, reduceCtorEq, Int.reduceLT, Int.reduceToNat, Int.reduceEq, Int.reduceBEq, Int.reduceBNe, Nat.reduceBEq]) ?_
  simp only [go_sem, Nat.reduceEqDiff, Nat.reduceAdd, Nat.reduceLeDiff, Nat.reduceLT, ↓reduceIte, reduceCtorEq, Int.reduceLT, Int.reduceToNat, Int.reduceEq, Int.reduceBEq, Int.reduceBNe, Nat.reduceBEq]
  refine cog (fun hb => ?_) (fun hb => ?_)
  · simp only [go_sem, Nat.reduceEqDiff, Nat.reduceAdd, Nat.reduceLeDiff, Nat.reduceLT, ↓reduceIte, reduceCtorEq, Int.reduceLT, Int.reduceToNat, Int.reduceEq, Int.reduceBEq, Int.reduceBNe, Nat.reduceBEq, hb]
    refine pcall (fn_Texts s hs) (by simp only [go_sem, Nat.reduceEqDiff, Nat.reduceAdd, Nat.reduceLeDiff, Nat.reduceLT, ↓reduceIte, reduceCtorEq, Int.reduceLT, Int.reduceToNat, Int.reduceEq, Int.reduceBEq, Int.reduceBNe, Nat.reduceBEq]) ?_
    simp only [go_sem, Nat.reduceEqDiff, Nat.reduceAdd, Nat.reduceLeDiff, Nat.reduceLT, ↓reduceIte, reduceCtorEq, Int.reduceLT, Int.reduceToNat, Int.reduceEq, Int.reduceBEq, Int.reduceBNe, Nat.reduceBEq, hb]
    simp at hb
    simp [heavyB, show ¬ 2500 < wTs l 30 l.length by omega]
  · simp only [go_sem, Nat.reduceEqDiff, Nat.reduceAdd, Nat.reduceLeDiff, Nat.reduceLT, ↓reduceIte, reduceCtorEq, Int.reduceLT, Int.reduceToNat, Int.reduceEq, Int.reduceBEq, Int.reduceBNe, Nat.reduceBEq, hb]
    simp at hb
    simp [heavyB, hb]
end Go.Proofs.Ythaoooohomfkcaa.Ab
