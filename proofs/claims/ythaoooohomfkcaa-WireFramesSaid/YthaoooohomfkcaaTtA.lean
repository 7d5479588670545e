/- Which term is ahead. Names of terms. -/
import Derived.Test.YthaoooohomfkcaaTt1
import Derived.Test.YthaoooohomfkcaaAb26
import Derived.Test.YthaoooohomfkcaaShelf
namespace Go.Proofs.Ythaoooohomfkcaa.Ab
set_option linter.unusedVariables false
set_option linter.unusedSimpArgs false
set_option maxRecDepth 10000
attribute [local go_sem] Nat.zero_le Bool.not_true Bool.not_false Bool.false_eq_true if_false if_true forall_const true_and and_true List.map Option.map Bool.and_self Bool.and_true Bool.true_and Bool.false_and Bool.and_false List.getElem?_cons_zero List.getElem?_nil List.getElem?_cons_succ Int.natCast_nonneg Int.toNat_natCast List.length_map List.length_cons List.length_nil Nat.zero_add Nat.le_refl List.drop_zero List.drop_succ_cons List.take_succ_cons List.take_zero List.take_nil ne_eq not_true_eq_false not_false_eq_true upd_same Nat.add_assoc Nat.left_eq_add Nat.add_eq_left Nat.add_left_cancel_iff Nat.succ_ne_self Nat.one_ne_zero Nat.add_zero Nat.le_add_right ite_self List.set_cons_zero List.set_cons_succ List.all_cons List.all_nil bne_self_eq_false List.isEmpty_cons Int.cast_ofNat_Int Nat.mul_one List.nil_append or_self or_true true_or List.cons_append List.append_nil Option.none_beq_some Option.some_beq_some beq_self_eq_true
open Go.RowKit
theorem fn_strcmp (a b : List UInt8) : PFn Try.prog 104 [.str a, .str b] (.int .i64 (Lib.compareBytes a b)) := by
  refine pfn_val (by kernel_rfl) (int_no _ _) fun vs w g hl hv => ⟨_, VR.int _ _, ?_⟩
  rw [two_vals hl, str_val (hv 0), str_val (hv 1)]
  exact Try.strings_Compare ⟨⟨a⟩⟩ ⟨⟨b⟩⟩ w
mutual
def cmpT : T → T → Int | .mk k n v l, .mk k' n' v' l' => if orI [cmpI k k', cmpI v v', cmpI l.length l'.length, Lib.compareBytes n n'] ≠ 0 then orI [cmpI k k', cmpI v v', cmpI l.length l'.length, Lib.compareBytes n n'] else cmpTs l l'
def cmpTs : List T → List T → Int | [], [] => 0 | [], _ => -1 | _ :: _, [] => 1 | t :: l, u :: m => if cmpT t u ≠ 0 then cmpT t u else cmpTs l m
end
theorem c63 : compF Try.prog ow Try.f63 = (some (38, ([(.t 4)], (.seq (.ops [(none, (.box 2 (.t 0))), (none, (.box 3 (.t 1))), (none, (.set 4 (.int .i64 0)))]) (.seq (.seq (.opsD [(none, (.fa (some 6) (.t 2) 0)), (none, (.ld (some 7) (.t 6) (.one none))), (none, (.fa (some 8) (.t 3) 0)), (none, (.ld (some 9) (.t 8) (.one none))), (none, (.call (some 10) (.k (.func 103 [] [])) [(.t 7), (.t 9)] none)), (none, (.fa (some 11) (.t 2) 2)), (none, (.ld (some 12) (.t 11) (.one none))), (none, (.fa (some 13) (.t 3) 2)), (none, (.ld (some 14) (.t 13) (.one none))), (none, (.call (some 15) (.k (.func 103 [] [])) [(.t 12), (.t 14)] none)), (none, (.fa (some 16) (.t 2) 3)), (none, (.ld (some 17) (.t 16) (.one (some 4)))), (none, (.len (some 18) (.t 17) false true)), (none, (.fa (some 19) (.t 3) 3)), (none, (.ld (some 20) (.t 19) (.one (some 4)))), (none, (.len (some 21) (.t 20) false true)), (none, (.call (some 22) (.k (.func 103 [] [])) [(.t 18), (.t 21)] none)), (none, (.fa (some 23) (.t 2) 1)), (none, (.ld (some 24) (.t 23) (.one none))), (none, (.fa (some 25) (.t 3) 1)), (none, (.ld (some 26) (.t 25) (.one none))), (none, (.call (some 27) (.k (.func 104 [] [])) [(.t 24), (.t 26)] none)), (none, (.bs 28 1 [(.t 10), (.t 15), (.t 22), (.t 27)])), (none, (.call (some 29) (.k (.func 102 [] [])) [(.t 28)] none)), (none, (.mv 5 29))]) (.seq (.ops [(none, (.cp 30 5)), (none, (.bin (some 31) .neq (.t 30) (.k (.int .i64 0)) false false))]) (.cond (.t 31) (.seq (.ops [(none, (.mv 32 5)), (none, (.mv 4 32))]) .ret) .skip))) (.seq (.ops [(none, (.fa (some 33) (.t 2) 3)), (none, (.ld (some 34) (.t 33) (.one (some 4)))), (none, (.fa (some 35) (.t 3) 3)), (none, (.ld (some 36) (.t 35) (.one (some 4)))), (none, (.call (some 37) (.k (.func 105 [] [])) [(.t 34), (.t 36), (.k (.func 63 [] []))] none)), (none, (.mv 4 37))]) .ret)))))) := by kernel_rfl
theorem c105 : compF Try.prog ow Try.f105 = (some (39, ([(.t 6)], (.seq (.ops [(none, (.set 6 (.int .i64 0)))]) (.seq (.seq (.ops [(none, (.cp 11 0)), (none, (.len (some 12) (.t 11) false true)), (none, (.set 13 (.int .i64 0)))]) (.block 0 (.loop (.seq (.ops [(none, (.bin (some 14) .lss (.t 13) (.t 12) false false))]) (.seq (.cond (.t 14) .skip (.exit 0)) (.seq (.block 1 (.seq (.ops [(none, (.mv 15 13)), (none, (.ia (some 16) (.t 11) (.t 13) (some 4) none)), (none, (.ld (some 17) (.t 16) (.agg 4))), (none, (.alloc 8 [(.int .i64 0), (.str []), (.int .i64 0), (.sl .full 4 [])])), (none, (.mv 7 15)), (none, (.st (.t 8) (.t 17) 4))]) (.seq (.seq (.ops [(none, (.cp 18 7)), (none, (.cp 19 1)), (none, (.len (some 20) (.t 19) false true)), (none, (.bin (some 21) .geq (.t 18) (.t 20) false false))]) (.cond (.t 21) (.seq (.ops [(none, (.set 6 (.int .i64 1)))]) .ret) .skip)) (.seq (.ops [(none, (.cp 22 1)), (none, (.cp 23 7)), (none, (.ia (some 24) (.t 22) (.t 23) (some 4) none)), (none, (.ld (some 25) (.t 24) (.agg 4))), (none, (.alloc 9 [(.int .i64 0), (.str []), (.int .i64 0), (.sl .full 4 [])])), (none, (.st (.t 9) (.t 25) 4))]) (.seq (.ops [(none, (.cp 26 2)), (none, (.ld (some 27) (.t 8) (.agg 4))), (none, (.ld (some 28) (.t 9) (.agg 4))), (none, (.call (some 29) (.t 26) [(.t 27), (.t 28)] none)), (none, (.mv 10 29))]) (.seq (.ops [(none, (.cp 30 10)), (none, (.bin (some 31) .neq (.t 30) (.k (.int .i64 0)) false false))]) (.cond (.t 31) (.seq (.ops [(none, (.mv 32 10)), (none, (.mv 6 32))]) .ret) .skip))))))) (.ops [(none, (.bin (some 33) .add (.t 13) (.k (.int .i64 1)) false false)), (none, (.cp 13 33))]))))))) (.seq (.seq (.ops [(none, (.cp 34 0)), (none, (.len (some 35) (.t 34) false true)), (none, (.cp 36 1)), (none, (.len (some 37) (.t 36) false true)), (none, (.bin (some 38) .lss (.t 35) (.t 37) false false))]) (.cond (.t 38) (.seq (.ops [(none, (.set 6 (.int .i64 (-1))))]) .ret) .skip)) (.seq (.ops [(none, (.set 6 (.int .i64 0)))]) .ret))))))) := by kernel_rfl
theorem fn_cmpTs (l m : List T) (hl : l.length < 1000000000000000) (ih : ∀ x ∈ l, x.ok → ∀ y : T, y.ok → PFn Try.prog 63 [x.av, y.av] (.int .i64 (cmpT x y))) (ho : ∀ x ∈ l, x.ok) (ho' : ∀ x ∈ m, x.ok) :
    PFn Try.prog 105 [.sl .sh 4 (l.map T.av), .sl .sh 4 (m.map T.av), .func 63 [] []] (.int .i64 (cmpTs l m)) := by
  intro h
  refine fnC mixed Try.func105 c105 (by simp) ?_
  simp only [go_sem, Nat.reduceEqDiff, Nat.reduceAdd, Nat.reduceLeDiff, Nat.reduceLT, ↓reduceIte, reduceCtorEq, Int.reduceLT, Int.reduceToNat, Int.reduceEq, Int.reduceBEq, Int.reduceBNe, Nat.reduceBEq]
  refine cloop (fun k t => ∃ i, i + k = l.length ∧ i ≤ m.length ∧ t.fr 0 = .sl .sh 4 (l.map T.av) ∧ t.fr 1 = .sl .sh 4 (m.map T.av) ∧ t.fr 2 = .func 63 [] [] ∧ t.fr 11 = .sl .sh 4 (l.map T.av) ∧ t.fr 12 = .int .i64 l.length ∧ t.fr 13 = .int .i64 (i : Nat) ∧ cmpTs (l.drop i) (m.drop i) = cmpTs l m ∧ Shrink h t.hp h) l.length ⟨0, by simp [fr_apply, argsF, shrink_iff]⟩ ?_
  rintro k ⟨f, hp⟩ ⟨i, hk, him, h0, h1, h2, h11, h12, h13, he, hsh⟩
  simp only at h0 h1 h2 h11 h12 h13 hsh
  simp only [go_sem, Nat.reduceEqDiff, Nat.reduceAdd, Nat.reduceLeDiff, Nat.reduceLT, ↓reduceIte, reduceCtorEq, Int.reduceLT, Int.reduceToNat, Int.reduceEq, Int.reduceBEq, Int.reduceBNe, Nat.reduceBEq, h11, h12, h13]
  refine cif (fun hb => ?_) (fun hb => ?_)
  · have hi : i < l.length := by simpa using hb
    have hsn : h.n ≤ hp.n := hsh.2.1
    have hsn' : h.n ≤ hp.n + 1 := by omega
    have hsg := shrink_grow (n := hp.n + 2) hsh (by omega)
    have hd := List.drop_eq_getElem_cons hi
    simp only [go_sem, Nat.reduceEqDiff, Nat.reduceAdd, Nat.reduceLeDiff, Nat.reduceLT, ↓reduceIte, reduceCtorEq, Int.reduceLT, Int.reduceToNat, Int.reduceEq, Int.reduceBEq, Int.reduceBNe, Nat.reduceBEq, h0, h1, h2, h11, h12, h13, getAv hi]
    refine cif (fun hc => ?_) (fun hc => ?_)
    · simp only [go_sem, Nat.reduceEqDiff, Nat.reduceAdd, Nat.reduceLeDiff, Nat.reduceLT, ↓reduceIte, reduceCtorEq, Int.reduceLT, Int.reduceToNat, Int.reduceEq, Int.reduceBEq, Int.reduceBNe, Nat.reduceBEq, hsn, hsh]
      have hc : m.length ≤ i := by simpa using hc
      rw [hd, List.drop_eq_nil_of_le hc, cmpTs] at he
      simp [← he, shrink_grow hsh (show hp.n ≤ hp.n + 1 by omega)]
    · have hj : i < m.length := by simpa using hc
      rw [hd, List.drop_eq_getElem_cons hj, cmpTs] at he
      simp only [go_sem, Nat.reduceEqDiff, Nat.reduceAdd, Nat.reduceLeDiff, Nat.reduceLT, ↓reduceIte, reduceCtorEq, Int.reduceLT, Int.reduceToNat, Int.reduceEq, Int.reduceBEq, Int.reduceBNe, Nat.reduceBEq, h0, h1, h2, h11, h12, h13, getAv hi, getAv hj]
      refine pcall (ih _ (List.getElem_mem hi) (ho _ (List.getElem_mem hi)) m[i] (ho' _ (List.getElem_mem hj))) (by simp only [go_sem, Nat.reduceEqDiff, Nat.reduceAdd, Nat.reduceLeDiff, Nat.reduceLT, ↓reduceIte, reduceCtorEq, Int.reduceLT, Int.reduceToNat, Int.reduceEq, Int.reduceBEq, Int.reduceBNe, Nat.reduceBEq, h2]) ?_
      simp only [go_sem, Nat.reduceEqDiff, Nat.reduceAdd, Nat.reduceLeDiff, Nat.reduceLT, ↓reduceIte, reduceCtorEq, Int.reduceLT, Int.reduceToNat, Int.reduceEq, Int.reduceBEq, Int.reduceBNe, Nat.reduceBEq]
      refine cif (fun hn => ?_) (fun hn => ?_)
      · simp only [go_sem, Nat.reduceEqDiff, Nat.reduceAdd, Nat.reduceLeDiff, Nat.reduceLT, ↓reduceIte, reduceCtorEq, Int.reduceLT, Int.reduceToNat, Int.reduceEq, Int.reduceBEq, Int.reduceBNe, Nat.reduceBEq, hsn, hsn', hsg]
        have hn' : cmpT l[i] m[i] ≠ 0 := by simpa using hn
        simp [hn'] at he
        simp [he]
      · have hn' : cmpT l[i] m[i] = 0 := by simpa using hn
        have hw : IntKind.i64.wrap ((i : Int) + 1) = ((i + 1 : Nat) : Int) := by rw [wrap64] <;> omega
        simp [hn'] at he
        simp only [go_sem, Nat.reduceEqDiff, Nat.reduceAdd, Nat.reduceLeDiff, Nat.reduceLT, ↓reduceIte, reduceCtorEq, Int.reduceLT, Int.reduceToNat, Int.reduceEq, Int.reduceBEq, Int.reduceBNe, Nat.reduceBEq, h0, h1, h2, h11, h12, h13, hw, hsn, hsn']
        refine ⟨k - 1, by omega, i + 1, by omega, by omega, ?_⟩; simp [he, hsg]
  · simp only [go_sem, Nat.reduceEqDiff, Nat.reduceAdd, Nat.reduceLeDiff, Nat.reduceLT, ↓reduceIte, reduceCtorEq, Int.reduceLT, Int.reduceToNat, Int.reduceEq, Int.reduceBEq, Int.reduceBNe, Nat.reduceBEq, h0, h1, h2, h11, h12, h13]
    have hb' : l.length ≤ i := by simpa using hb
    refine cif (fun hc => ?_) (fun hc => ?_)
    · simp only [go_sem, Nat.reduceEqDiff, Nat.reduceAdd, Nat.reduceLeDiff, Nat.reduceLT, ↓reduceIte, reduceCtorEq, Int.reduceLT, Int.reduceToNat, Int.reduceEq, Int.reduceBEq, Int.reduceBNe, Nat.reduceBEq]
      simp at hc
      rw [List.drop_eq_nil_of_le hb', List.drop_eq_getElem_cons (show i < m.length by omega)] at he
      simp [cmpTs] at he
      simp [← he, hsh]
    · simp only [go_sem, Nat.reduceEqDiff, Nat.reduceAdd, Nat.reduceLeDiff, Nat.reduceLT, ↓reduceIte, reduceCtorEq, Int.reduceLT, Int.reduceToNat, Int.reduceEq, Int.reduceBEq, Int.reduceBNe, Nat.reduceBEq]
      simp at hc
      rw [List.drop_eq_nil_of_le hb', List.drop_eq_nil_of_le (by omega), cmpTs] at he
      simp [← he, hsh]
theorem fn_cmpT : ∀ (x : T), x.ok → ∀ y : T, y.ok → PFn Try.prog 63 [x.av, y.av] (.int .i64 (cmpT x y)) := by
  refine T.ind ?_
  rintro k n v l ih hok ⟨k', n', v', l'⟩ hok'
  rw [ok_mk] at hok hok'
  intro h
  rw [av_mk, av_mk]
  refine fnC mixed Try.func63 c63 (by simp) ?_
  simp only [go_sem, Nat.reduceEqDiff, Nat.reduceAdd, Nat.reduceLeDiff, Nat.reduceLT, ↓reduceIte, reduceCtorEq, Int.reduceLT, Int.reduceToNat, Int.reduceEq, Int.reduceBEq, Int.reduceBNe, Nat.reduceBEq]
  refine pcallD (fn_cmp k k') (by simp only [go_sem, Nat.reduceEqDiff, Nat.reduceAdd, Nat.reduceLeDiff, Nat.reduceLT, ↓reduceIte, reduceCtorEq, Int.reduceLT, Int.reduceToNat, Int.reduceEq, Int.reduceBEq, Int.reduceBNe, Nat.reduceBEq]) ?_
  simp only [go_sem, Nat.reduceEqDiff, Nat.reduceAdd, Nat.reduceLeDiff, Nat.reduceLT, ↓reduceIte, reduceCtorEq, Int.reduceLT, Int.reduceToNat, Int.reduceEq, Int.reduceBEq, Int.reduceBNe, Nat.reduceBEq]
  refine pcallD (fn_cmp v v') (by simp only [go_sem, Nat.reduceEqDiff, Nat.reduceAdd, Nat.reduceLeDiff, Nat.reduceLT, ↓reduceIte, reduceCtorEq, Int.reduceLT, Int.reduceToNat, Int.reduceEq, Int.reduceBEq, Int.reduceBNe, Nat.reduceBEq]) ?_
  simp only [go_sem, Nat.reduceEqDiff, Nat.reduceAdd, Nat.reduceLeDiff, Nat.reduceLT, ↓reduceIte, reduceCtorEq, Int.reduceLT, Int.reduceToNat, Int.reduceEq, Int.reduceBEq, Int.reduceBNe, Nat.reduceBEq]
  refine pcallD (fn_cmp l.length l'.length) (by simp only [go_sem, Nat.reduceEqDiff, Nat.reduceAdd, Nat.reduceLeDiff, Nat.reduceLT, ↓reduceIte, reduceCtorEq, Int.reduceLT, Int.reduceToNat, Int.reduceEq, Int.reduceBEq, Int.reduceBNe, Nat.reduceBEq]) ?_
  simp only [go_sem, Nat.reduceEqDiff, Nat.reduceAdd, Nat.reduceLeDiff, Nat.reduceLT, ↓reduceIte, reduceCtorEq, Int.reduceLT, Int.reduceToNat, Int.reduceEq, Int.reduceBEq, Int.reduceBNe, Nat.reduceBEq]
  refine pcallD (fn_strcmp n n') (by simp only [go_sem, Nat.reduceEqDiff, Nat.reduceAdd, Nat.reduceLeDiff, Nat.reduceLT, ↓reduceIte, reduceCtorEq, Int.reduceLT, Int.reduceToNat, Int.reduceEq, Int.reduceBEq, Int.reduceBNe, Nat.reduceBEq]) ?_
  simp only [go_sem, Nat.reduceEqDiff, Nat.reduceAdd, Nat.reduceLeDiff, Nat.reduceLT, ↓reduceIte, reduceCtorEq, Int.reduceLT, Int.reduceToNat, Int.reduceEq, Int.reduceBEq, Int.reduceBNe, Nat.reduceBEq]
  refine pcallD (fn_or [cmpI k k', cmpI v v', cmpI l.length l'.length, Lib.compareBytes n n'] (by simp)) (by simp only [go_sem, Nat.reduceEqDiff, Nat.reduceAdd, Nat.reduceLeDiff, Nat.reduceLT, ↓reduceIte, reduceCtorEq, Int.reduceLT, Int.reduceToNat, Int.reduceEq, Int.reduceBEq, Int.reduceBNe, Nat.reduceBEq]) ?_
  simp only [go_sem, Nat.reduceEqDiff, Nat.reduceAdd, Nat.reduceLeDiff, Nat.reduceLT, ↓reduceIte, reduceCtorEq, Int.reduceLT, Int.reduceToNat, Int.reduceEq, Int.reduceBEq, Int.reduceBNe, Nat.reduceBEq]
  refine cif (fun hc => ?_) (fun hc => ?_)
  · simp only [go_sem, Nat.reduceEqDiff, Nat.reduceAdd, Nat.reduceLeDiff, Nat.reduceLT, ↓reduceIte, reduceCtorEq, Int.reduceLT, Int.reduceToNat, Int.reduceEq, Int.reduceBEq, Int.reduceBNe, Nat.reduceBEq]
    have hc' : orI [cmpI k k', cmpI v v', cmpI l.length l'.length, Lib.compareBytes n n'] ≠ 0 := by simpa using hc
    rw [cmpT, if_pos hc']
  · simp only [go_sem, Nat.reduceEqDiff, Nat.reduceAdd, Nat.reduceLeDiff, Nat.reduceLT, ↓reduceIte, reduceCtorEq, Int.reduceLT, Int.reduceToNat, Int.reduceEq, Int.reduceBEq, Int.reduceBNe, Nat.reduceBEq]
    have hc' : ¬ (orI [cmpI k k', cmpI v v', cmpI l.length l'.length, Lib.compareBytes n n'] ≠ 0) := by simpa using hc
    refine pcall (fn_cmpTs l l' hok.1 ih hok.2.2 hok'.2.2) (by simp only [go_sem, Nat.reduceEqDiff, Nat.reduceAdd, Nat.reduceLeDiff, Nat.reduceLT, ↓reduceIte, reduceCtorEq, Int.reduceLT, Int.reduceToNat, Int.reduceEq, Int.reduceBEq, Int.reduceBNe, Nat.reduceBEq]) ?_
    simp only [go_sem, Nat.reduceEqDiff, Nat.reduceAdd, Nat.reduceLeDiff, Nat.reduceLT, ↓reduceIte, reduceCtorEq, Int.reduceLT, Int.reduceToNat, Int.reduceEq, Int.reduceBEq, Int.reduceBNe, Nat.reduceBEq]
    rw [cmpT, if_neg hc']
end Go.Proofs.Ythaoooohomfkcaa.Ab

namespace Go.Proofs.Ythaoooohomfkcaa.Ab
set_option linter.unusedVariables false
set_option linter.unusedSimpArgs false
set_option maxRecDepth 10000
attribute [local go_sem] Nat.zero_le Bool.not_true Bool.not_false Bool.false_eq_true if_false if_true forall_const true_and and_true List.map Option.map Bool.and_self Bool.and_true Bool.true_and Bool.false_and Bool.and_false List.getElem?_cons_zero List.getElem?_nil List.getElem?_cons_succ Int.natCast_nonneg Int.toNat_natCast List.length_map List.length_cons List.length_nil Nat.zero_add Nat.le_refl List.drop_zero List.drop_succ_cons List.take_succ_cons List.take_zero List.take_nil ne_eq not_true_eq_false not_false_eq_true upd_same Nat.add_assoc Nat.left_eq_add Nat.add_eq_left Nat.add_left_cancel_iff Nat.succ_ne_self Nat.one_ne_zero Nat.add_zero Nat.le_add_right ite_self List.set_cons_zero List.set_cons_succ List.all_cons List.all_nil bne_self_eq_false List.isEmpty_cons Int.cast_ofNat_Int Nat.mul_one List.nil_append or_self or_true true_or List.cons_append List.append_nil Option.none_beq_some Option.some_beq_some beq_self_eq_true
theorem c76 : compF Try.prog ow Try.f76 = (some (9, ([(.t 2)], (.seq (.ops [(none, (.set 2 (.bool false)))]) (.seq (.ops [(none, (.cp 3 0)), (none, (.bin (some 4) .geq (.t 3) (.k (.int .u8 97)) false false)), (none, (.cp 5 4)), ((some (5, true)), (.cp 6 0)), ((some (5, true)), (.bin (some 7) .leq (.t 6) (.k (.int .u8 122)) false false)), (none, (.pick (some 8) (.t 5) (.t 7) (.k (.bool false)))), (none, (.mv 2 8))]) .ret))))) := by kernel_rfl
theorem c77 : compF Try.prog ow Try.f77 = (some (9, ([(.t 2)], (.seq (.ops [(none, (.set 2 (.bool false)))]) (.seq (.ops [(none, (.cp 3 0)), (none, (.bin (some 4) .geq (.t 3) (.k (.int .u8 65)) false false)), (none, (.cp 5 4)), ((some (5, true)), (.cp 6 0)), ((some (5, true)), (.bin (some 7) .leq (.t 6) (.k (.int .u8 90)) false false)), (none, (.pick (some 8) (.t 5) (.t 7) (.k (.bool false)))), (none, (.mv 2 8))]) .ret))))) := by kernel_rfl
theorem c78 : compF Try.prog ow Try.f78 = (some (9, ([(.t 2)], (.seq (.ops [(none, (.set 2 (.bool false)))]) (.seq (.ops [(none, (.cp 3 0)), (none, (.bin (some 4) .geq (.t 3) (.k (.int .u8 48)) false false)), (none, (.cp 5 4)), ((some (5, true)), (.cp 6 0)), ((some (5, true)), (.bin (some 7) .leq (.t 6) (.k (.int .u8 57)) false false)), (none, (.pick (some 8) (.t 5) (.t 7) (.k (.bool false)))), (none, (.mv 2 8))]) .ret))))) := by kernel_rfl
theorem c84 : compF Try.prog ow Try.f84 = (some (9, ([(.t 2)], (.seq (.ops [(none, (.set 2 (.bool false)))]) (.seq (.ops [(none, (.cp 3 0)), (none, (.bin (some 4) .geq (.t 3) (.k (.int .i64 (-1073741824))) false false)), (none, (.cp 5 4)), ((some (5, true)), (.cp 6 0)), ((some (5, true)), (.bin (some 7) .leq (.t 6) (.k (.int .i64 1073741824)) false false)), (none, (.pick (some 8) (.t 5) (.t 7) (.k (.bool false)))), (none, (.mv 2 8))]) .ret))))) := by kernel_rfl
theorem c133 : compF Try.prog ow Try.f133 = (some (17, ([(.t 2)], (.seq (.ops [(none, (.set 2 (.bool false)))]) (.seq (.ops [(none, (.cp 3 0)), (none, (.call (some 4) (.k (.func 76 [] [])) [(.t 3)] none)), (none, (.cp 5 4)), ((some (5, false)), (.cp 6 0)), ((some (5, false)), (.call (some 7) (.k (.func 77 [] [])) [(.t 6)] none)), (none, (.pick (some 8) (.t 5) (.k (.bool true)) (.t 7))), (none, (.cp 9 8)), ((some (9, false)), (.cp 10 0)), ((some (9, false)), (.call (some 11) (.k (.func 78 [] [])) [(.t 10)] none)), (none, (.pick (some 12) (.t 9) (.k (.bool true)) (.t 11))), (none, (.cp 13 12)), ((some (13, false)), (.cp 14 0)), ((some (13, false)), (.bin (some 15) .eql (.t 14) (.k (.int .u8 95)) false false)), (none, (.pick (some 16) (.t 13) (.k (.bool true)) (.t 15))), (none, (.mv 2 16))]) .ret))))) := by kernel_rfl
theorem c127 : compF Try.prog ow Try.f127 = (some (31, ([(.t 4)], (.seq (.ops [(none, (.set 4 (.bool false)))]) (.seq (.seq (.ops [(none, (.cp 6 0)), (none, (.bin (some 7) .eql (.t 6) (.k (.str [])) false false)), (none, (.cp 8 7)), ((some (8, false)), (.cp 9 0)), ((some (8, false)), (.len (some 10) (.t 9) true false)), ((some (8, false)), (.bin (some 11) .gtr (.t 10) (.k (.int .i64 16)) false false)), (none, (.pick (some 12) (.t 8) (.k (.bool true)) (.t 11))), (none, (.cp 13 12)), ((some (13, false)), (.cp 14 1)), ((some (13, false)), (.cp 15 0)), ((some (13, false)), (.idx (some 16) (.t 15) (.k (.int .i64 0)) true none)), ((some (13, false)), (.call (some 17) (.t 14) [(.t 16)] none)), ((some (13, false)), (.un (some 18) .not (.t 17))), (none, (.pick (some 19) (.t 13) (.k (.bool true)) (.t 18)))]) (.cond (.t 19) (.seq (.ops [(none, (.set 4 (.bool false)))]) .ret) .skip)) (.seq (.seq (.ops [(none, (.cp 20 0)), (none, (.len (some 21) (.t 20) true false)), (none, (.set 22 (.int .i64 0)))]) (.block 0 (.loop (.seq (.ops [(none, (.bin (some 23) .lss (.t 22) (.t 21) false false))]) (.seq (.cond (.t 23) .skip (.exit 0)) (.seq (.block 1 (.seq (.ops [(none, (.mv 24 22)), (none, (.mv 5 24))]) (.seq (.ops [(none, (.cp 25 0)), (none, (.cp 26 5)), (none, (.idx (some 27) (.t 25) (.t 26) true none)), (none, (.call (some 28) (.k (.func 133 [] [])) [(.t 27)] none)), (none, (.un (some 29) .not (.t 28)))]) (.cond (.t 29) (.seq (.ops [(none, (.set 4 (.bool false)))]) .ret) .skip)))) (.ops [(none, (.bin (some 30) .add (.t 22) (.k (.int .i64 1)) false false)), (none, (.cp 22 30))]))))))) (.seq (.ops [(none, (.set 4 (.bool true)))]) .ret))))))) := by kernel_rfl
theorem c117 : compF Try.prog ow Try.f117 = (some (5, ([(.t 2)], (.seq (.ops [(none, (.set 2 (.bool false)))]) (.seq (.ops [(none, (.cp 3 0)), (none, (.call (some 4) (.k (.func 127 [] [])) [(.t 3), (.k (.func 76 [] []))] none)), (none, (.mv 2 4))]) .ret))))) := by kernel_rfl
theorem c115 : compF Try.prog ow Try.f115 = (some (5, ([(.t 2)], (.seq (.ops [(none, (.set 2 (.bool false)))]) (.seq (.ops [(none, (.cp 3 0)), (none, (.call (some 4) (.k (.func 127 [] [])) [(.t 3), (.k (.func 77 [] []))] none)), (none, (.mv 2 4))]) .ret))))) := by kernel_rfl
def betw (a b c : Int) : Bool := decide (a ≤ c) && decide (c ≤ b)
def innerB (c : Int) : Bool := betw 97 122 c || (betw 65 90 c || (betw 48 57 c || c == 95))
theorem fn_small (c : Int) : PFn Try.prog 76 [.int .u8 c] (.bool (betw 97 122 c)) := by
  intro h
  refine fnC mixed Try.func76 c76 (by simp) ?_
  simp only [go_sem, Nat.reduceEqDiff, Nat.reduceAdd, Nat.reduceLeDiff, Nat.reduceLT, ↓reduceIte, reduceCtorEq, Int.reduceLT, Int.reduceToNat, Int.reduceEq, Int.reduceBEq, Int.reduceBNe, Nat.reduceBEq]
  refine cog (fun h1 => ?_) (fun h1 => ?_)
  · simp only [go_sem, Nat.reduceEqDiff, Nat.reduceAdd, Nat.reduceLeDiff, Nat.reduceLT, ↓reduceIte, reduceCtorEq, Int.reduceLT, Int.reduceToNat, Int.reduceEq, Int.reduceBEq, Int.reduceBNe, Nat.reduceBEq, h1]
    simp at h1; simp [betw, h1]
  · simp only [go_sem, Nat.reduceEqDiff, Nat.reduceAdd, Nat.reduceLeDiff, Nat.reduceLT, ↓reduceIte, reduceCtorEq, Int.reduceLT, Int.reduceToNat, Int.reduceEq, Int.reduceBEq, Int.reduceBNe, Nat.reduceBEq, h1]
    simp at h1; simp [betw]; omega
theorem fn_great (c : Int) : PFn Try.prog 77 [.int .u8 c] (.bool (betw 65 90 c)) := by
  intro h
  refine fnC mixed Try.func77 c77 (by simp) ?_
  simp only [go_sem, Nat.reduceEqDiff, Nat.reduceAdd, Nat.reduceLeDiff, Nat.reduceLT, ↓reduceIte, reduceCtorEq, Int.reduceLT, Int.reduceToNat, Int.reduceEq, Int.reduceBEq, Int.reduceBNe, Nat.reduceBEq]
  refine cog (fun h1 => ?_) (fun h1 => ?_)
  · simp only [go_sem, Nat.reduceEqDiff, Nat.reduceAdd, Nat.reduceLeDiff, Nat.reduceLT, ↓reduceIte, reduceCtorEq, Int.reduceLT, Int.reduceToNat, Int.reduceEq, Int.reduceBEq, Int.reduceBNe, Nat.reduceBEq, h1]
    simp at h1; simp [betw, h1]
  · simp only [go_sem, Nat.reduceEqDiff, Nat.reduceAdd, Nat.reduceLeDiff, Nat.reduceLT, ↓reduceIte, reduceCtorEq, Int.reduceLT, Int.reduceToNat, Int.reduceEq, Int.reduceBEq, Int.reduceBNe, Nat.reduceBEq, h1]
    simp at h1; simp [betw]; omega
theorem fn_digit (c : Int) : PFn Try.prog 78 [.int .u8 c] (.bool (betw 48 57 c)) := by
  intro h
  refine fnC mixed Try.func78 c78 (by simp) ?_
  simp only [go_sem, Nat.reduceEqDiff, Nat.reduceAdd, Nat.reduceLeDiff, Nat.reduceLT, ↓reduceIte, reduceCtorEq, Int.reduceLT, Int.reduceToNat, Int.reduceEq, Int.reduceBEq, Int.reduceBNe, Nat.reduceBEq]
  refine cog (fun h1 => ?_) (fun h1 => ?_)
  · simp only [go_sem, Nat.reduceEqDiff, Nat.reduceAdd, Nat.reduceLeDiff, Nat.reduceLT, ↓reduceIte, reduceCtorEq, Int.reduceLT, Int.reduceToNat, Int.reduceEq, Int.reduceBEq, Int.reduceBNe, Nat.reduceBEq, h1]
    simp at h1; simp [betw, h1]
  · simp only [go_sem, Nat.reduceEqDiff, Nat.reduceAdd, Nat.reduceLeDiff, Nat.reduceLT, ↓reduceIte, reduceCtorEq, Int.reduceLT, Int.reduceToNat, Int.reduceEq, Int.reduceBEq, Int.reduceBNe, Nat.reduceBEq, h1]
    simp at h1; simp [betw]; omega
theorem fn_Number (c : Int) : PFn Try.prog 84 [.int .i64 c] (.bool (betw (-1073741824) 1073741824 c)) := by
  intro h
  refine fnC mixed Try.func84 c84 (by simp) ?_
  simp only [go_sem, Nat.reduceEqDiff, Nat.reduceAdd, Nat.reduceLeDiff, Nat.reduceLT, ↓reduceIte, reduceCtorEq, Int.reduceLT, Int.reduceToNat, Int.reduceEq, Int.reduceBEq, Int.reduceBNe, Nat.reduceBEq]
  refine cog (fun h1 => ?_) (fun h1 => ?_)
  · simp only [go_sem, Nat.reduceEqDiff, Nat.reduceAdd, Nat.reduceLeDiff, Nat.reduceLT, ↓reduceIte, reduceCtorEq, Int.reduceLT, Int.reduceToNat, Int.reduceEq, Int.reduceBEq, Int.reduceBNe, Nat.reduceBEq, h1]
    simp at h1; simp [betw, h1]
  · simp only [go_sem, Nat.reduceEqDiff, Nat.reduceAdd, Nat.reduceLeDiff, Nat.reduceLT, ↓reduceIte, reduceCtorEq, Int.reduceLT, Int.reduceToNat, Int.reduceEq, Int.reduceBEq, Int.reduceBNe, Nat.reduceBEq, h1]
    simp at h1; simp [betw]; omega
theorem fn_Inner (c : Int) : PFn Try.prog 133 [.int .u8 c] (.bool (innerB c)) := by
  intro h
  refine fnC mixed Try.func133 c133 (by simp) ?_
  simp only [go_sem, Nat.reduceEqDiff, Nat.reduceAdd, Nat.reduceLeDiff, Nat.reduceLT, ↓reduceIte, reduceCtorEq, Int.reduceLT, Int.reduceToNat, Int.reduceEq, Int.reduceBEq, Int.reduceBNe, Nat.reduceBEq]
  refine pcall (fn_small c) (by simp only [go_sem, Nat.reduceEqDiff, Nat.reduceAdd, Nat.reduceLeDiff, Nat.reduceLT, ↓reduceIte, reduceCtorEq, Int.reduceLT, Int.reduceToNat, Int.reduceEq, Int.reduceBEq, Int.reduceBNe, Nat.reduceBEq]) ?_
  simp only [go_sem, Nat.reduceEqDiff, Nat.reduceAdd, Nat.reduceLeDiff, Nat.reduceLT, ↓reduceIte, reduceCtorEq, Int.reduceLT, Int.reduceToNat, Int.reduceEq, Int.reduceBEq, Int.reduceBNe, Nat.reduceBEq]
  refine cog (fun h1 => ?_) (fun h1 => ?_)
  · simp only [go_sem, Nat.reduceEqDiff, Nat.reduceAdd, Nat.reduceLeDiff, Nat.reduceLT, ↓reduceIte, reduceCtorEq, Int.reduceLT, Int.reduceToNat, Int.reduceEq, Int.reduceBEq, Int.reduceBNe, Nat.reduceBEq, h1]
    refine pcall (fn_great c) (by simp only [go_sem, Nat.reduceEqDiff, Nat.reduceAdd, Nat.reduceLeDiff, Nat.reduceLT, ↓reduceIte, reduceCtorEq, Int.reduceLT, Int.reduceToNat, Int.reduceEq, Int.reduceBEq, Int.reduceBNe, Nat.reduceBEq]) ?_
    simp only [go_sem, Nat.reduceEqDiff, Nat.reduceAdd, Nat.reduceLeDiff, Nat.reduceLT, ↓reduceIte, reduceCtorEq, Int.reduceLT, Int.reduceToNat, Int.reduceEq, Int.reduceBEq, Int.reduceBNe, Nat.reduceBEq, h1]
    refine cog (fun h2 => ?_) (fun h2 => ?_)
    · simp only [go_sem, Nat.reduceEqDiff, Nat.reduceAdd, Nat.reduceLeDiff, Nat.reduceLT, ↓reduceIte, reduceCtorEq, Int.reduceLT, Int.reduceToNat, Int.reduceEq, Int.reduceBEq, Int.reduceBNe, Nat.reduceBEq, h1, h2]
      refine pcall (fn_digit c) (by simp only [go_sem, Nat.reduceEqDiff, Nat.reduceAdd, Nat.reduceLeDiff, Nat.reduceLT, ↓reduceIte, reduceCtorEq, Int.reduceLT, Int.reduceToNat, Int.reduceEq, Int.reduceBEq, Int.reduceBNe, Nat.reduceBEq]) ?_
      simp only [go_sem, Nat.reduceEqDiff, Nat.reduceAdd, Nat.reduceLeDiff, Nat.reduceLT, ↓reduceIte, reduceCtorEq, Int.reduceLT, Int.reduceToNat, Int.reduceEq, Int.reduceBEq, Int.reduceBNe, Nat.reduceBEq, h1, h2]
      refine cog (fun h3 => ?_) (fun h3 => ?_)
      · simp only [go_sem, Nat.reduceEqDiff, Nat.reduceAdd, Nat.reduceLeDiff, Nat.reduceLT, ↓reduceIte, reduceCtorEq, Int.reduceLT, Int.reduceToNat, Int.reduceEq, Int.reduceBEq, Int.reduceBNe, Nat.reduceBEq, h1, h2, h3]
        simp [innerB, h1, h2, h3]
      · simp only [go_sem, Nat.reduceEqDiff, Nat.reduceAdd, Nat.reduceLeDiff, Nat.reduceLT, ↓reduceIte, reduceCtorEq, Int.reduceLT, Int.reduceToNat, Int.reduceEq, Int.reduceBEq, Int.reduceBNe, Nat.reduceBEq, h1, h2, h3]
        simp at h3; simp [innerB, h3]
    · simp only [go_sem, Nat.reduceEqDiff, Nat.reduceAdd, Nat.reduceLeDiff, Nat.reduceLT, ↓reduceIte, reduceCtorEq, Int.reduceLT, Int.reduceToNat, Int.reduceEq, Int.reduceBEq, Int.reduceBNe, Nat.reduceBEq, h1, h2]
      simp at h2; simp [innerB, h2]
  · simp only [go_sem, Nat.reduceEqDiff, Nat.reduceAdd, Nat.reduceLeDiff, Nat.reduceLT, ↓reduceIte, reduceCtorEq, Int.reduceLT, Int.reduceToNat, Int.reduceEq, Int.reduceBEq, Int.reduceBNe, Nat.reduceBEq, h1]
    simp at h1; simp [innerB, h1]
def wordB (first : Int → Bool) (s : List UInt8) : Bool := !(s == []) && (!(decide (16 < s.length)) && (first (s.headD 0).toNat && s.all fun c => innerB c.toNat))
theorem fn_word (s : List UInt8) (f : FuncId) (first : Int → Bool) (hf : ∀ c, PFn Try.prog f [.int .u8 c] (.bool (first c))) : PFn Try.prog 127 [.str s, .func f [] []] (.bool (wordB first s)) := by
  intro h
  refine fnC mixed Try.func127 c127 (by simp) ?_
  simp only [go_sem, Nat.reduceEqDiff, Nat.reduceAdd, Nat.reduceLeDiff, Nat.reduceLT, ↓reduceIte, reduceCtorEq, Int.reduceLT, Int.reduceToNat, Int.reduceEq, Int.reduceBEq, Int.reduceBNe, Nat.reduceBEq]
  refine cog (fun h1 => ?_) (fun h1 => ?_)
  · simp only [go_sem, Nat.reduceEqDiff, Nat.reduceAdd, Nat.reduceLeDiff, Nat.reduceLT, ↓reduceIte, reduceCtorEq, Int.reduceLT, Int.reduceToNat, Int.reduceEq, Int.reduceBEq, Int.reduceBNe, Nat.reduceBEq, h1]
    refine cog (fun h2 => ?_) (fun h2 => ?_)
    · obtain ⟨c, s', rfl⟩ : ∃ c s', s = c :: s' := by cases s with
        | nil => simp at h1
        | cons c s' => exact ⟨c, s', rfl⟩
      have e0 : (c :: s')[(0 : Int).toNat]? = some c := rfl
      have hl : (c :: s').length ≤ 16 := by simp at h2 ⊢; omega
      generalize hs : c :: s' = s at *
      have hd : s.headD 0 = c := by rw [← hs]; rfl
      have e00 : s[0]? = some c := e0
      simp only [go_sem, Nat.reduceEqDiff, Nat.reduceAdd, Nat.reduceLeDiff, Nat.reduceLT, ↓reduceIte, reduceCtorEq, Int.reduceLT, Int.reduceToNat, Int.reduceEq, Int.reduceBEq, Int.reduceBNe, Nat.reduceBEq, h1, h2, e00, Int.le_refl, decide_true]
      refine pcall (hf (c.toNat : Int)) (by simp only [go_sem, Nat.reduceEqDiff, Nat.reduceAdd, Nat.reduceLeDiff, Nat.reduceLT, ↓reduceIte, reduceCtorEq, Int.reduceLT, Int.reduceToNat, Int.reduceEq, Int.reduceBEq, Int.reduceBNe, Nat.reduceBEq]) ?_
      simp only [go_sem, Nat.reduceEqDiff, Nat.reduceAdd, Nat.reduceLeDiff, Nat.reduceLT, ↓reduceIte, reduceCtorEq, Int.reduceLT, Int.reduceToNat, Int.reduceEq, Int.reduceBEq, Int.reduceBNe, Nat.reduceBEq, h1, h2]
      refine cif (fun h3 => ?_) (fun h3 => ?_)
      · simp only [go_sem, Nat.reduceEqDiff, Nat.reduceAdd, Nat.reduceLeDiff, Nat.reduceLT, ↓reduceIte, reduceCtorEq, Int.reduceLT, Int.reduceToNat, Int.reduceEq, Int.reduceBEq, Int.reduceBNe, Nat.reduceBEq]
        simp at h3; unfold wordB; rw [hd, h3]; simp
      · simp only [go_sem, Nat.reduceEqDiff, Nat.reduceAdd, Nat.reduceLeDiff, Nat.reduceLT, ↓reduceIte, reduceCtorEq, Int.reduceLT, Int.reduceToNat, Int.reduceEq, Int.reduceBEq, Int.reduceBNe, Nat.reduceBEq]
        refine cloop (fun k t => ∃ i, i + k = s.length ∧ t.fr 0 = .str s ∧ t.fr 21 = .int .i64 s.length ∧ t.fr 22 = .int .i64 (i : Nat) ∧ ((s.drop i).all fun c => innerB c.toNat) = (s.all fun c => innerB c.toNat) ∧ t.hp = h) s.length ⟨0, by simp [fr_apply, argsF]⟩ ?_
        rintro k ⟨g, hp⟩ ⟨i, hk, g0, g21, g22, he, rfl⟩
        simp only at g0 g21 g22
        simp only [go_sem, Nat.reduceEqDiff, Nat.reduceAdd, Nat.reduceLeDiff, Nat.reduceLT, ↓reduceIte, reduceCtorEq, Int.reduceLT, Int.reduceToNat, Int.reduceEq, Int.reduceBEq, Int.reduceBNe, Nat.reduceBEq, g0, g21, g22]
        have h3' : first c.toNat = true := by simpa using h3
        refine cif (fun hb => ?_) (fun hb => ?_)
        · have hi : i < s.length := by simpa using hb
          rw [List.drop_eq_getElem_cons hi, List.all_cons] at he
          simp only [go_sem, Nat.reduceEqDiff, Nat.reduceAdd, Nat.reduceLeDiff, Nat.reduceLT, ↓reduceIte, reduceCtorEq, Int.reduceLT, Int.reduceToNat, Int.reduceEq, Int.reduceBEq, Int.reduceBNe, Nat.reduceBEq, g0, g21, g22, decide_true, List.getElem?_eq_getElem hi]
          refine pcall (fn_Inner (s[i].toNat : Int)) (by simp only [go_sem, Nat.reduceEqDiff, Nat.reduceAdd, Nat.reduceLeDiff, Nat.reduceLT, ↓reduceIte, reduceCtorEq, Int.reduceLT, Int.reduceToNat, Int.reduceEq, Int.reduceBEq, Int.reduceBNe, Nat.reduceBEq]) ?_
          simp only [go_sem, Nat.reduceEqDiff, Nat.reduceAdd, Nat.reduceLeDiff, Nat.reduceLT, ↓reduceIte, reduceCtorEq, Int.reduceLT, Int.reduceToNat, Int.reduceEq, Int.reduceBEq, Int.reduceBNe, Nat.reduceBEq, g0, g21, g22]
          refine cif (fun h4 => ?_) (fun h4 => ?_)
          · simp only [go_sem, Nat.reduceEqDiff, Nat.reduceAdd, Nat.reduceLeDiff, Nat.reduceLT, ↓reduceIte, reduceCtorEq, Int.reduceLT, Int.reduceToNat, Int.reduceEq, Int.reduceBEq, Int.reduceBNe, Nat.reduceBEq]
            simp at h4; unfold wordB; rw [← he, h4]; simp
          · have hw : IntKind.i64.wrap ((i : Int) + 1) = ((i + 1 : Nat) : Int) := by rw [wrap64] <;> omega
            simp only [go_sem, Nat.reduceEqDiff, Nat.reduceAdd, Nat.reduceLeDiff, Nat.reduceLT, ↓reduceIte, reduceCtorEq, Int.reduceLT, Int.reduceToNat, Int.reduceEq, Int.reduceBEq, Int.reduceBNe, Nat.reduceBEq, g0, g21, g22, hw]
            simp at h4
            refine ⟨k - 1, by omega, i + 1, by omega, ?_⟩; simpa [h4] using he
        · have hi : s.length ≤ i := by simpa using hb
          simp only [go_sem, Nat.reduceEqDiff, Nat.reduceAdd, Nat.reduceLeDiff, Nat.reduceLT, ↓reduceIte, reduceCtorEq, Int.reduceLT, Int.reduceToNat, Int.reduceEq, Int.reduceBEq, Int.reduceBNe, Nat.reduceBEq, g0, g21, g22]
          rw [List.drop_eq_nil_of_le hi] at he
          unfold wordB; rw [hd, h3', ← he, h1, decide_eq_false (show ¬ 16 < s.length by omega)]; rfl
    · simp only [go_sem, Nat.reduceEqDiff, Nat.reduceAdd, Nat.reduceLeDiff, Nat.reduceLT, ↓reduceIte, reduceCtorEq, Int.reduceLT, Int.reduceToNat, Int.reduceEq, Int.reduceBEq, Int.reduceBNe, Nat.reduceBEq, h1, h2]
      simp at h2; simp [wordB, h1, show 16 < s.length by omega]
  · simp only [go_sem, Nat.reduceEqDiff, Nat.reduceAdd, Nat.reduceLeDiff, Nat.reduceLT, ↓reduceIte, reduceCtorEq, Int.reduceLT, Int.reduceToNat, Int.reduceEq, Int.reduceBEq, Int.reduceBNe, Nat.reduceBEq, h1]
    simp at h1; simp [wordB, h1]
def nameB (s : List UInt8) : Bool := wordB (betw 97 122) s
def varB (s : List UInt8) : Bool := wordB (betw 65 90) s
theorem fn_Name (s : List UInt8) : PFn Try.prog 117 [.str s] (.bool (nameB s)) := by
  intro h
  refine fnC mixed Try.func117 c117 (by simp) ?_
  simp only [go_sem, Nat.reduceEqDiff, Nat.reduceAdd, Nat.reduceLeDiff, Nat.reduceLT, ↓reduceIte, reduceCtorEq, Int.reduceLT, Int.reduceToNat, Int.reduceEq, Int.reduceBEq, Int.reduceBNe, Nat.reduceBEq]
  refine pcall (fn_word s 76 _ fn_small) (by simp only [go_sem, Nat.reduceEqDiff, Nat.reduceAdd, Nat.reduceLeDiff, Nat.reduceLT, ↓reduceIte, reduceCtorEq, Int.reduceLT, Int.reduceToNat, Int.reduceEq, Int.reduceBEq, Int.reduceBNe, Nat.reduceBEq]) ?_
  simp only [go_sem, Nat.reduceEqDiff, Nat.reduceAdd, Nat.reduceLeDiff, Nat.reduceLT, ↓reduceIte, reduceCtorEq, Int.reduceLT, Int.reduceToNat, Int.reduceEq, Int.reduceBEq, Int.reduceBNe, Nat.reduceBEq]
  rfl
theorem fn_Var (s : List UInt8) : PFn Try.prog 115 [.str s] (.bool (varB s)) := by
  intro h
  refine fnC mixed Try.func115 c115 (by simp) ?_
  simp only [go_sem, Nat.reduceEqDiff, Nat.reduceAdd, Nat.reduceLeDiff, Nat.reduceLT, ↓reduceIte, reduceCtorEq, Int.reduceLT, Int.reduceToNat, Int.reduceEq, Int.reduceBEq, Int.reduceBNe, Nat.reduceBEq]
  refine pcall (fn_word s 77 _ fn_great) (by simp only [go_sem, Nat.reduceEqDiff, Nat.reduceAdd, Nat.reduceLeDiff, Nat.reduceLT, ↓reduceIte, reduceCtorEq, Int.reduceLT, Int.reduceToNat, Int.reduceEq, Int.reduceBEq, Int.reduceBNe, Nat.reduceBEq]) ?_
  simp only [go_sem, Nat.reduceEqDiff, Nat.reduceAdd, Nat.reduceLeDiff, Nat.reduceLT, ↓reduceIte, reduceCtorEq, Int.reduceLT, Int.reduceToNat, Int.reduceEq, Int.reduceBEq, Int.reduceBNe, Nat.reduceBEq]
  rfl
end Go.Proofs.Ythaoooohomfkcaa.Ab
