/- A term's bytes. -/
import Derived.Test.YthaoooohomfkcaaWw4
import Derived.Test.YthaoooohomfkcaaTt5
namespace Go.Proofs.Ythaoooohomfkcaa.Ab
set_option linter.unusedVariables false
set_option linter.unusedSimpArgs false
set_option maxRecDepth 10000
attribute [local go_sem] Nat.zero_le Bool.not_true Bool.not_false Bool.false_eq_true if_false if_true forall_const true_and and_true List.map Option.map Bool.and_self Bool.and_true Bool.true_and Bool.false_and Bool.and_false List.getElem?_cons_zero List.getElem?_nil List.getElem?_cons_succ Int.natCast_nonneg Int.toNat_natCast List.length_map List.length_cons List.length_nil Nat.zero_add Nat.le_refl List.drop_zero List.drop_succ_cons List.take_succ_cons List.take_zero List.take_nil ne_eq not_true_eq_false not_false_eq_true upd_same Nat.add_assoc Nat.left_eq_add Nat.add_eq_left Nat.add_left_cancel_iff Nat.succ_ne_self Nat.one_ne_zero Nat.add_zero Nat.le_add_right ite_self List.set_cons_zero List.set_cons_succ List.all_cons List.all_nil bne_self_eq_false List.isEmpty_cons Int.cast_ofNat_Int Nat.mul_one List.nil_append or_self or_true true_or List.cons_append List.append_nil Option.none_beq_some Option.some_beq_some beq_self_eq_true
theorem c88 : compF Try.prog ow Try.f88 = (some (53, ([(.t 4)], (.seq (.ops [(none, (.box 3 (.t 1))), (none, (.set 4 (.sl .full 1 [])))]) (.seq (.ops [(none, (.mv 7 0)), (none, (.fa (some 8) (.t 3) 0)), (none, (.ld (some 9) (.t 8) (.one none))), (none, (.cvt (some 10) (.t 9) (some .u8) false false)), (none, (.bs 11 1 [(.t 10)])), (none, (.app 12 (.t 7) (.t 11) 1 1 true true)), (none, (.mv 0 12))]) (.seq (.seq (.ops [(none, (.fa (some 13) (.t 3) 0)), (none, (.ld (some 14) (.t 13) (.one none))), (none, (.bin (some 15) .eql (.t 14) (.k (.int .i64 2)) false false))]) (.cond (.t 15) (.seq (.ops [(none, (.mv 16 0)), (none, (.fa (some 17) (.t 3) 2)), (none, (.ld (some 18) (.t 17) (.one none))), (none, (.call (some 19) (.k (.func 85 [] [])) [(.t 16), (.t 18)] (some 0))), (none, (.mv 4 19))]) .ret) .skip)) (.seq (.opsD [(none, (.mv 20 0)), (none, (.fa (some 21) (.t 3) 1)), (none, (.ld (some 22) (.t 21) (.one none))), (none, (.len (some 23) (.t 22) true false)), (none, (.cvt (some 24) (.t 23) (some .u8) false false)), (none, (.bs 25 1 [(.t 24)])), (none, (.app 26 (.t 20) (.t 25) 1 1 true true)), (none, (.fa (some 27) (.t 3) 1)), (none, (.ld (some 28) (.t 27) (.one none))), (none, (.app 29 (.t 26) (.t 28) 1 1 true true)), (none, (.mv 0 29))]) (.seq (.seq (.ops [(none, (.fa (some 30) (.t 3) 0)), (none, (.ld (some 31) (.t 30) (.one none))), (none, (.bin (some 32) .eql (.t 31) (.k (.int .i64 1)) false false))]) (.cond (.t 32) (.seq (.ops [(none, (.mv 33 0)), (none, (.mv 4 33))]) .ret) .skip)) (.seq (.ops [(none, (.mv 34 0)), (none, (.fa (some 35) (.t 3) 3)), (none, (.ld (some 36) (.t 35) (.one (some 4)))), (none, (.len (some 37) (.t 36) false true)), (none, (.cvt (some 38) (.t 37) (some .u8) false false)), (none, (.bs 39 1 [(.t 38)])), (none, (.app 40 (.t 34) (.t 39) 1 1 true true)), (none, (.mv 0 40))]) (.seq (.seq (.ops [(none, (.fa (some 41) (.t 3) 3)), (none, (.ld (some 42) (.t 41) (.one (some 4)))), (none, (.len (some 43) (.t 42) false true)), (none, (.set 44 (.int .i64 0)))]) (.block 0 (.loop (.seq (.ops [(none, (.bin (some 45) .lss (.t 44) (.t 43) false false))]) (.seq (.cond (.t 45) .skip (.exit 0)) (.seq (.block 1 (.seq (.ops [(none, (.ia (some 46) (.t 42) (.t 44) (some 4) none)), (none, (.ld (some 47) (.t 46) (.agg 4))), (none, (.alloc 6 [(.int .i64 0), (.str []), (.int .i64 0), (.sl .full 4 [])])), (none, (.st (.t 6) (.t 47) 4))]) (.ops [(none, (.mv 48 0)), (none, (.ld (some 49) (.t 6) (.agg 4))), (none, (.call (some 50) (.k (.func 88 [] [])) [(.t 48), (.t 49)] (some 0))), (none, (.mv 0 50))]))) (.ops [(none, (.bin (some 51) .add (.t 44) (.k (.int .i64 1)) false false)), (none, (.cp 44 51))]))))))) (.seq (.ops [(none, (.mv 52 0)), (none, (.mv 4 52))]) .ret))))))))))) := by kernel_rfl
mutual
def good : T → Bool | .mk k n v l => (k == 1 || (k == 2 || k == 3)) && (decide (n.length ≤ 16) && (decide (l.length ≤ 4) && (betw (-1073741824) 1073741824 v && goods l)))
def goods : List T → Bool | [] => true | t :: l => good t && goods l
end
theorem goods_all : ∀ {l : List T}, goods l = true → ∀ t ∈ l, good t = true
  | [], _, t, h => by cases h
  | u :: l, h, t, ht => by
    rw [goods, Bool.and_eq_true] at h
    rcases List.mem_cons.1 ht with rfl | ht
    · exact h.1
    · exact goods_all h.2 t ht
theorem good_mk {k : Int} {n : List UInt8} {v : Int} {l : List T} (h : good (.mk k n v l) = true) : (k = 1 ∨ k = 2 ∨ k = 3) ∧ n.length ≤ 16 ∧ l.length ≤ 4 ∧ (-1073741824 ≤ v ∧ v ≤ 1073741824) ∧ ∀ t ∈ l, good t = true := by
  rw [good] at h
  simp only [Bool.and_eq_true, Bool.or_eq_true, decide_eq_true_eq, beq_iff_eq, betw] at h
  exact ⟨h.1, h.2.1, h.2.2.1, h.2.2.2.1, goods_all h.2.2.2.2⟩
def toI (n : List UInt8) : List Int := n.map fun c => (c.toNat : Int)
mutual
def enc : T → List Int | .mk k n v l => k :: (if k = 2 then vb (zz v) else (n.length : Int) :: (toI n ++ (if k = 1 then [] else (l.length : Int) :: encs l)))
def encs : List T → List Int | [] => [] | t :: l => enc t ++ encs l
end
theorem encs_drop {l : List T} {i : Nat} (hi : i < l.length) : encs (l.drop i) = enc l[i] ++ encs (l.drop (i + 1)) := by rw [List.drop_eq_getElem_cons hi, encs]
theorem toI_len (n : List UInt8) : (toI n).length = n.length := by simp [toI]
theorem toI_av (n : List UInt8) : (n.map fun c => AV.int .u8 (c.toNat : Int)) = (toI n).map (AV.int .u8) := by simp [toI]
theorem bytesA_toI (n : List UInt8) : bytesA n = (toI n).map (AV.int .u8) := by simp [toI, bytesA]
theorem w8 {n : Int} (h0 : 0 ≤ n) (h1 : n < 256) : IntKind.u8.wrap n = n := by rw [wrap8] <;> omega
theorem fn_spelt : ∀ t : T, t.ok → good t = true → ∀ (fl : Fl), fl ≠ .sh → ∀ bs : List Int, bs.length + (enc t).length < 1000000000 →
    PFn Try.prog 88 [.sl fl 1 (bs.map (AV.int .u8)), t.av] (.sl .own 1 ((bs ++ enc t).map (AV.int .u8))) := by
  refine T.ind ?_
  intro k n v l ih hok hg fl hfl bs hb h
  rw [ok_mk] at hok
  obtain ⟨gk, gn, gl, gv, gs⟩ := good_mk hg
  rw [av_mk]
  rw [enc] at hb ⊢
  have hw : IntKind.u8.wrap k = k := w8 (by omega) (by omega)
  have hwn : IntKind.u8.wrap (n.length : Int) = n.length := w8 (by omega) (by omega)
  have hwl : IntKind.u8.wrap (l.length : Int) = l.length := w8 (by omega) (by omega)
  have a1 : bs.length + 1 ≤ 140737488355328 := by omega
  have a1' : (bs.length + 1) * 1 ≤ 140737488355328 := by omega
  have a2 : bs.length ≤ 9223372036854775806 := by omega
  refine fnC mixed Try.func88 c88 (by simp) ?_
  by_cases k2 : k = 2
  · subst k2
    rw [if_pos rfl] at hb ⊢
    cases fl with
    | sh => exact absurd rfl hfl
    | own =>
      simp only [go_sem, Nat.reduceEqDiff, Nat.reduceAdd, Nat.reduceLeDiff, Nat.reduceLT, ↓reduceIte, reduceCtorEq, Int.reduceLT, Int.reduceToNat, Int.reduceEq, Int.reduceBEq, Int.reduceBNe, Nat.reduceBEq, hw, a1, a1', a2]
      have hp := fn_put .own (by simp) (bs ++ [2]) v (by simp at hb ⊢; omega) (by omega) (by omega)
      simp only [List.map_append, List.map_cons, List.map_nil] at hp
      refine pcall hp (by simp only [go_sem, Nat.reduceEqDiff, Nat.reduceAdd, Nat.reduceLeDiff, Nat.reduceLT, ↓reduceIte, reduceCtorEq, Int.reduceLT, Int.reduceToNat, Int.reduceEq, Int.reduceBEq, Int.reduceBNe, Nat.reduceBEq]) ?_
      simp only [go_sem, Nat.reduceEqDiff, Nat.reduceAdd, Nat.reduceLeDiff, Nat.reduceLT, ↓reduceIte, reduceCtorEq, Int.reduceLT, Int.reduceToNat, Int.reduceEq, Int.reduceBEq, Int.reduceBNe, Nat.reduceBEq]
      exact ⟨.inl (by simp), lab_ints _ _ _⟩
    | full =>
      simp only [go_sem, Nat.reduceEqDiff, Nat.reduceAdd, Nat.reduceLeDiff, Nat.reduceLT, ↓reduceIte, reduceCtorEq, Int.reduceLT, Int.reduceToNat, Int.reduceEq, Int.reduceBEq, Int.reduceBNe, Nat.reduceBEq, hw, a1, a1', a2]
      have hp := fn_put .own (by simp) (bs ++ [2]) v (by simp at hb ⊢; omega) (by omega) (by omega)
      simp only [List.map_append, List.map_cons, List.map_nil] at hp
      refine pcall hp (by simp only [go_sem, Nat.reduceEqDiff, Nat.reduceAdd, Nat.reduceLeDiff, Nat.reduceLT, ↓reduceIte, reduceCtorEq, Int.reduceLT, Int.reduceToNat, Int.reduceEq, Int.reduceBEq, Int.reduceBNe, Nat.reduceBEq]) ?_
      simp only [go_sem, Nat.reduceEqDiff, Nat.reduceAdd, Nat.reduceLeDiff, Nat.reduceLT, ↓reduceIte, reduceCtorEq, Int.reduceLT, Int.reduceToNat, Int.reduceEq, Int.reduceBEq, Int.reduceBNe, Nat.reduceBEq]
      exact ⟨.inl (by simp), lab_ints _ _ _⟩
  · have k2b : (k == 2) = false := by simpa using k2
    rw [if_neg k2] at hb ⊢
    simp only [List.length_cons, List.length_append, toI_len] at hb
    have a3 : bs.length + 2 ≤ 140737488355328 := by omega
    have a3' : (bs.length + 2) * 1 ≤ 140737488355328 := by omega
    have a4 : bs.length + 1 ≤ 9223372036854775806 := by omega
    cases fl with
    | sh => exact absurd rfl hfl
    | own =>
      have b1 : bs.length + 1 ≤ 140737488355327 := by omega
      have b2 : bs.length + 1 ≤ 9223372036854775806 := by omega
      have b3 : bs.length + 2 + n.length ≤ 140737488355328 := by omega
      have b4 : bs.length + 2 + n.length ≤ 9223372036854775807 := by omega
      have b5 : bs.length ≤ 9223372036854775805 := by omega
      have b6 : bs.length ≤ 140737488355326 := by omega
      have b7 : bs.length + (2 + n.length) ≤ 140737488355328 := by omega
      have b8 : bs.length + (2 + n.length) ≤ 9223372036854775807 := by omega
      simp only [go_sem, Nat.reduceEqDiff, Nat.reduceAdd, Nat.reduceLeDiff, Nat.reduceLT, ↓reduceIte, reduceCtorEq, Int.reduceLT, Int.reduceToNat, Int.reduceEq, Int.reduceBEq, Int.reduceBNe, Nat.reduceBEq, hw, hwn, k2b, a1, a1', a2, a3, a3', a4, List.length_append, b1, b2, b3, b4, b5, b6, b7, b8, bytesA_toI, toI_len]
      by_cases k1 : k = 1
      · subst k1
        rw [if_pos rfl, List.append_nil]
        simp only [go_sem, Nat.reduceEqDiff, Nat.reduceAdd, Nat.reduceLeDiff, Nat.reduceLT, ↓reduceIte, reduceCtorEq, Int.reduceLT, Int.reduceToNat, Int.reduceEq, Int.reduceBEq, Int.reduceBNe, Nat.reduceBEq]
        exact ⟨.inl (by simp), lab_ints _ _ _⟩
      · have k1b : (k == 1) = false := by simpa using k1
        rw [if_neg k1]
        rw [if_neg k1] at hb
        simp only [List.length_cons] at hb
        have c1 : bs.length + (2 + n.length) ≤ 140737488355327 := by omega
        have c2 : bs.length + (2 + n.length) ≤ 9223372036854775806 := by omega
        have c3 : bs.length + (2 + (n.length + 1)) ≤ 140737488355328 := by omega
        have c4 : bs.length + (2 + (n.length + 1)) ≤ 9223372036854775807 := by omega
        simp only [go_sem, Nat.reduceEqDiff, Nat.reduceAdd, Nat.reduceLeDiff, Nat.reduceLT, ↓reduceIte, reduceCtorEq, Int.reduceLT, Int.reduceToNat, Int.reduceEq, Int.reduceBEq, Int.reduceBNe, Nat.reduceBEq, k1b, hwl, c1, c2, c3, c4, List.length_append, toI_len]
        refine cloop (fun q t => ∃ (i : Nat) (cs : List Int), i + q = l.length ∧ t.fr 0 = .sl .own 1 (cs.map (AV.int .u8)) ∧ t.fr 42 = .sl .sh 4 (l.map T.av) ∧ t.fr 43 = .int .i64 l.length ∧ t.fr 44 = .int .i64 (i : Nat) ∧
          cs ++ encs (l.drop i) = bs ++ k :: (n.length : Int) :: (toI n ++ (l.length : Int) :: encs l) ∧ h.n ≤ t.hp.n ∧ Shrink h t.hp h) l.length ⟨0, bs ++ k :: (n.length : Int) :: (toI n ++ [(l.length : Int)]), by simp [fr_apply, argsF, shrink_upd, shrink_n]⟩ ?_
        rintro q ⟨f, hp⟩ ⟨i, cs, hq, f0, f42, f43, f44, he, hn, hsh⟩
        simp only at f0 f42 f43 f44 hn hsh
        have htot := congrArg List.length he
        simp only [List.length_append, List.length_cons, toI_len] at htot
        simp only [go_sem, Nat.reduceEqDiff, Nat.reduceAdd, Nat.reduceLeDiff, Nat.reduceLT, ↓reduceIte, reduceCtorEq, Int.reduceLT, Int.reduceToNat, Int.reduceEq, Int.reduceBEq, Int.reduceBNe, Nat.reduceBEq, f42, f43, f44]
        refine cif (fun hb => ?_) (fun hb => ?_)
        · have hi : i < l.length := by simpa using hb
          rw [encs_drop hi] at he htot
          rw [List.length_append] at htot
          have hsg := shrink_grow (n := hp.n + 1) hsh (by omega)
          have hw1 : IntKind.i64.wrap ((i : Int) + 1) = ((i + 1 : Nat) : Int) := by rw [wrap64] <;> omega
          simp only [go_sem, Nat.reduceEqDiff, Nat.reduceAdd, Nat.reduceLeDiff, Nat.reduceLT, ↓reduceIte, reduceCtorEq, Int.reduceLT, Int.reduceToNat, Int.reduceEq, Int.reduceBEq, Int.reduceBNe, Nat.reduceBEq, f0, f42, f43, f44, getAv hi]
          refine pcall (ih _ (List.getElem_mem hi) (hok.2.2 _ (List.getElem_mem hi)) (gs _ (List.getElem_mem hi)) .own (by simp) cs (by omega)) (by simp only [go_sem, Nat.reduceEqDiff, Nat.reduceAdd, Nat.reduceLeDiff, Nat.reduceLT, ↓reduceIte, reduceCtorEq, Int.reduceLT, Int.reduceToNat, Int.reduceEq, Int.reduceBEq, Int.reduceBNe, Nat.reduceBEq]) ?_
          simp only [go_sem, Nat.reduceEqDiff, Nat.reduceAdd, Nat.reduceLeDiff, Nat.reduceLT, ↓reduceIte, reduceCtorEq, Int.reduceLT, Int.reduceToNat, Int.reduceEq, Int.reduceBEq, Int.reduceBNe, Nat.reduceBEq, f42, f43, f44, hw1]
          refine ⟨q - 1, by omega, i + 1, cs ++ enc l[i], by omega, rfl, rfl, by rw [List.append_assoc]; exact he, by omega, ?_⟩
          simp [shrink_upd, hsg, hn]
        · have hi : l.length ≤ i := by simpa using hb
          rw [List.drop_eq_nil_of_le hi, encs, List.append_nil] at he
          simp only [go_sem, Nat.reduceEqDiff, Nat.reduceAdd, Nat.reduceLeDiff, Nat.reduceLT, ↓reduceIte, reduceCtorEq, Int.reduceLT, Int.reduceToNat, Int.reduceEq, Int.reduceBEq, Int.reduceBNe, Nat.reduceBEq, f0, f42, f43, f44]
          exact ⟨.inl (by rw [he]), lab_ints _ _ _, hsh⟩
    | full =>
      have b1 : bs.length + 1 ≤ 140737488355327 := by omega
      have b2 : bs.length + 1 ≤ 9223372036854775806 := by omega
      have b3 : bs.length + 2 + n.length ≤ 140737488355328 := by omega
      have b4 : bs.length + 2 + n.length ≤ 9223372036854775807 := by omega
      have b5 : bs.length ≤ 9223372036854775805 := by omega
      have b6 : bs.length ≤ 140737488355326 := by omega
      have b7 : bs.length + (2 + n.length) ≤ 140737488355328 := by omega
      have b8 : bs.length + (2 + n.length) ≤ 9223372036854775807 := by omega
      simp only [go_sem, Nat.reduceEqDiff, Nat.reduceAdd, Nat.reduceLeDiff, Nat.reduceLT, ↓reduceIte, reduceCtorEq, Int.reduceLT, Int.reduceToNat, Int.reduceEq, Int.reduceBEq, Int.reduceBNe, Nat.reduceBEq, hw, hwn, k2b, a1, a1', a2, a3, a3', a4, List.length_append, b1, b2, b3, b4, b5, b6, b7, b8, bytesA_toI, toI_len]
      by_cases k1 : k = 1
      · subst k1
        rw [if_pos rfl, List.append_nil]
        simp only [go_sem, Nat.reduceEqDiff, Nat.reduceAdd, Nat.reduceLeDiff, Nat.reduceLT, ↓reduceIte, reduceCtorEq, Int.reduceLT, Int.reduceToNat, Int.reduceEq, Int.reduceBEq, Int.reduceBNe, Nat.reduceBEq]
        exact ⟨.inl (by simp), lab_ints _ _ _⟩
      · have k1b : (k == 1) = false := by simpa using k1
        rw [if_neg k1]
        rw [if_neg k1] at hb
        simp only [List.length_cons] at hb
        have c1 : bs.length + (2 + n.length) ≤ 140737488355327 := by omega
        have c2 : bs.length + (2 + n.length) ≤ 9223372036854775806 := by omega
        have c3 : bs.length + (2 + (n.length + 1)) ≤ 140737488355328 := by omega
        have c4 : bs.length + (2 + (n.length + 1)) ≤ 9223372036854775807 := by omega
        simp only [go_sem, Nat.reduceEqDiff, Nat.reduceAdd, Nat.reduceLeDiff, Nat.reduceLT, ↓reduceIte, reduceCtorEq, Int.reduceLT, Int.reduceToNat, Int.reduceEq, Int.reduceBEq, Int.reduceBNe, Nat.reduceBEq, k1b, hwl, c1, c2, c3, c4, List.length_append, toI_len]
        refine cloop (fun q t => ∃ (i : Nat) (cs : List Int), i + q = l.length ∧ t.fr 0 = .sl .own 1 (cs.map (AV.int .u8)) ∧ t.fr 42 = .sl .sh 4 (l.map T.av) ∧ t.fr 43 = .int .i64 l.length ∧ t.fr 44 = .int .i64 (i : Nat) ∧
          cs ++ encs (l.drop i) = bs ++ k :: (n.length : Int) :: (toI n ++ (l.length : Int) :: encs l) ∧ h.n ≤ t.hp.n ∧ Shrink h t.hp h) l.length ⟨0, bs ++ k :: (n.length : Int) :: (toI n ++ [(l.length : Int)]), by simp [fr_apply, argsF, shrink_upd, shrink_n]⟩ ?_
        rintro q ⟨f, hp⟩ ⟨i, cs, hq, f0, f42, f43, f44, he, hn, hsh⟩
        simp only at f0 f42 f43 f44 hn hsh
        have htot := congrArg List.length he
        simp only [List.length_append, List.length_cons, toI_len] at htot
        simp only [go_sem, Nat.reduceEqDiff, Nat.reduceAdd, Nat.reduceLeDiff, Nat.reduceLT, ↓reduceIte, reduceCtorEq, Int.reduceLT, Int.reduceToNat, Int.reduceEq, Int.reduceBEq, Int.reduceBNe, Nat.reduceBEq, f42, f43, f44]
        refine cif (fun hb => ?_) (fun hb => ?_)
        · have hi : i < l.length := by simpa using hb
          rw [encs_drop hi] at he htot
          rw [List.length_append] at htot
          have hsg := shrink_grow (n := hp.n + 1) hsh (by omega)
          have hw1 : IntKind.i64.wrap ((i : Int) + 1) = ((i + 1 : Nat) : Int) := by rw [wrap64] <;> omega
          simp only [go_sem, Nat.reduceEqDiff, Nat.reduceAdd, Nat.reduceLeDiff, Nat.reduceLT, ↓reduceIte, reduceCtorEq, Int.reduceLT, Int.reduceToNat, Int.reduceEq, Int.reduceBEq, Int.reduceBNe, Nat.reduceBEq, f0, f42, f43, f44, getAv hi]
          refine pcall (ih _ (List.getElem_mem hi) (hok.2.2 _ (List.getElem_mem hi)) (gs _ (List.getElem_mem hi)) .own (by simp) cs (by omega)) (by simp only [go_sem, Nat.reduceEqDiff, Nat.reduceAdd, Nat.reduceLeDiff, Nat.reduceLT, ↓reduceIte, reduceCtorEq, Int.reduceLT, Int.reduceToNat, Int.reduceEq, Int.reduceBEq, Int.reduceBNe, Nat.reduceBEq]) ?_
          simp only [go_sem, Nat.reduceEqDiff, Nat.reduceAdd, Nat.reduceLeDiff, Nat.reduceLT, ↓reduceIte, reduceCtorEq, Int.reduceLT, Int.reduceToNat, Int.reduceEq, Int.reduceBEq, Int.reduceBNe, Nat.reduceBEq, f42, f43, f44, hw1]
          refine ⟨q - 1, by omega, i + 1, cs ++ enc l[i], by omega, rfl, rfl, by rw [List.append_assoc]; exact he, by omega, ?_⟩
          simp [shrink_upd, hsg, hn]
        · have hi : l.length ≤ i := by simpa using hb
          rw [List.drop_eq_nil_of_le hi, encs, List.append_nil] at he
          simp only [go_sem, Nat.reduceEqDiff, Nat.reduceAdd, Nat.reduceLeDiff, Nat.reduceLT, ↓reduceIte, reduceCtorEq, Int.reduceLT, Int.reduceToNat, Int.reduceEq, Int.reduceBEq, Int.reduceBNe, Nat.reduceBEq, f0, f42, f43, f44]
          exact ⟨.inl (by rw [he]), lab_ints _ _ _, hsh⟩
end Go.Proofs.Ythaoooohomfkcaa.Ab
