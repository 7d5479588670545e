/- A term's bytes, the document's way; both ways whole. -/
import Derived.Test.YthaoooohomfkcaaWyA
import Derived.Test.YthaoooohomfkcaaWp2
namespace Go.Proofs.Ythaoooohomfkcaa.Ab
set_option linter.unusedVariables false
set_option linter.unusedSimpArgs false
set_option maxRecDepth 10000
attribute [local go_sem] Nat.zero_le Bool.not_true Bool.not_false Bool.false_eq_true if_false if_true forall_const true_and and_true List.map Option.map Bool.and_self Bool.and_true Bool.true_and Bool.false_and Bool.and_false List.getElem?_cons_zero List.getElem?_nil List.getElem?_cons_succ Int.natCast_nonneg Int.toNat_natCast List.length_map List.length_cons List.length_nil Nat.zero_add Nat.le_refl List.drop_zero List.drop_succ_cons List.take_succ_cons List.take_zero List.take_nil ne_eq not_true_eq_false not_false_eq_true upd_same Nat.add_assoc Nat.left_eq_add Nat.add_eq_left Nat.add_left_cancel_iff Nat.succ_ne_self Nat.one_ne_zero Nat.add_zero Nat.le_add_right ite_self List.set_cons_zero List.set_cons_succ List.all_cons List.all_nil bne_self_eq_false List.isEmpty_cons Int.cast_ofNat_Int Nat.mul_one List.nil_append or_self or_true true_or List.cons_append List.append_nil Option.none_beq_some Option.some_beq_some beq_self_eq_true
theorem c43 : compF Try.prog ow Try.f43 = (some (57, ([(.t 2)], (.seq (.ops [(none, (.box 1 (.t 0))), (none, (.set 2 (.str [])))]) (.seq (.ops [(none, (.fa (some 5) (.t 1) 0)), (none, (.ld (some 6) (.t 5) (.one none))), (none, (.cvt (some 7) (.t 6) (some .u8) false false)), (none, (.bs 8 1 [(.t 7)])), (none, (.x (some 9) .bs [(.t 8)])), (none, (.mv 3 9))]) (.seq (.seq (.ops [(none, (.fa (some 10) (.t 1) 0)), (none, (.ld (some 11) (.t 10) (.one none))), (none, (.bin (some 12) .eql (.t 11) (.k (.int .i64 2)) false false))]) (.cond (.t 12) (.seq (.ops [(none, (.cp 13 3)), (none, (.fa (some 14) (.t 1) 2)), (none, (.ld (some 15) (.t 14) (.one none))), (none, (.call (some 16) (.k (.func 39 [] [])) [(.t 15)] none)), (none, (.bin (some 17) .add (.t 13) (.t 16) false false)), (none, (.mv 2 17))]) .ret) .skip)) (.seq (.ops [(none, (.cp 18 3)), (none, (.fa (some 19) (.t 1) 1)), (none, (.ld (some 20) (.t 19) (.one none))), (none, (.len (some 21) (.t 20) true false)), (none, (.cvt (some 22) (.t 21) (some .u8) false false)), (none, (.bs 23 1 [(.t 22)])), (none, (.x (some 24) .bs [(.t 23)])), (none, (.bin (some 25) .add (.t 18) (.t 24) false false)), (none, (.fa (some 26) (.t 1) 1)), (none, (.ld (some 27) (.t 26) (.one none))), (none, (.bin (some 28) .add (.t 25) (.t 27) false false)), (none, (.mv 3 28))]) (.seq (.seq (.ops [(none, (.fa (some 29) (.t 1) 0)), (none, (.ld (some 30) (.t 29) (.one none))), (none, (.bin (some 31) .eql (.t 30) (.k (.int .i64 1)) false false))]) (.cond (.t 31) (.seq (.ops [(none, (.mv 32 3)), (none, (.mv 2 32))]) .ret) .skip)) (.seq (.ops [(none, (.cp 33 3)), (none, (.fa (some 34) (.t 1) 3)), (none, (.ld (some 35) (.t 34) (.one (some 4)))), (none, (.len (some 36) (.t 35) false true)), (none, (.cvt (some 37) (.t 36) (some .u8) false false)), (none, (.bs 38 1 [(.t 37)])), (none, (.x (some 39) .bs [(.t 38)])), (none, (.bin (some 40) .add (.t 33) (.t 39) false false)), (none, (.mv 3 40))]) (.seq (.seq (.ops [(none, (.set 4 (.int .i64 0)))]) (.block 0 (.loop (.seq (.seq (.ops [(none, (.cp 41 4)), (none, (.fa (some 42) (.t 1) 3)), (none, (.ld (some 43) (.t 42) (.one (some 4)))), (none, (.len (some 44) (.t 43) false true)), (none, (.bin (some 45) .lss (.t 41) (.t 44) false false))]) (.cond (.t 45) .skip (.exit 0))) (.seq (.block 1 (.ops [(none, (.cp 48 3)), (none, (.fa (some 49) (.t 1) 3)), (none, (.ld (some 50) (.t 49) (.one (some 4)))), (none, (.cp 51 4)), (none, (.ia (some 52) (.t 50) (.t 51) (some 4) none)), (none, (.ld (some 53) (.t 52) (.agg 4))), (none, (.call (some 54) (.k (.func 43 [] [])) [(.t 53)] none)), (none, (.bin (some 55) .add (.t 48) (.t 54) false false)), (none, (.mv 3 55))])) (.ops [(none, (.cp 46 4)), (none, (.bin (some 47) .add (.t 46) (.k (.int .i64 1)) false false)), (none, (.mv 4 47))])))))) (.seq (.ops [(none, (.mv 56 3)), (none, (.mv 2 56))]) .ret))))))))))) := by kernel_rfl
theorem c42 : compF Try.prog ow Try.f42 = (some (10, ([(.t 2), (.t 3)], (.seq (.ops [(none, (.box 1 (.t 0))), (none, (.set 2 (.str []))), (none, (.set 3 (.int .i64 0)))]) (.seq (.seq (.ops [(none, (.ld (some 4) (.t 1) (.agg 4))), (none, (.call (some 5) (.k (.func 62 [] [])) [(.t 4)] none)), (none, (.un (some 6) .not (.t 5)))]) (.cond (.t 6) (.seq (.ops [(none, (.set 2 (.str []))), (none, (.set 3 (.int .i64 1)))]) .ret) .skip)) (.seq (.ops [(none, (.ld (some 7) (.t 1) (.agg 4))), (none, (.call (some 8) (.k (.func 88 [] [])) [(.k (.sl .full 1 [])), (.t 7)] (some 0))), (none, (.x (some 9) .bs [(.t 8)])), (none, (.mv 2 9)), (none, (.set 3 (.int .i64 0)))]) .ret)))))) := by kernel_rfl
theorem c46 : compF Try.prog ow Try.f46 = (some (26, ([(.c 2 (.agg 4)), (.t 3), (.t 4)], (.seq (.ops [(none, (.alloc 2 [(.int .i64 0), (.str []), (.int .i64 0), (.sl .full 4 [])])), (none, (.set 3 (.str []))), (none, (.set 4 (.int .i64 0)))]) (.seq (.ops [(none, (.cp 6 0)), (none, (.bld (some 7) [(.str []), (.bool false)] [(0, 1), (1, 1)] [(0, (.t 6))])), (none, (.box 8 (.t 7))), (none, (.mv 5 8))]) (.seq (.seq (.ops [(none, (.cp 9 5)), (none, (.call (some 10) (.k (.func 91 [] [])) [(.t 9), (.k (.int .i64 5))] (some 100))), (none, (.st (.t 2) (.t 10) 4))]) (.seq (.ops [(none, (.cp 11 5)), (none, (.nil (some 12) (.t 11))), (none, (.fa (some 13) (.t 12) 1)), (none, (.ld (some 14) (.t 13) (.one none))), (none, (.cp 15 14)), ((some (15, false)), (.ld (some 16) (.t 2) (.agg 4))), ((some (15, false)), (.call (some 17) (.k (.func 62 [] [])) [(.t 16)] none)), ((some (15, false)), (.un (some 18) .not (.t 17))), (none, (.pick (some 19) (.t 15) (.k (.bool true)) (.t 18)))]) (.cond (.t 19) (.seq (.ops [(none, (.bld (some 20) [(.int .i64 0), (.str []), (.int .i64 0), (.sl .full 4 [])] [(0, 1), (1, 1), (2, 1), (3, 1)] [])), (none, (.st (.t 2) (.t 20) 4)), (none, (.set 3 (.str []))), (none, (.set 4 (.int .i64 4)))]) .ret) .skip))) (.seq (.opsT (.one none (.ld (some 21) (.t 2) (.agg 4)) (.one none (.cp 22 5) (.one none (.nil (some 23) (.t 22)) (.one none (.fa (some 24) (.t 23) 0) (.alt none (.ld (some 25) (.t 24) (.one none)) (.one none (.st (.t 2) (.t 21) 4) (.one none (.mv 3 25) (.one none (.set 4 (.int .i64 0)) .done))) (.alt none (.st (.t 2) (.t 21) 4) (.one none (.ld (some 25) (.t 24) (.one none)) (.one none (.mv 3 25) (.one none (.set 4 (.int .i64 0)) .done))) .nil))))))) .ret))))))) := by kernel_rfl
theorem c47 : compF Try.prog ow Try.f47 = (some (27, ([(.c 2 (.agg 4)), (.t 3), (.t 4)], (.seq (.ops [(none, (.alloc 2 [(.int .i64 0), (.str []), (.int .i64 0), (.sl .full 4 [])])), (none, (.set 3 (.str []))), (none, (.set 4 (.bool false)))]) (.seq (.ops [(none, (.cp 7 0)), (none, (.bld (some 8) [(.str []), (.bool false)] [(0, 1), (1, 1)] [(0, (.t 7))])), (none, (.box 9 (.t 8))), (none, (.mv 5 9))]) (.seq (.ops [(none, (.cp 10 5)), (none, (.call (some 11) (.k (.func 92 [] [])) [(.t 10), (.k (.int .i64 5))] (some 100))), (none, (.alloc 6 [(.int .i64 0), (.str []), (.int .i64 0), (.sl .full 4 [])])), (none, (.st (.t 6) (.t 11) 4))]) (.seq (.seq (.ops [(none, (.cp 12 5)), (none, (.nil (some 13) (.t 12))), (none, (.fa (some 14) (.t 13) 1)), (none, (.ld (some 15) (.t 14) (.one none))), (none, (.cp 16 15)), ((some (16, false)), (.ld (some 17) (.t 6) (.agg 4))), ((some (16, false)), (.call (some 18) (.k (.func 23 [] [])) [(.t 17)] none)), ((some (16, false)), (.un (some 19) .not (.t 18))), (none, (.pick (some 20) (.t 16) (.k (.bool true)) (.t 19)))]) (.cond (.t 20) (.seq (.ops [(none, (.bld (some 21) [(.int .i64 0), (.str []), (.int .i64 0), (.sl .full 4 [])] [(0, 1), (1, 1), (2, 1), (3, 1)] [])), (none, (.st (.t 2) (.t 21) 4)), (none, (.set 3 (.str []))), (none, (.set 4 (.bool false)))]) .ret) .skip)) (.seq (.opsT (.one none (.ld (some 22) (.t 6) (.agg 4)) (.one none (.cp 23 5) (.one none (.nil (some 24) (.t 23)) (.one none (.fa (some 25) (.t 24) 0) (.alt none (.ld (some 26) (.t 25) (.one none)) (.one none (.st (.t 2) (.t 22) 4) (.one none (.mv 3 26) (.one none (.set 4 (.bool true)) .done))) (.alt none (.st (.t 2) (.t 22) 4) (.one none (.ld (some 26) (.t 25) (.one none)) (.one none (.mv 3 26) (.one none (.set 4 (.bool true)) .done))) .nil))))))) .ret)))))))) := by kernel_rfl
theorem bytes1 {k : Int} : bytesOf [.int .u8 k] = some [UInt8.ofNat k.toNat] := rfl
theorem fn_renc : ∀ t : T, t.ok → good t = true → (enc t).length < 1000000000 → PFn Try.prog 43 [t.av] (.str (u8s (enc t))) := by
  refine T.ind ?_
  intro k n v l ih hok hg hb h
  rw [ok_mk] at hok
  obtain ⟨gk, gn, gl, gv, gs⟩ := good_mk hg
  rw [av_mk]
  rw [enc] at hb ⊢
  have hw : IntKind.u8.wrap k = k := w8 (by omega) (by omega)
  have hwn : IntKind.u8.wrap (n.length : Int) = n.length := w8 (by omega) (by omega)
  have hwl : IntKind.u8.wrap (l.length : Int) = l.length := w8 (by omega) (by omega)
  have b1 := bytes1 (k := k)
  have b2 := bytes1 (k := (n.length : Int))
  have b3 := bytes1 (k := (l.length : Int))
  refine fnC mixed Try.func43 c43 (by simp) ?_
  by_cases k2 : k = 2
  · subst k2
    rw [if_pos rfl] at hb ⊢
    simp only [go_sem, Nat.reduceEqDiff, Nat.reduceAdd, Nat.reduceLeDiff, Nat.reduceLT, ↓reduceIte, reduceCtorEq, Int.reduceLT, Int.reduceToNat, Int.reduceEq, Int.reduceBEq, Int.reduceBNe, Nat.reduceBEq, hw, b1]
    refine pcall (fn_rNumber v (by omega) (by omega)) (by simp only [go_sem, Nat.reduceEqDiff, Nat.reduceAdd, Nat.reduceLeDiff, Nat.reduceLT, ↓reduceIte, reduceCtorEq, Int.reduceLT, Int.reduceToNat, Int.reduceEq, Int.reduceBEq, Int.reduceBNe, Nat.reduceBEq]) ?_
    simp only [List.length_cons] at hb
    have hl : 1 + (vbs (zz v)).length ≤ 9223372036854775807 := by unfold vbs u8s; rw [List.length_map]; omega
    simp only [go_sem, Nat.reduceEqDiff, Nat.reduceAdd, Nat.reduceLeDiff, Nat.reduceLT, ↓reduceIte, reduceCtorEq, Int.reduceLT, Int.reduceToNat, Int.reduceEq, Int.reduceBEq, Int.reduceBNe, Nat.reduceBEq, hl]
    rfl
  · have k2b : (k == 2) = false := by simpa using k2
    rw [if_neg k2] at hb ⊢
    have hl2 : 2 + n.length ≤ 9223372036854775807 := by omega
    simp only [go_sem, Nat.reduceEqDiff, Nat.reduceAdd, Nat.reduceLeDiff, Nat.reduceLT, ↓reduceIte, reduceCtorEq, Int.reduceLT, Int.reduceToNat, Int.reduceEq, Int.reduceBEq, Int.reduceBNe, Nat.reduceBEq, hw, b1, k2b, hwn, b2, hl2]
    by_cases k1 : k = 1
    · subst k1
      rw [if_pos rfl, List.append_nil, u8_cons, u8_cons, u8_toI]
      simp only [go_sem, Nat.reduceEqDiff, Nat.reduceAdd, Nat.reduceLeDiff, Nat.reduceLT, ↓reduceIte, reduceCtorEq, Int.reduceLT, Int.reduceToNat, Int.reduceEq, Int.reduceBEq, Int.reduceBNe, Nat.reduceBEq]
    · have k1b : (k == 1) = false := by simpa using k1
      rw [if_neg k1] at hb ⊢
      simp only [List.length_cons, List.length_append, toI_len] at hb
      have htot : (u8s (k :: (n.length : Int) :: (toI n ++ (l.length : Int) :: encs l))).length < 1000000000 := by
        unfold u8s; simp only [List.length_map, List.length_cons, List.length_append, toI_len]; omega
      have hS : UInt8.ofNat k.toNat :: UInt8.ofNat n.length :: (n ++ UInt8.ofNat l.length :: u8s (encs l)) = u8s (k :: (n.length : Int) :: (toI n ++ (l.length : Int) :: encs l)) := by
        rw [u8_cons, u8_cons, u8_app, u8_toI, u8_cons]; rfl
      have hl3 : 2 + (n.length + 1) ≤ 9223372036854775807 := by omega
      have hl4 : n.length + 3 ≤ 9223372036854775807 := by omega
      have hl5 : n.length ≤ 9223372036854775804 := by omega
      simp only [go_sem, Nat.reduceEqDiff, Nat.reduceAdd, Nat.reduceLeDiff, Nat.reduceLT, ↓reduceIte, reduceCtorEq, Int.reduceLT, Int.reduceToNat, Int.reduceEq, Int.reduceBEq, Int.reduceBNe, Nat.reduceBEq, k1b, hwl, b3, hl3, hl4, hl5, List.length_append]
      refine cloop (fun q t => ∃ (i : Nat) (cs : List UInt8), i + q = l.length ∧ t.fr 1 = .ptr h.n 0 ∧ t.fr 3 = .str cs ∧ t.fr 4 = .int .i64 (i : Nat) ∧
        cs ++ u8s (encs (l.drop i)) = u8s (k :: (n.length : Int) :: (toI n ++ (l.length : Int) :: encs l)) ∧ t.hp = ⟨h.n + 1, updB h.bk h.n (.cells [.int .i64 k, .str n, .int .i64 v, .sl .sh 4 (l.map T.av)])⟩) l.length ⟨0, UInt8.ofNat k.toNat :: UInt8.ofNat n.length :: (n ++ [UInt8.ofNat l.length]), by simp [fr_apply, argsF, ← hS]⟩ ?_
      rintro q ⟨f, hp⟩ ⟨i, cs, hq, f1, f3, f4, he, rfl⟩
      simp only at f1 f3 f4
      by_cases hi : i < l.length
      · have hi' : decide ((i : Int) < (l.length : Int)) = true := decide_eq_true (by omega)
        rw [encs_drop hi, u8_app] at he
        have hll := congrArg List.length he
        simp only [List.length_append] at hll
        have hel : (u8s (enc l[i])).length = (enc l[i]).length := by unfold u8s; rw [List.length_map]
        have hw1 : IntKind.i64.wrap ((i : Int) + 1) = ((i + 1 : Nat) : Int) := by rw [wrap64] <;> omega
        simp only [go_sem, Nat.reduceEqDiff, Nat.reduceAdd, Nat.reduceLeDiff, Nat.reduceLT, ↓reduceIte, reduceCtorEq, Int.reduceLT, Int.reduceToNat, Int.reduceEq, Int.reduceBEq, Int.reduceBNe, Nat.reduceBEq, f1, f3, f4, hi', getAv hi]
        refine pcall (ih _ (List.getElem_mem hi) (hok.2.2 _ (List.getElem_mem hi)) (gs _ (List.getElem_mem hi)) (by omega)) (by simp only [go_sem, Nat.reduceEqDiff, Nat.reduceAdd, Nat.reduceLeDiff, Nat.reduceLT, ↓reduceIte, reduceCtorEq, Int.reduceLT, Int.reduceToNat, Int.reduceEq, Int.reduceBEq, Int.reduceBNe, Nat.reduceBEq]) ?_
        have hl6 : cs.length + (u8s (enc l[i])).length ≤ 9223372036854775807 := by omega
        simp only [go_sem, Nat.reduceEqDiff, Nat.reduceAdd, Nat.reduceLeDiff, Nat.reduceLT, ↓reduceIte, reduceCtorEq, Int.reduceLT, Int.reduceToNat, Int.reduceEq, Int.reduceBEq, Int.reduceBNe, Nat.reduceBEq, f1, f3, f4, hw1, hl6]
        exact ⟨q - 1, by omega, i + 1, _, by omega, rfl, rfl, by rw [List.append_assoc]; exact he⟩
      · have hi' : decide ((i : Int) < (l.length : Int)) = false := decide_eq_false (by omega)
        rw [List.drop_eq_nil_of_le (by omega), encs] at he
        simp only [go_sem, Nat.reduceEqDiff, Nat.reduceAdd, Nat.reduceLeDiff, Nat.reduceLT, ↓reduceIte, reduceCtorEq, Int.reduceLT, Int.reduceToNat, Int.reduceEq, Int.reduceBEq, Int.reduceBNe, Nat.reduceBEq, f1, f3, f4, hi']
        rw [← he]; simp [u8s]
theorem may_len {t : T} (h : mayB t = true) : good t = true ∧ (enc t).length ≤ 456 ∧ nodT t ≤ 24 := by
  unfold mayB at h
  obtain ⟨h1, h2, h3⟩ := may_good t 5 24 h
  have := enc_len t h1
  exact ⟨h1, by omega, by omega⟩
theorem fn_wTerm (t : T) (ht : t.ok) : PFn Try.prog 42 [t.av] (.tup (if mayB t = true then [.str (u8s (enc t)), .int .i64 0] else [.str [], .int .i64 1])) := by
  intro h
  refine fnC mixed Try.func42 c42 (by simp) ?_
  simp only [go_sem, Nat.reduceEqDiff, Nat.reduceAdd, Nat.reduceLeDiff, Nat.reduceLT, ↓reduceIte, reduceCtorEq, Int.reduceLT, Int.reduceToNat, Int.reduceEq, Int.reduceBEq, Int.reduceBNe, Nat.reduceBEq]
  refine pcall (fn_May t ht) (by simp only [go_sem, Nat.reduceEqDiff, Nat.reduceAdd, Nat.reduceLeDiff, Nat.reduceLT, ↓reduceIte, reduceCtorEq, Int.reduceLT, Int.reduceToNat, Int.reduceEq, Int.reduceBEq, Int.reduceBNe, Nat.reduceBEq]) ?_
  cases hm : mayB t with
  | false => simp only [go_sem, Nat.reduceEqDiff, Nat.reduceAdd, Nat.reduceLeDiff, Nat.reduceLT, ↓reduceIte, reduceCtorEq, Int.reduceLT, Int.reduceToNat, Int.reduceEq, Int.reduceBEq, Int.reduceBNe, Nat.reduceBEq]
  | true =>
    obtain ⟨g1, g2, _⟩ := may_len hm
    have hp := fn_spelt t ht g1 .full (by simp) [] (by simp; omega)
    simp only [List.map, List.nil_append] at hp
    simp only [go_sem, Nat.reduceEqDiff, Nat.reduceAdd, Nat.reduceLeDiff, Nat.reduceLT, ↓reduceIte, reduceCtorEq, Int.reduceLT, Int.reduceToNat, Int.reduceEq, Int.reduceBEq, Int.reduceBNe, Nat.reduceBEq]
    refine pcall hp (by simp only [go_sem, Nat.reduceEqDiff, Nat.reduceAdd, Nat.reduceLeDiff, Nat.reduceLT, ↓reduceIte, reduceCtorEq, Int.reduceLT, Int.reduceToNat, Int.reduceEq, Int.reduceBEq, Int.reduceBNe, Nat.reduceBEq]) ?_
    have hb := bytesOf_u8 (enc t)
    simp only [go_sem, Nat.reduceEqDiff, Nat.reduceAdd, Nat.reduceLeDiff, Nat.reduceLT, ↓reduceIte, reduceCtorEq, Int.reduceLT, Int.reduceToNat, Int.reduceEq, Int.reduceBEq, Int.reduceBNe, Nat.reduceBEq, hb]
theorem takeR_len (r : Rd) (n : Int) : (takeR r n).1.length ≤ n.toNat := by
  unfold takeR; split <;> simp; omega
theorem nameR_len (r : Rd) : (nameR r).1.length < 256 := by
  have := takeR_len (oneR r).2 (oneR r).1
  have := oneR_lt r
  unfold nameR; omega
theorem repR_len (f : Rd → T × Rd) : ∀ (m : Nat) (r : Rd), (repR f m r).1.length ≤ m
  | 0, r => by simp [repR]
  | m + 1, r => by
    rw [repR]; split
    · simp
    · simp only [List.length_cons]; have := repR_len f m (f r).2; omega
theorem repR_mem {f : Rd → T × Rd} {p : T → Prop} (hf : ∀ r, p (f r).1) : ∀ (m : Nat) (r : Rd), ∀ x ∈ (repR f m r).1, p x
  | 0, r, x, h => by simp [repR] at h
  | m + 1, r, x, h => by
    rw [repR] at h; split at h
    · cases h
    · rcases List.mem_cons.1 h with rfl | h
      · exact hf r
      · exact repR_mem hf m _ x h
theorem decW_ok : ∀ (d : Nat) (r : Rd), (decW d r).1.ok := by
  intro d
  induction d with
  | zero => intro r; rw [decW, ok_mk]; simp
  | succ d ih =>
    intro r
    rw [decW]
    have := nameR_len (oneR r).2
    have h2 := oneR_lt (nameR (oneR r).2).2
    have h3 := repR_len (decW d) (oneR (nameR (oneR r).2).2).1 (oneR (nameR (oneR r).2).2).2
    repeat' split
    all_goals rw [ok_mk]
    · simp
    · simp
    · refine ⟨by simp, by omega, by simp⟩
    · exact ⟨by omega, by omega, repR_mem ih _ _⟩
theorem decR_ok : ∀ (d : Nat) (r : Rd), (decR d r).1.ok := by
  have st : ∀ (f : Rd → T × Rd) (d : Nat) (r : Rd), (∀ r, (f r).1.ok) → (stepR f d r).1.ok := by
    intro f d r hf
    unfold stepR
    have hn : ∀ s, nameQ (oneR r).2 = some s → s.1.length < 256 := fun s hs => (nameQ_inv hs).2.2
    split
    · rw [ok_mk]; simp
    split
    · split
      · rw [ok_mk]; simp
      · rename_i s hs
        have := hn _ hs
        have h2 := oneR_lt s.2
        have h3 := repR_len f (cntR d s.2).1 (cntR d s.2).2
        split
        · rw [ok_mk]; exact ⟨by simp, by omega, by simp⟩
        · rw [ok_mk]; exact ⟨by unfold cntR at h3 ⊢; simp only at h3 ⊢; omega, by omega, repR_mem hf _ _⟩
    · rw [ok_mk]; simp
  intro d
  induction d with
  | zero => intro r; exact st _ 0 r (fun r => by simp only; rw [ok_mk]; simp)
  | succ d ih => intro r; exact st _ (d + 1) r ih
theorem fn_May_avf (t : T) (ht : t.ok) : PFn Try.prog 62 [t.avf] (.bool (mayB t)) := by
  have h := fn_May t ht
  refine pfn_fk ?_
  simp only [List.map_cons, List.map_nil, fk_avf]
  exact h
theorem fn_rTerm_avf (t : T) (ht : t.ok) : PFn Try.prog 23 [t.avf] (.bool (mayB t)) := by
  have h := fn_rTerm t ht
  refine pfn_fk ?_
  simp only [List.map_cons, List.map_nil, fk_avf]
  exact h
def okW (s : List UInt8) : Bool := !(decW 5 (s, false)).2.2 && mayB (decW 5 (s, false)).1
def okR (s : List UInt8) : Bool := !(decR 5 (s, false)).2.2 && mayB (decR 5 (s, false)).1
attribute [local go_sem] strip_flS strip_flT isOwn_flS avf_agg strip_avf isOwn_avf avf_len avf_take avf_okc avf_put avf_cstrip
theorem avf_put2 (t u : T) : putCells t.avf.cells 0 u.avf.cells = u.avf.cells := by cases t; cases u; rw [avf_mk, avf_mk]; rfl
theorem zero_avf : (T.mk 0 [] 0 []).avf = .agg [.int .i64 0, .str [], .int .i64 0, .sl .full 4 []] := by rw [avf_mk]; rfl
theorem fn_wTake (s : List UInt8) : PFn Try.prog 46 [.str s] (.tup (if okW s = true then [(decW 5 (s, false)).1.avf, .str (decW 5 (s, false)).2.1, .int .i64 0] else [(T.mk 0 [] 0 []).avf, .str [], .int .i64 4])) := by
  intro h
  refine fnC mixed Try.func46 c46 (by simp) ?_
  have n1 : ¬ (h.n = h.n + 1) := by omega
  have n2 : ¬ (h.n + 1 = h.n) := by omega
  simp only [go_sem, Nat.reduceEqDiff, Nat.reduceAdd, Nat.reduceLeDiff, Nat.reduceLT, ↓reduceIte, reduceCtorEq, Int.reduceLT, Int.reduceToNat, Int.reduceEq, Int.reduceBEq, Int.reduceBNe, Nat.reduceBEq, n1, n2]
  refine ccall (fn_decW 5 (s, false) (h.n + 1) _ (by omega) (by simp) (by simp [bk_apply, rdB])) (by simp only [go_sem, Nat.reduceEqDiff, Nat.reduceAdd, Nat.reduceLeDiff, Nat.reduceLT, ↓reduceIte, reduceCtorEq, Int.reduceLT, Int.reduceToNat, Int.reduceEq, Int.reduceBEq, Int.reduceBNe, Nat.reduceBEq]) ?_
  have hok := decW_ok 5 (s, false)
  unfold okW
  rcases hd : decW 5 (s, false) with ⟨t, rest, b⟩
  rw [hd] at hok
  simp only at hok
  cases b with
  | true =>
    simp only [go_sem, Nat.reduceEqDiff, Nat.reduceAdd, Nat.reduceLeDiff, Nat.reduceLT, ↓reduceIte, reduceCtorEq, Int.reduceLT, Int.reduceToNat, Int.reduceEq, Int.reduceBEq, Int.reduceBNe, Nat.reduceBEq, rd_eta, n1, n2]
    exact ⟨by rw [zero_avf], lab_avf _ _⟩
  | false =>
    simp only [go_sem, Nat.reduceEqDiff, Nat.reduceAdd, Nat.reduceLeDiff, Nat.reduceLT, ↓reduceIte, reduceCtorEq, Int.reduceLT, Int.reduceToNat, Int.reduceEq, Int.reduceBEq, Int.reduceBNe, Nat.reduceBEq, rd_eta, n1, n2]
    refine pcall (fn_May_avf t hok) (by simp only [go_sem, Nat.reduceEqDiff, Nat.reduceAdd, Nat.reduceLeDiff, Nat.reduceLT, ↓reduceIte, reduceCtorEq, Int.reduceLT, Int.reduceToNat, Int.reduceEq, Int.reduceBEq, Int.reduceBNe, Nat.reduceBEq]) ?_
    cases hm : mayB t with
    | false =>
      simp only [go_sem, Nat.reduceEqDiff, Nat.reduceAdd, Nat.reduceLeDiff, Nat.reduceLT, ↓reduceIte, reduceCtorEq, Int.reduceLT, Int.reduceToNat, Int.reduceEq, Int.reduceBEq, Int.reduceBNe, Nat.reduceBEq, rd_eta, n1, n2]
      exact ⟨by rw [zero_avf], lab_avf _ _⟩
    | true =>
      simp only [go_sem, Nat.reduceEqDiff, Nat.reduceAdd, Nat.reduceLeDiff, Nat.reduceLT, ↓reduceIte, reduceCtorEq, Int.reduceLT, Int.reduceToNat, Int.reduceEq, Int.reduceBEq, Int.reduceBNe, Nat.reduceBEq, rd_eta, n1, n2, avf_put2]
      exact ⟨lab_avf _ _, lab_avf _ _⟩
theorem fn_rTake (s : List UInt8) : PFn Try.prog 47 [.str s] (.tup (if okR s = true then [(decR 5 (s, false)).1.avf, .str (decR 5 (s, false)).2.1, .bool true] else [(T.mk 0 [] 0 []).avf, .str [], .bool false])) := by
  intro h
  refine fnC mixed Try.func47 c47 (by simp) ?_
  have n1 : ¬ (h.n = h.n + 1) := by omega
  have n2 : ¬ (h.n + 1 = h.n) := by omega
  simp only [go_sem, Nat.reduceEqDiff, Nat.reduceAdd, Nat.reduceLeDiff, Nat.reduceLT, ↓reduceIte, reduceCtorEq, Int.reduceLT, Int.reduceToNat, Int.reduceEq, Int.reduceBEq, Int.reduceBNe, Nat.reduceBEq, n1, n2]
  refine ccall (fn_decR 5 (s, false) (h.n + 1) _ (by omega) (by simp) (by simp [bk_apply, rdB])) (by simp only [go_sem, Nat.reduceEqDiff, Nat.reduceAdd, Nat.reduceLeDiff, Nat.reduceLT, ↓reduceIte, reduceCtorEq, Int.reduceLT, Int.reduceToNat, Int.reduceEq, Int.reduceBEq, Int.reduceBNe, Nat.reduceBEq]) ?_
  have hok := decR_ok 5 (s, false)
  unfold okR
  rcases hd : decR 5 (s, false) with ⟨t, rest, b⟩
  rw [hd] at hok
  simp only at hok
  cases b with
  | true =>
    simp only [go_sem, Nat.reduceEqDiff, Nat.reduceAdd, Nat.reduceLeDiff, Nat.reduceLT, ↓reduceIte, reduceCtorEq, Int.reduceLT, Int.reduceToNat, Int.reduceEq, Int.reduceBEq, Int.reduceBNe, Nat.reduceBEq, rd_eta, n1, n2]
    exact ⟨by rw [zero_avf], lab_avf _ _⟩
  | false =>
    simp only [go_sem, Nat.reduceEqDiff, Nat.reduceAdd, Nat.reduceLeDiff, Nat.reduceLT, ↓reduceIte, reduceCtorEq, Int.reduceLT, Int.reduceToNat, Int.reduceEq, Int.reduceBEq, Int.reduceBNe, Nat.reduceBEq, rd_eta, n1, n2]
    refine pcall (fn_rTerm_avf t hok) (by simp only [go_sem, Nat.reduceEqDiff, Nat.reduceAdd, Nat.reduceLeDiff, Nat.reduceLT, ↓reduceIte, reduceCtorEq, Int.reduceLT, Int.reduceToNat, Int.reduceEq, Int.reduceBEq, Int.reduceBNe, Nat.reduceBEq]) ?_
    cases hm : mayB t with
    | false =>
      simp only [go_sem, Nat.reduceEqDiff, Nat.reduceAdd, Nat.reduceLeDiff, Nat.reduceLT, ↓reduceIte, reduceCtorEq, Int.reduceLT, Int.reduceToNat, Int.reduceEq, Int.reduceBEq, Int.reduceBNe, Nat.reduceBEq, rd_eta, n1, n2]
      exact ⟨by rw [zero_avf], lab_avf _ _⟩
    | true =>
      simp only [go_sem, Nat.reduceEqDiff, Nat.reduceAdd, Nat.reduceLeDiff, Nat.reduceLT, ↓reduceIte, reduceCtorEq, Int.reduceLT, Int.reduceToNat, Int.reduceEq, Int.reduceBEq, Int.reduceBNe, Nat.reduceBEq, rd_eta, n1, n2, avf_put2]
      exact ⟨lab_avf _ _, lab_avf _ _⟩
end Go.Proofs.Ythaoooohomfkcaa.Ab
