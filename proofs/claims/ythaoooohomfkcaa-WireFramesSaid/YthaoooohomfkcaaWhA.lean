/- Texts copied; names joined in order, the document's way. Names joined in order, the document's way. A term's variables and whether it is ground, the document's way. -/
import Derived.Test.YthaoooohomfkcaaWy5
namespace Go.Proofs.Ythaoooohomfkcaa.Ab
set_option linter.unusedVariables false
set_option linter.unusedSimpArgs false
set_option maxRecDepth 10000
attribute [local go_sem] Nat.zero_le Bool.not_true Bool.not_false Bool.false_eq_true if_false if_true forall_const true_and and_true List.map Option.map Bool.and_self Bool.and_true Bool.true_and Bool.false_and Bool.and_false List.getElem?_cons_zero List.getElem?_nil List.getElem?_cons_succ Int.natCast_nonneg Int.toNat_natCast List.length_map List.length_cons List.length_nil Nat.zero_add Nat.le_refl List.drop_zero List.drop_succ_cons List.take_succ_cons List.take_zero List.take_nil ne_eq not_true_eq_false not_false_eq_true upd_same Nat.add_assoc Nat.left_eq_add Nat.add_eq_left Nat.add_left_cancel_iff Nat.succ_ne_self Nat.one_ne_zero Nat.add_zero Nat.le_add_right ite_self List.set_cons_zero List.set_cons_succ List.all_cons List.all_nil bne_self_eq_false List.isEmpty_cons Int.cast_ofNat_Int Nat.mul_one List.nil_append or_self or_true true_or List.cons_append List.append_nil Option.none_beq_some Option.some_beq_some beq_self_eq_true
theorem c54 : compF Try.prog ow Try.f54 = (some (19, ([(.t 2)], (.seq (.ops [(none, (.set 2 (.sl .full 1 [])))]) (.seq (.ops [(none, (.set 3 (.sl .full 1 [])))]) (.seq (.seq (.ops [(none, (.set 4 (.int .i64 0)))]) (.block 0 (.loop (.seq (.seq (.ops [(none, (.cp 5 4)), (none, (.cp 6 0)), (none, (.len (some 7) (.t 6) false true)), (none, (.bin (some 8) .lss (.t 5) (.t 7) false false))]) (.cond (.t 8) .skip (.exit 0))) (.seq (.block 1 (.ops [(none, (.mv 11 3)), (none, (.cp 12 0)), (none, (.cp 13 4)), (none, (.ia (some 14) (.t 12) (.t 13) (some 1) none)), (none, (.ld (some 15) (.t 14) (.one none))), (none, (.bs 16 1 [(.t 15)])), (none, (.app 17 (.t 11) (.t 16) 1 16 true true)), (none, (.mv 3 17))])) (.ops [(none, (.cp 9 4)), (none, (.bin (some 10) .add (.t 9) (.k (.int .i64 1)) false false)), (none, (.mv 4 10))])))))) (.seq (.ops [(none, (.mv 18 3)), (none, (.mv 2 18))]) .ret))))))) := by kernel_rfl
def flX : List (List UInt8) → Fl | [] => .full | _ => .own
theorem flX_snoc (l : List (List UInt8)) (x : List UInt8) : flX (l ++ [x]) = .own := by cases l <;> rfl
theorem labL_strs (n : Nat) : ∀ l : List (List UInt8), labL n (l.map AV.str) = true
  | [] => rfl
  | x :: l => by simp only [List.map_cons, labL, labL_strs n l]; rfl
theorem fn_CopyStrings (l : List (List UInt8)) (hl : l.length * 16 ≤ 140737488355328) : PFn Try.prog 54 [.sl .sh 1 (l.map AV.str)] (.sl (flX l) 1 (l.map AV.str)) := by
  intro h
  refine fnC mixed Try.func54 c54 (by simp) ?_
  simp only [go_sem, Nat.reduceEqDiff, Nat.reduceAdd, Nat.reduceLeDiff, Nat.reduceLT, ↓reduceIte, reduceCtorEq, Int.reduceLT, Int.reduceToNat, Int.reduceEq, Int.reduceBEq, Int.reduceBNe, Nat.reduceBEq]
  refine cloop (fun k t => ∃ i : Nat, i + k = l.length ∧ t.fr 0 = .sl .sh 1 (l.map AV.str) ∧ t.fr 3 = .sl (flX (l.take i)) 1 ((l.take i).map AV.str) ∧ t.fr 4 = .int .i64 (i : Nat) ∧ t.hp = h) l.length ⟨0, by simp, by simp [fr_apply, argsF, strip], by simp [fr_apply, flX], by simp [fr_apply], rfl⟩ ?_
  rintro k ⟨f, hp⟩ ⟨i, hk, f0, f3, f4, rfl⟩
  simp only at f0 f3 f4
  by_cases hi : i < l.length
  · have hi' : decide ((i : Int) < (l.length : Int)) = true := decide_eq_true (by omega)
    have hw1 : IntKind.i64.wrap ((i : Int) + 1) = ((i + 1 : Nat) : Int) := by rw [wrap64] <;> omega
    have hx := getStr hi
    have ht : l.take (i + 1) = l.take i ++ [l[i]] := by rw [List.take_add_one, List.getElem?_eq_getElem hi]; rfl
    have hlen : (l.take i).length = i := by rw [List.length_take]; omega
    have a1 : (i + 1) * 16 ≤ 140737488355328 := by omega
    have a2 : i ≤ 9223372036854775806 := by omega
    have hdone : (AV.sl (flX (l.take (i + 1))) 1 ((l.take (i + 1)).map AV.str)) = .sl .own 1 ((l.take i).map AV.str ++ [.str l[i]]) := by rw [ht, flX_snoc, List.map_append]; rfl
    cases i with
    | zero =>
      have f3' : f 3 = .sl .full 1 [] := by rw [f3]; rfl
      have hdone' : (AV.sl (flX (l.take 1)) 1 ((l.take 1).map AV.str)) = .sl .own 1 [.str l[0]] := hdone
      generalize l[0] = y at hx hdone'
      have hi0 : decide ((0 : Int) < (l.length : Int)) = true := decide_eq_true (by omega)
      have hw0 : IntKind.i64.wrap ((0 : Int) + 1) = 1 := by decide
      have a3 : 1 * 16 ≤ 140737488355328 := by omega
      simp only [go_sem, Nat.reduceEqDiff, Nat.reduceAdd, Nat.reduceLeDiff, Nat.reduceLT, ↓reduceIte, reduceCtorEq, Int.reduceLT, Int.reduceToNat, Int.reduceEq, Int.reduceBEq, Int.reduceBNe, Nat.reduceBEq, f0, f3', f4, hi0, hx, hw0, a3, Int.cast_ofNat_Int, Int.le_refl]
      exact ⟨k - 1, by omega, 1, by omega, hdone'.symm, rfl⟩
    | succ i =>
      have hfl : flX (l.take (i + 1)) = .own := by
        cases hw : l.take (i + 1) with
        | nil => rw [hw] at hlen; simp at hlen
        | cons a b => rfl
      rw [hfl] at f3
      have a1' : (i + 2) * 16 ≤ 140737488355328 := by omega
      have a2' : i ≤ 9223372036854775805 := by omega
      simp only [go_sem, Nat.reduceEqDiff, Nat.reduceAdd, Nat.reduceLeDiff, Nat.reduceLT, ↓reduceIte, reduceCtorEq, Int.reduceLT, Int.reduceToNat, Int.reduceEq, Int.reduceBEq, Int.reduceBNe, Nat.reduceBEq, f0, f3, f4, hi', hx, hw1, hlen, a1, a2, a1', a2']
      exact ⟨k - 1, by omega, i + 2, by omega, hdone.symm, rfl⟩
  · have hi' : decide ((i : Int) < (l.length : Int)) = false := decide_eq_false (by omega)
    have ht : l.take i = l := List.take_of_length_le (by omega)
    rw [ht] at f3
    cases hfl : flX l with
    | sh => cases l <;> cases hfl
    | own =>
      rw [hfl] at f3
      simp only [go_sem, Nat.reduceEqDiff, Nat.reduceAdd, Nat.reduceLeDiff, Nat.reduceLT, ↓reduceIte, reduceCtorEq, Int.reduceLT, Int.reduceToNat, Int.reduceEq, Int.reduceBEq, Int.reduceBNe, Nat.reduceBEq, f0, f3, f4, hi']
      exact labL_strs _ _
    | full =>
      rw [hfl] at f3
      simp only [go_sem, Nat.reduceEqDiff, Nat.reduceAdd, Nat.reduceLeDiff, Nat.reduceLT, ↓reduceIte, reduceCtorEq, Int.reduceLT, Int.reduceToNat, Int.reduceEq, Int.reduceBEq, Int.reduceBNe, Nat.reduceBEq, f0, f3, f4, hi']
      exact labL_strs _ _
end Go.Proofs.Ythaoooohomfkcaa.Ab

namespace Go.Proofs.Ythaoooohomfkcaa.Ab
set_option linter.unusedVariables false
set_option linter.unusedSimpArgs false
set_option maxRecDepth 10000
attribute [local go_sem] Nat.zero_le Bool.not_true Bool.not_false Bool.false_eq_true if_false if_true forall_const true_and and_true List.map Option.map Bool.and_self Bool.and_true Bool.true_and Bool.false_and Bool.and_false List.getElem?_cons_zero List.getElem?_nil List.getElem?_cons_succ Int.natCast_nonneg Int.toNat_natCast List.length_map List.length_cons List.length_nil Nat.zero_add Nat.le_refl List.drop_zero List.drop_succ_cons List.take_succ_cons List.take_zero List.take_nil ne_eq not_true_eq_false not_false_eq_true upd_same Nat.add_assoc Nat.left_eq_add Nat.add_eq_left Nat.add_left_cancel_iff Nat.succ_ne_self Nat.one_ne_zero Nat.add_zero Nat.le_add_right ite_self List.set_cons_zero List.set_cons_succ List.all_cons List.all_nil bne_self_eq_false List.isEmpty_cons Int.cast_ofNat_Int Nat.mul_one List.nil_append or_self or_true true_or List.cons_append List.append_nil Option.none_beq_some Option.some_beq_some beq_self_eq_true
theorem c72 : compF Try.prog ow Try.f72 = (some (63, ([(.t 4)], (.seq (.ops [(none, (.set 4 (.sl .full 1 [])))]) (.seq (.ops [(none, (.cp 8 0)), (none, (.call (some 9) (.k (.func 54 [] [])) [(.t 8)] none)), (none, (.mv 5 9))]) (.seq (.seq (.ops [(none, (.set 6 (.int .i64 0)))]) (.block 0 (.loop (.seq (.seq (.ops [(none, (.cp 10 6)), (none, (.cp 11 1)), (none, (.len (some 12) (.t 11) false true)), (none, (.bin (some 13) .lss (.t 10) (.t 12) false false))]) (.cond (.t 13) .skip (.exit 0))) (.seq (.block 1 (.seq (.ops [(none, (.set 7 (.int .i64 0)))]) (.seq (.block 2 (.loop (.seq (.seq (.opsD [(none, (.cp 16 7)), (none, (.cp 17 5)), (none, (.len (some 18) (.t 17) false true)), (none, (.bin (some 19) .lss (.t 16) (.t 18) false false)), (none, (.cp 20 19)), ((some (20, true)), (.cp 21 5)), ((some (20, true)), (.cp 22 7)), ((some (20, true)), (.ia (some 23) (.t 21) (.t 22) (some 1) none)), ((some (20, true)), (.ld (some 24) (.t 23) (.one none))), ((some (20, true)), (.cp 25 1)), ((some (20, true)), (.cp 26 6)), ((some (20, true)), (.ia (some 27) (.t 25) (.t 26) (some 1) none)), ((some (20, true)), (.ld (some 28) (.t 27) (.one none))), ((some (20, true)), (.bin (some 29) .lss (.t 24) (.t 28) false false)), (none, (.pick (some 30) (.t 20) (.t 29) (.k (.bool false))))]) (.cond (.t 30) .skip (.exit 2))) (.block 3 (.ops [(none, (.cp 31 7)), (none, (.bin (some 32) .add (.t 31) (.k (.int .i64 1)) false false)), (none, (.mv 7 32))]))))) (.seq (.seq (.opsD [(none, (.cp 33 7)), (none, (.cp 34 5)), (none, (.len (some 35) (.t 34) false true)), (none, (.bin (some 36) .lss (.t 33) (.t 35) false false)), (none, (.cp 37 36)), ((some (37, true)), (.cp 38 5)), ((some (37, true)), (.cp 39 7)), ((some (37, true)), (.ia (some 40) (.t 38) (.t 39) (some 1) none)), ((some (37, true)), (.ld (some 41) (.t 40) (.one none))), ((some (37, true)), (.cp 42 1)), ((some (37, true)), (.cp 43 6)), ((some (37, true)), (.ia (some 44) (.t 42) (.t 43) (some 1) none)), ((some (37, true)), (.ld (some 45) (.t 44) (.one none))), ((some (37, true)), (.bin (some 46) .eql (.t 41) (.t 45) false false)), (none, (.pick (some 47) (.t 37) (.t 46) (.k (.bool false))))]) (.cond (.t 47) (.exit 1) .skip)) (.opsD [(none, (.cp 48 5)), (none, (.cp 49 7)), (none, (.sl (some 50) (.t 48) none (some (.t 49)) none false (some 1))), (none, (.call (some 51) (.k (.func 54 [] [])) [(.t 50)] none)), (none, (.cp 52 1)), (none, (.cp 53 6)), (none, (.ia (some 54) (.t 52) (.t 53) (some 1) none)), (none, (.ld (some 55) (.t 54) (.one none))), (none, (.bs 56 1 [(.t 55)])), (none, (.app 57 (.t 51) (.t 56) 1 16 true true)), (none, (.cp 58 5)), (none, (.cp 59 7)), (none, (.sl (some 60) (.t 58) (some (.t 59)) none none false (some 1))), (none, (.app 61 (.t 57) (.t 60) 1 16 true true)), (none, (.mv 5 61))]))))) (.ops [(none, (.cp 14 6)), (none, (.bin (some 15) .add (.t 14) (.k (.int .i64 1)) false false)), (none, (.mv 6 15))])))))) (.seq (.ops [(none, (.mv 62 5)), (none, (.mv 4 62))]) .ret))))))) := by kernel_rfl
def kR (l : List (List UInt8)) (x : List UInt8) : Nat := (l.takeWhile fun y => Op.bytesLess y x).length
def insR (l : List (List UInt8)) (x : List UInt8) : List (List UInt8) := if l[kR l x]? = some x then l else l.take (kR l x) ++ x :: l.drop (kR l x)
def namR (a b : List (List UInt8)) : List (List UInt8) := b.foldl insR a
theorem insR_len (l : List (List UInt8)) (x : List UInt8) : (insR l x).length ≤ l.length + 1 := by
  unfold insR; split
  · omega
  · simp only [List.length_append, List.length_cons, List.length_take, List.length_drop]; omega
theorem namR_len (b : List (List UInt8)) : ∀ a, (namR a b).length ≤ a.length + b.length := by
  induction b with
  | nil => intro a; simp [namR]
  | cons x b ih => intro a; have := ih (insR a x); have := insR_len a x; unfold namR at *; simp only [List.foldl_cons, List.length_cons]; omega
theorem kR_le (l : List (List UInt8)) (x : List UInt8) : kR l x ≤ l.length := (List.takeWhile_sublist _).length_le
theorem kR_step {l : List (List UInt8)} {x : List UInt8} {j : Nat} (hj : j < l.length) : ((l.drop j).takeWhile fun y => Op.bytesLess y x).length = if Op.bytesLess l[j] x = true then ((l.drop (j + 1)).takeWhile fun y => Op.bytesLess y x).length + 1 else 0 := by
  rw [List.drop_eq_getElem_cons hj, List.takeWhile_cons]
  split <;> simp
theorem fn_rNames (a b : List (List UInt8)) (hl : (a.length + b.length) * 16 ≤ 140737488355328) : PFn Try.prog 72 [.sl .sh 1 (a.map AV.str), .sl .sh 1 (b.map AV.str)] (.sl (flX (namR a b)) 1 ((namR a b).map AV.str)) := by
  intro h
  refine fnC mixed Try.func72 c72 (by simp) ?_
  simp only [go_sem, Nat.reduceEqDiff, Nat.reduceAdd, Nat.reduceLeDiff, Nat.reduceLT, ↓reduceIte, reduceCtorEq, Int.reduceLT, Int.reduceToNat, Int.reduceEq, Int.reduceBEq, Int.reduceBNe, Nat.reduceBEq]
  have hC := fn_CopyStrings a (by omega)
  refine pcall hC (by simp only [go_sem, Nat.reduceEqDiff, Nat.reduceAdd, Nat.reduceLeDiff, Nat.reduceLT, ↓reduceIte, reduceCtorEq, Int.reduceLT, Int.reduceToNat, Int.reduceEq, Int.reduceBEq, Int.reduceBNe, Nat.reduceBEq]) ?_
  cases hfl : flX a with
  | sh => cases a <;> cases hfl
  | own =>
    simp only [go_sem, Nat.reduceEqDiff, Nat.reduceAdd, Nat.reduceLeDiff, Nat.reduceLT, ↓reduceIte, reduceCtorEq, Int.reduceLT, Int.reduceToNat, Int.reduceEq, Int.reduceBEq, Int.reduceBNe, Nat.reduceBEq, hfl]
    refine cloop (fun q t => ∃ (i : Nat) (cur : List (List UInt8)), i + q = b.length ∧ cur.length ≤ a.length + i ∧ t.fr 1 = .sl .sh 1 (b.map AV.str) ∧ t.fr 5 = .sl (flX cur) 1 (cur.map AV.str) ∧ t.fr 6 = .int .i64 (i : Nat) ∧ namR cur (b.drop i) = namR a b ∧ t.hp = h) b.length ⟨0, a, by simp, by simp, by simp [fr_apply, argsF, strip], by simp [fr_apply, hfl], by simp [fr_apply], by simp, rfl⟩ ?_
    rintro q ⟨f, hp⟩ ⟨i, cur, hq, hcl, f1, f5, f6, he, rfl⟩
    simp only at f1 f5 f6
    by_cases hi : i < b.length
    · have hi' : decide ((i : Int) < (b.length : Int)) = true := decide_eq_true (by omega)
      have hw1 : IntKind.i64.wrap ((i : Int) + 1) = ((i + 1 : Nat) : Int) := by rw [wrap64] <;> omega
      have hx := getStr hi
      have hd : namR cur (b.drop i) = namR (insR cur b[i]) (b.drop (i + 1)) := by rw [List.drop_eq_getElem_cons hi]; rfl
      rw [hd] at he
      generalize b[i] = x at hx he
      simp only [go_sem, Nat.reduceEqDiff, Nat.reduceAdd, Nat.reduceLeDiff, Nat.reduceLT, ↓reduceIte, reduceCtorEq, Int.reduceLT, Int.reduceToNat, Int.reduceEq, Int.reduceBEq, Int.reduceBNe, Nat.reduceBEq, f1, f5, f6, hi']
      cases cur with
      | nil =>
        have f5' : f 5 = .sl .full 1 [] := f5
        refine cloop (fun q' t => t.fr 1 = .sl .sh 1 (b.map AV.str) ∧ t.fr 5 = .sl .full 1 [] ∧ t.fr 6 = .int .i64 (i : Nat) ∧ t.fr 7 = .int .i64 0 ∧ t.hp = hp) 0 ⟨by simp [fr_apply, f1], by simp [fr_apply, f5'], by simp [fr_apply, f6], by simp [fr_apply], rfl⟩ ?_
        rintro q' ⟨f', hp'⟩ ⟨g1, g5, g6, g7, rfl⟩
        simp only at g1 g5 g6 g7
        have hC0 := fn_CopyStrings [] (by simp)
        have hC1 : PFn Try.prog 54 [.sl .sh 1 []] (.sl .full 1 []) := hC0
        have hin : insR [] x = [x] := rfl
        rw [hin] at he
        have a1 : 1 * 16 ≤ 140737488355328 := by omega
        have a2 : 1 ≤ 140737488355328 := by omega
        simp only [go_sem, Nat.reduceEqDiff, Nat.reduceAdd, Nat.reduceLeDiff, Nat.reduceLT, ↓reduceIte, reduceCtorEq, Int.reduceLT, Int.reduceToNat, Int.reduceEq, Int.reduceBEq, Int.reduceBNe, Nat.reduceBEq, g1, g5, g6, g7, Int.lt_irrefl, decide_false, hx, Int.le_refl]
        refine pcallD hC1 (by simp only [go_sem, Nat.reduceEqDiff, Nat.reduceAdd, Nat.reduceLeDiff, Nat.reduceLT, ↓reduceIte, reduceCtorEq, Int.reduceLT, Int.reduceToNat, Int.reduceEq, Int.reduceBEq, Int.reduceBNe, Nat.reduceBEq]) ?_
        simp only [go_sem, Nat.reduceEqDiff, Nat.reduceAdd, Nat.reduceLeDiff, Nat.reduceLT, ↓reduceIte, reduceCtorEq, Int.reduceLT, Int.reduceToNat, Int.reduceEq, Int.reduceBEq, Int.reduceBNe, Nat.reduceBEq, g1, g5, g6, g7, hx, Int.le_refl, a1, hw1]
        exact ⟨q - 1, by omega, i + 1, [x], by omega, by simp; omega, rfl, rfl, he⟩
      | cons c0 cs =>
        have f5' : f 5 = .sl .own 1 ((c0 :: cs).map AV.str) := f5
        have hf : flX (c0 :: cs) = .own := rfl
        generalize c0 :: cs = cur at *
        refine cloop (fun q' t => ∃ j : Nat, j + q' = cur.length ∧ t.fr 1 = .sl .sh 1 (b.map AV.str) ∧ t.fr 5 = .sl .own 1 (cur.map AV.str) ∧ t.fr 6 = .int .i64 (i : Nat) ∧ t.fr 7 = .int .i64 (j : Nat) ∧ j + ((cur.drop j).takeWhile fun y => Op.bytesLess y x).length = kR cur x ∧ t.hp = hp) cur.length ⟨0, by simp, by simp [fr_apply, f1], by simp [fr_apply, f5'], by simp [fr_apply, f6], by simp [fr_apply], by simp [kR], rfl⟩ ?_
        rintro q' ⟨f', hp'⟩ ⟨j, hj, g1, g5, g6, g7, hk, rfl⟩
        simp only at g1 g5 g6 g7
        by_cases hjl : j < cur.length
        · have hj' : decide ((j : Int) < (cur.length : Int)) = true := decide_eq_true (by omega)
          have hy := getStr hjl
          rw [kR_step hjl] at hk
          have hwj : IntKind.i64.wrap ((j : Int) + 1) = ((j + 1 : Nat) : Int) := by rw [wrap64] <;> omega
          cases hlt : Op.bytesLess cur[j] x with
          | true =>
            rw [if_pos hlt] at hk
            simp only [go_sem, Nat.reduceEqDiff, Nat.reduceAdd, Nat.reduceLeDiff, Nat.reduceLT, ↓reduceIte, reduceCtorEq, Int.reduceLT, Int.reduceToNat, Int.reduceEq, Int.reduceBEq, Int.reduceBNe, Nat.reduceBEq, g1, g5, g6, g7, hj', hx, hy, hlt, hwj]
            exact ⟨q' - 1, by omega, j + 1, by omega, rfl, by omega⟩
          | false =>
            rw [if_neg (by rw [hlt]; simp)] at hk
            cases hex : (cur[j] == x) with
            | true =>
              simp only [go_sem, Nat.reduceEqDiff, Nat.reduceAdd, Nat.reduceLeDiff, Nat.reduceLT, ↓reduceIte, reduceCtorEq, Int.reduceLT, Int.reduceToNat, Int.reduceEq, Int.reduceBEq, Int.reduceBNe, Nat.reduceBEq, g1, g5, g6, g7, hj', hx, hy, hlt, hex, hw1]
              have hin : insR cur x = cur := by
                unfold insR
                rw [if_pos]
                rw [← hk, Nat.add_zero, List.getElem?_eq_getElem hjl]
                simp at hex; rw [hex]
              rw [hin] at he
              exact ⟨q - 1, by omega, i + 1, cur, by omega, by omega, by rw [hf], rfl, he⟩
            | false =>
              simp only [go_sem, Nat.reduceEqDiff, Nat.reduceAdd, Nat.reduceLeDiff, Nat.reduceLT, ↓reduceIte, reduceCtorEq, Int.reduceLT, Int.reduceToNat, Int.reduceEq, Int.reduceBEq, Int.reduceBNe, Nat.reduceBEq, g1, g5, g6, g7, hj', hx, hy, hlt, hex]
              have hno : cur[kR cur x]? ≠ some x := by
                rw [← hk, Nat.add_zero, List.getElem?_eq_getElem hjl]
                intro e; cases e; simp at hex
              have hjk : j = kR cur x := by omega
              have hle : j ≤ cur.length := by omega
              have hin : insR cur x = cur.take j ++ x :: cur.drop j := by unfold insR; rw [if_neg hno, ← hjk]
              rw [hin] at he
              have hC2 := fn_CopyStrings (cur.take j) (by rw [List.length_take]; omega)
              rw [List.map_take] at hC2
              have hlt2 : (List.take j (List.map AV.str cur)).length = j := by rw [List.length_take, List.length_map]; omega
              have hld : (List.drop j (List.map AV.str cur)).length = cur.length - j := by rw [List.length_drop, List.length_map]
              have htk : List.take (cur.length - j) (List.drop j (List.map AV.str cur)) = List.drop j (List.map AV.str cur) := List.take_of_length_le (by rw [hld]; omega)
              have hfin : flX (cur.take j ++ x :: cur.drop j) = .own := by cases cur.take j <;> rfl
              have b1 : (j + 1) * 16 ≤ 140737488355328 := by omega
              have b2 : j ≤ 9223372036854775806 := by omega
              have b3 : (j + (1 + (cur.length - j))) * 16 ≤ 140737488355328 := by omega
              have b4 : j + (1 + (cur.length - j)) ≤ 9223372036854775807 := by omega
              have b5 : (j + 1 + (cur.length - j)) * 16 ≤ 140737488355328 := by omega
              have b6 : j + 1 + (cur.length - j) ≤ 9223372036854775807 := by omega
              cases hfc : flX (cur.take j) with
              | sh => cases hn : cur.take j <;> rw [hn] at hfc <;> cases hfc
              | own =>
                rw [hfc] at hC2
                simp only [go_sem, Nat.reduceEqDiff, Nat.reduceAdd, Nat.reduceLeDiff, Nat.reduceLT, ↓reduceIte, reduceCtorEq, Int.reduceLT, Int.reduceToNat, Int.reduceEq, Int.reduceBEq, Int.reduceBNe, Nat.reduceBEq, g1, g5, g6, g7, hx, hle, Nat.sub_zero]
                refine pcallD hC2 (by simp only [go_sem, Nat.reduceEqDiff, Nat.reduceAdd, Nat.reduceLeDiff, Nat.reduceLT, ↓reduceIte, reduceCtorEq, Int.reduceLT, Int.reduceToNat, Int.reduceEq, Int.reduceBEq, Int.reduceBNe, Nat.reduceBEq]) ?_
                simp only [go_sem, Nat.reduceEqDiff, Nat.reduceAdd, Nat.reduceLeDiff, Nat.reduceLT, ↓reduceIte, reduceCtorEq, Int.reduceLT, Int.reduceToNat, Int.reduceEq, Int.reduceBEq, Int.reduceBNe, Nat.reduceBEq, g1, g5, g6, g7, hx, hlt2, htk, hld, hle, b1, b2, b3, b4, b5, b6, hw1, List.length_append]
                exact ⟨q - 1, by omega, i + 1, cur.take j ++ x :: cur.drop j, by omega, by simp; omega, by rw [hfin]; simp, rfl, he⟩
              | full =>
                rw [hfc] at hC2
                simp only [go_sem, Nat.reduceEqDiff, Nat.reduceAdd, Nat.reduceLeDiff, Nat.reduceLT, ↓reduceIte, reduceCtorEq, Int.reduceLT, Int.reduceToNat, Int.reduceEq, Int.reduceBEq, Int.reduceBNe, Nat.reduceBEq, g1, g5, g6, g7, hx, hle, Nat.sub_zero]
                refine pcallD hC2 (by simp only [go_sem, Nat.reduceEqDiff, Nat.reduceAdd, Nat.reduceLeDiff, Nat.reduceLT, ↓reduceIte, reduceCtorEq, Int.reduceLT, Int.reduceToNat, Int.reduceEq, Int.reduceBEq, Int.reduceBNe, Nat.reduceBEq]) ?_
                simp only [go_sem, Nat.reduceEqDiff, Nat.reduceAdd, Nat.reduceLeDiff, Nat.reduceLT, ↓reduceIte, reduceCtorEq, Int.reduceLT, Int.reduceToNat, Int.reduceEq, Int.reduceBEq, Int.reduceBNe, Nat.reduceBEq, g1, g5, g6, g7, hx, hlt2, htk, hld, hle, b1, b2, b3, b4, b5, b6, hw1, List.length_append]
                exact ⟨q - 1, by omega, i + 1, cur.take j ++ x :: cur.drop j, by omega, by simp; omega, by rw [hfin]; simp, rfl, he⟩
        · have hj' : decide ((j : Int) < (cur.length : Int)) = false := decide_eq_false (by omega)
          have hjk : j = kR cur x := by rw [List.drop_eq_nil_of_le (by omega)] at hk; simpa using hk
          have hle : j ≤ cur.length := by omega
          have hno : cur[kR cur x]? ≠ some x := by rw [← hjk, List.getElem?_eq_none (by omega)]; simp
          simp only [go_sem, Nat.reduceEqDiff, Nat.reduceAdd, Nat.reduceLeDiff, Nat.reduceLT, ↓reduceIte, reduceCtorEq, Int.reduceLT, Int.reduceToNat, Int.reduceEq, Int.reduceBEq, Int.reduceBNe, Nat.reduceBEq, g1, g5, g6, g7, hj', hx]
          have hin : insR cur x = cur.take j ++ x :: cur.drop j := by unfold insR; rw [if_neg hno, ← hjk]
          rw [hin] at he
          have hC2 := fn_CopyStrings (cur.take j) (by rw [List.length_take]; omega)
          rw [List.map_take] at hC2
          have hlt2 : (List.take j (List.map AV.str cur)).length = j := by rw [List.length_take, List.length_map]; omega
          have hld : (List.drop j (List.map AV.str cur)).length = cur.length - j := by rw [List.length_drop, List.length_map]
          have htk : List.take (cur.length - j) (List.drop j (List.map AV.str cur)) = List.drop j (List.map AV.str cur) := List.take_of_length_le (by rw [hld]; omega)
          have hfin : flX (cur.take j ++ x :: cur.drop j) = .own := by cases cur.take j <;> rfl
          have b1 : (j + 1) * 16 ≤ 140737488355328 := by omega
          have b2 : j ≤ 9223372036854775806 := by omega
          have b3 : (j + (1 + (cur.length - j))) * 16 ≤ 140737488355328 := by omega
          have b4 : j + (1 + (cur.length - j)) ≤ 9223372036854775807 := by omega
          have b5 : (j + 1 + (cur.length - j)) * 16 ≤ 140737488355328 := by omega
          have b6 : j + 1 + (cur.length - j) ≤ 9223372036854775807 := by omega
          cases hfc : flX (cur.take j) with
          | sh => cases hn : cur.take j <;> rw [hn] at hfc <;> cases hfc
          | own =>
            rw [hfc] at hC2
            simp only [go_sem, Nat.reduceEqDiff, Nat.reduceAdd, Nat.reduceLeDiff, Nat.reduceLT, ↓reduceIte, reduceCtorEq, Int.reduceLT, Int.reduceToNat, Int.reduceEq, Int.reduceBEq, Int.reduceBNe, Nat.reduceBEq, g1, g5, g6, g7, hx, hle, Nat.sub_zero]
            refine pcallD hC2 (by simp only [go_sem, Nat.reduceEqDiff, Nat.reduceAdd, Nat.reduceLeDiff, Nat.reduceLT, ↓reduceIte, reduceCtorEq, Int.reduceLT, Int.reduceToNat, Int.reduceEq, Int.reduceBEq, Int.reduceBNe, Nat.reduceBEq]) ?_
            simp only [go_sem, Nat.reduceEqDiff, Nat.reduceAdd, Nat.reduceLeDiff, Nat.reduceLT, ↓reduceIte, reduceCtorEq, Int.reduceLT, Int.reduceToNat, Int.reduceEq, Int.reduceBEq, Int.reduceBNe, Nat.reduceBEq, g1, g5, g6, g7, hx, hlt2, htk, hld, hle, b1, b2, b3, b4, b5, b6, hw1, List.length_append]
            exact ⟨q - 1, by omega, i + 1, cur.take j ++ x :: cur.drop j, by omega, by simp; omega, by rw [hfin]; simp, rfl, he⟩
          | full =>
            rw [hfc] at hC2
            simp only [go_sem, Nat.reduceEqDiff, Nat.reduceAdd, Nat.reduceLeDiff, Nat.reduceLT, ↓reduceIte, reduceCtorEq, Int.reduceLT, Int.reduceToNat, Int.reduceEq, Int.reduceBEq, Int.reduceBNe, Nat.reduceBEq, g1, g5, g6, g7, hx, hle, Nat.sub_zero]
            refine pcallD hC2 (by simp only [go_sem, Nat.reduceEqDiff, Nat.reduceAdd, Nat.reduceLeDiff, Nat.reduceLT, ↓reduceIte, reduceCtorEq, Int.reduceLT, Int.reduceToNat, Int.reduceEq, Int.reduceBEq, Int.reduceBNe, Nat.reduceBEq]) ?_
            simp only [go_sem, Nat.reduceEqDiff, Nat.reduceAdd, Nat.reduceLeDiff, Nat.reduceLT, ↓reduceIte, reduceCtorEq, Int.reduceLT, Int.reduceToNat, Int.reduceEq, Int.reduceBEq, Int.reduceBNe, Nat.reduceBEq, g1, g5, g6, g7, hx, hlt2, htk, hld, hle, b1, b2, b3, b4, b5, b6, hw1, List.length_append]
            exact ⟨q - 1, by omega, i + 1, cur.take j ++ x :: cur.drop j, by omega, by simp; omega, by rw [hfin]; simp, rfl, he⟩
    · have hi' : decide ((i : Int) < (b.length : Int)) = false := decide_eq_false (by omega)
      rw [List.drop_eq_nil_of_le (by omega)] at he
      have he' : cur = namR a b := he
      subst he'
      cases hf2 : flX (namR a b) with
      | sh => cases hn : namR a b <;> rw [hn] at hf2 <;> cases hf2
      | own =>
        rw [hf2] at f5
        simp only [go_sem, Nat.reduceEqDiff, Nat.reduceAdd, Nat.reduceLeDiff, Nat.reduceLT, ↓reduceIte, reduceCtorEq, Int.reduceLT, Int.reduceToNat, Int.reduceEq, Int.reduceBEq, Int.reduceBNe, Nat.reduceBEq, f1, f5, f6, hi']
        exact labL_strs _ _
      | full =>
        rw [hf2] at f5
        simp only [go_sem, Nat.reduceEqDiff, Nat.reduceAdd, Nat.reduceLeDiff, Nat.reduceLT, ↓reduceIte, reduceCtorEq, Int.reduceLT, Int.reduceToNat, Int.reduceEq, Int.reduceBEq, Int.reduceBNe, Nat.reduceBEq, f1, f5, f6, hi']
        exact labL_strs _ _
  | full =>
    simp only [go_sem, Nat.reduceEqDiff, Nat.reduceAdd, Nat.reduceLeDiff, Nat.reduceLT, ↓reduceIte, reduceCtorEq, Int.reduceLT, Int.reduceToNat, Int.reduceEq, Int.reduceBEq, Int.reduceBNe, Nat.reduceBEq, hfl]
    refine cloop (fun q t => ∃ (i : Nat) (cur : List (List UInt8)), i + q = b.length ∧ cur.length ≤ a.length + i ∧ t.fr 1 = .sl .sh 1 (b.map AV.str) ∧ t.fr 5 = .sl (flX cur) 1 (cur.map AV.str) ∧ t.fr 6 = .int .i64 (i : Nat) ∧ namR cur (b.drop i) = namR a b ∧ t.hp = h) b.length ⟨0, a, by simp, by simp, by simp [fr_apply, argsF, strip], by simp [fr_apply, hfl], by simp [fr_apply], by simp, rfl⟩ ?_
    rintro q ⟨f, hp⟩ ⟨i, cur, hq, hcl, f1, f5, f6, he, rfl⟩
    simp only at f1 f5 f6
    by_cases hi : i < b.length
    · have hi' : decide ((i : Int) < (b.length : Int)) = true := decide_eq_true (by omega)
      have hw1 : IntKind.i64.wrap ((i : Int) + 1) = ((i + 1 : Nat) : Int) := by rw [wrap64] <;> omega
      have hx := getStr hi
      have hd : namR cur (b.drop i) = namR (insR cur b[i]) (b.drop (i + 1)) := by rw [List.drop_eq_getElem_cons hi]; rfl
      rw [hd] at he
      generalize b[i] = x at hx he
      simp only [go_sem, Nat.reduceEqDiff, Nat.reduceAdd, Nat.reduceLeDiff, Nat.reduceLT, ↓reduceIte, reduceCtorEq, Int.reduceLT, Int.reduceToNat, Int.reduceEq, Int.reduceBEq, Int.reduceBNe, Nat.reduceBEq, f1, f5, f6, hi']
      cases cur with
      | nil =>
        have f5' : f 5 = .sl .full 1 [] := f5
        refine cloop (fun q' t => t.fr 1 = .sl .sh 1 (b.map AV.str) ∧ t.fr 5 = .sl .full 1 [] ∧ t.fr 6 = .int .i64 (i : Nat) ∧ t.fr 7 = .int .i64 0 ∧ t.hp = hp) 0 ⟨by simp [fr_apply, f1], by simp [fr_apply, f5'], by simp [fr_apply, f6], by simp [fr_apply], rfl⟩ ?_
        rintro q' ⟨f', hp'⟩ ⟨g1, g5, g6, g7, rfl⟩
        simp only at g1 g5 g6 g7
        have hC0 := fn_CopyStrings [] (by simp)
        have hC1 : PFn Try.prog 54 [.sl .sh 1 []] (.sl .full 1 []) := hC0
        have hin : insR [] x = [x] := rfl
        rw [hin] at he
        have a1 : 1 * 16 ≤ 140737488355328 := by omega
        have a2 : 1 ≤ 140737488355328 := by omega
        simp only [go_sem, Nat.reduceEqDiff, Nat.reduceAdd, Nat.reduceLeDiff, Nat.reduceLT, ↓reduceIte, reduceCtorEq, Int.reduceLT, Int.reduceToNat, Int.reduceEq, Int.reduceBEq, Int.reduceBNe, Nat.reduceBEq, g1, g5, g6, g7, Int.lt_irrefl, decide_false, hx, Int.le_refl]
        refine pcallD hC1 (by simp only [go_sem, Nat.reduceEqDiff, Nat.reduceAdd, Nat.reduceLeDiff, Nat.reduceLT, ↓reduceIte, reduceCtorEq, Int.reduceLT, Int.reduceToNat, Int.reduceEq, Int.reduceBEq, Int.reduceBNe, Nat.reduceBEq]) ?_
        simp only [go_sem, Nat.reduceEqDiff, Nat.reduceAdd, Nat.reduceLeDiff, Nat.reduceLT, ↓reduceIte, reduceCtorEq, Int.reduceLT, Int.reduceToNat, Int.reduceEq, Int.reduceBEq, Int.reduceBNe, Nat.reduceBEq, g1, g5, g6, g7, hx, Int.le_refl, a1, hw1]
        exact ⟨q - 1, by omega, i + 1, [x], by omega, by simp; omega, rfl, rfl, he⟩
      | cons c0 cs =>
        have f5' : f 5 = .sl .own 1 ((c0 :: cs).map AV.str) := f5
        have hf : flX (c0 :: cs) = .own := rfl
        generalize c0 :: cs = cur at *
        refine cloop (fun q' t => ∃ j : Nat, j + q' = cur.length ∧ t.fr 1 = .sl .sh 1 (b.map AV.str) ∧ t.fr 5 = .sl .own 1 (cur.map AV.str) ∧ t.fr 6 = .int .i64 (i : Nat) ∧ t.fr 7 = .int .i64 (j : Nat) ∧ j + ((cur.drop j).takeWhile fun y => Op.bytesLess y x).length = kR cur x ∧ t.hp = hp) cur.length ⟨0, by simp, by simp [fr_apply, f1], by simp [fr_apply, f5'], by simp [fr_apply, f6], by simp [fr_apply], by simp [kR], rfl⟩ ?_
        rintro q' ⟨f', hp'⟩ ⟨j, hj, g1, g5, g6, g7, hk, rfl⟩
        simp only at g1 g5 g6 g7
        by_cases hjl : j < cur.length
        · have hj' : decide ((j : Int) < (cur.length : Int)) = true := decide_eq_true (by omega)
          have hy := getStr hjl
          rw [kR_step hjl] at hk
          have hwj : IntKind.i64.wrap ((j : Int) + 1) = ((j + 1 : Nat) : Int) := by rw [wrap64] <;> omega
          cases hlt : Op.bytesLess cur[j] x with
          | true =>
            rw [if_pos hlt] at hk
            simp only [go_sem, Nat.reduceEqDiff, Nat.reduceAdd, Nat.reduceLeDiff, Nat.reduceLT, ↓reduceIte, reduceCtorEq, Int.reduceLT, Int.reduceToNat, Int.reduceEq, Int.reduceBEq, Int.reduceBNe, Nat.reduceBEq, g1, g5, g6, g7, hj', hx, hy, hlt, hwj]
            exact ⟨q' - 1, by omega, j + 1, by omega, rfl, by omega⟩
          | false =>
            rw [if_neg (by rw [hlt]; simp)] at hk
            cases hex : (cur[j] == x) with
            | true =>
              simp only [go_sem, Nat.reduceEqDiff, Nat.reduceAdd, Nat.reduceLeDiff, Nat.reduceLT, ↓reduceIte, reduceCtorEq, Int.reduceLT, Int.reduceToNat, Int.reduceEq, Int.reduceBEq, Int.reduceBNe, Nat.reduceBEq, g1, g5, g6, g7, hj', hx, hy, hlt, hex, hw1]
              have hin : insR cur x = cur := by
                unfold insR
                rw [if_pos]
                rw [← hk, Nat.add_zero, List.getElem?_eq_getElem hjl]
                simp at hex; rw [hex]
              rw [hin] at he
              exact ⟨q - 1, by omega, i + 1, cur, by omega, by omega, by rw [hf], rfl, he⟩
            | false =>
              simp only [go_sem, Nat.reduceEqDiff, Nat.reduceAdd, Nat.reduceLeDiff, Nat.reduceLT, ↓reduceIte, reduceCtorEq, Int.reduceLT, Int.reduceToNat, Int.reduceEq, Int.reduceBEq, Int.reduceBNe, Nat.reduceBEq, g1, g5, g6, g7, hj', hx, hy, hlt, hex]
              have hno : cur[kR cur x]? ≠ some x := by
                rw [← hk, Nat.add_zero, List.getElem?_eq_getElem hjl]
                intro e; cases e; simp at hex
              have hjk : j = kR cur x := by omega
              have hle : j ≤ cur.length := by omega
              have hin : insR cur x = cur.take j ++ x :: cur.drop j := by unfold insR; rw [if_neg hno, ← hjk]
              rw [hin] at he
              have hC2 := fn_CopyStrings (cur.take j) (by rw [List.length_take]; omega)
              rw [List.map_take] at hC2
              have hlt2 : (List.take j (List.map AV.str cur)).length = j := by rw [List.length_take, List.length_map]; omega
              have hld : (List.drop j (List.map AV.str cur)).length = cur.length - j := by rw [List.length_drop, List.length_map]
              have htk : List.take (cur.length - j) (List.drop j (List.map AV.str cur)) = List.drop j (List.map AV.str cur) := List.take_of_length_le (by rw [hld]; omega)
              have hfin : flX (cur.take j ++ x :: cur.drop j) = .own := by cases cur.take j <;> rfl
              have b1 : (j + 1) * 16 ≤ 140737488355328 := by omega
              have b2 : j ≤ 9223372036854775806 := by omega
              have b3 : (j + (1 + (cur.length - j))) * 16 ≤ 140737488355328 := by omega
              have b4 : j + (1 + (cur.length - j)) ≤ 9223372036854775807 := by omega
              have b5 : (j + 1 + (cur.length - j)) * 16 ≤ 140737488355328 := by omega
              have b6 : j + 1 + (cur.length - j) ≤ 9223372036854775807 := by omega
              cases hfc : flX (cur.take j) with
              | sh => cases hn : cur.take j <;> rw [hn] at hfc <;> cases hfc
              | own =>
                rw [hfc] at hC2
                simp only [go_sem, Nat.reduceEqDiff, Nat.reduceAdd, Nat.reduceLeDiff, Nat.reduceLT, ↓reduceIte, reduceCtorEq, Int.reduceLT, Int.reduceToNat, Int.reduceEq, Int.reduceBEq, Int.reduceBNe, Nat.reduceBEq, g1, g5, g6, g7, hx, hle, Nat.sub_zero]
                refine pcallD hC2 (by simp only [go_sem, Nat.reduceEqDiff, Nat.reduceAdd, Nat.reduceLeDiff, Nat.reduceLT, ↓reduceIte, reduceCtorEq, Int.reduceLT, Int.reduceToNat, Int.reduceEq, Int.reduceBEq, Int.reduceBNe, Nat.reduceBEq]) ?_
                simp only [go_sem, Nat.reduceEqDiff, Nat.reduceAdd, Nat.reduceLeDiff, Nat.reduceLT, ↓reduceIte, reduceCtorEq, Int.reduceLT, Int.reduceToNat, Int.reduceEq, Int.reduceBEq, Int.reduceBNe, Nat.reduceBEq, g1, g5, g6, g7, hx, hlt2, htk, hld, hle, b1, b2, b3, b4, b5, b6, hw1, List.length_append]
                exact ⟨q - 1, by omega, i + 1, cur.take j ++ x :: cur.drop j, by omega, by simp; omega, by rw [hfin]; simp, rfl, he⟩
              | full =>
                rw [hfc] at hC2
                simp only [go_sem, Nat.reduceEqDiff, Nat.reduceAdd, Nat.reduceLeDiff, Nat.reduceLT, ↓reduceIte, reduceCtorEq, Int.reduceLT, Int.reduceToNat, Int.reduceEq, Int.reduceBEq, Int.reduceBNe, Nat.reduceBEq, g1, g5, g6, g7, hx, hle, Nat.sub_zero]
                refine pcallD hC2 (by simp only [go_sem, Nat.reduceEqDiff, Nat.reduceAdd, Nat.reduceLeDiff, Nat.reduceLT, ↓reduceIte, reduceCtorEq, Int.reduceLT, Int.reduceToNat, Int.reduceEq, Int.reduceBEq, Int.reduceBNe, Nat.reduceBEq]) ?_
                simp only [go_sem, Nat.reduceEqDiff, Nat.reduceAdd, Nat.reduceLeDiff, Nat.reduceLT, ↓reduceIte, reduceCtorEq, Int.reduceLT, Int.reduceToNat, Int.reduceEq, Int.reduceBEq, Int.reduceBNe, Nat.reduceBEq, g1, g5, g6, g7, hx, hlt2, htk, hld, hle, b1, b2, b3, b4, b5, b6, hw1, List.length_append]
                exact ⟨q - 1, by omega, i + 1, cur.take j ++ x :: cur.drop j, by omega, by simp; omega, by rw [hfin]; simp, rfl, he⟩
        · have hj' : decide ((j : Int) < (cur.length : Int)) = false := decide_eq_false (by omega)
          have hjk : j = kR cur x := by rw [List.drop_eq_nil_of_le (by omega)] at hk; simpa using hk
          have hle : j ≤ cur.length := by omega
          have hno : cur[kR cur x]? ≠ some x := by rw [← hjk, List.getElem?_eq_none (by omega)]; simp
          simp only [go_sem, Nat.reduceEqDiff, Nat.reduceAdd, Nat.reduceLeDiff, Nat.reduceLT, ↓reduceIte, reduceCtorEq, Int.reduceLT, Int.reduceToNat, Int.reduceEq, Int.reduceBEq, Int.reduceBNe, Nat.reduceBEq, g1, g5, g6, g7, hj', hx]
          have hin : insR cur x = cur.take j ++ x :: cur.drop j := by unfold insR; rw [if_neg hno, ← hjk]
          rw [hin] at he
          have hC2 := fn_CopyStrings (cur.take j) (by rw [List.length_take]; omega)
          rw [List.map_take] at hC2
          have hlt2 : (List.take j (List.map AV.str cur)).length = j := by rw [List.length_take, List.length_map]; omega
          have hld : (List.drop j (List.map AV.str cur)).length = cur.length - j := by rw [List.length_drop, List.length_map]
          have htk : List.take (cur.length - j) (List.drop j (List.map AV.str cur)) = List.drop j (List.map AV.str cur) := List.take_of_length_le (by rw [hld]; omega)
          have hfin : flX (cur.take j ++ x :: cur.drop j) = .own := by cases cur.take j <;> rfl
          have b1 : (j + 1) * 16 ≤ 140737488355328 := by omega
          have b2 : j ≤ 9223372036854775806 := by omega
          have b3 : (j + (1 + (cur.length - j))) * 16 ≤ 140737488355328 := by omega
          have b4 : j + (1 + (cur.length - j)) ≤ 9223372036854775807 := by omega
          have b5 : (j + 1 + (cur.length - j)) * 16 ≤ 140737488355328 := by omega
          have b6 : j + 1 + (cur.length - j) ≤ 9223372036854775807 := by omega
          cases hfc : flX (cur.take j) with
          | sh => cases hn : cur.take j <;> rw [hn] at hfc <;> cases hfc
          | own =>
            rw [hfc] at hC2
            simp only [go_sem, Nat.reduceEqDiff, Nat.reduceAdd, Nat.reduceLeDiff, Nat.reduceLT, ↓reduceIte, reduceCtorEq, Int.reduceLT, Int.reduceToNat, Int.reduceEq, Int.reduceBEq, Int.reduceBNe, Nat.reduceBEq, g1, g5, g6, g7, hx, hle, Nat.sub_zero]
            refine pcallD hC2 (by simp only [go_sem, Nat.reduceEqDiff, Nat.reduceAdd, Nat.reduceLeDiff, Nat.reduceLT, ↓reduceIte, reduceCtorEq, Int.reduceLT, Int.reduceToNat, Int.reduceEq, Int.reduceBEq, Int.reduceBNe, Nat.reduceBEq]) ?_
            simp only [go_sem, Nat.reduceEqDiff, Nat.reduceAdd, Nat.reduceLeDiff, Nat.reduceLT, ↓reduceIte, reduceCtorEq, Int.reduceLT, Int.reduceToNat, Int.reduceEq, Int.reduceBEq, Int.reduceBNe, Nat.reduceBEq, g1, g5, g6, g7, hx, hlt2, htk, hld, hle, b1, b2, b3, b4, b5, b6, hw1, List.length_append]
            exact ⟨q - 1, by omega, i + 1, cur.take j ++ x :: cur.drop j, by omega, by simp; omega, by rw [hfin]; simp, rfl, he⟩
          | full =>
            rw [hfc] at hC2
            simp only [go_sem, Nat.reduceEqDiff, Nat.reduceAdd, Nat.reduceLeDiff, Nat.reduceLT, ↓reduceIte, reduceCtorEq, Int.reduceLT, Int.reduceToNat, Int.reduceEq, Int.reduceBEq, Int.reduceBNe, Nat.reduceBEq, g1, g5, g6, g7, hx, hle, Nat.sub_zero]
            refine pcallD hC2 (by simp only [go_sem, Nat.reduceEqDiff, Nat.reduceAdd, Nat.reduceLeDiff, Nat.reduceLT, ↓reduceIte, reduceCtorEq, Int.reduceLT, Int.reduceToNat, Int.reduceEq, Int.reduceBEq, Int.reduceBNe, Nat.reduceBEq]) ?_
            simp only [go_sem, Nat.reduceEqDiff, Nat.reduceAdd, Nat.reduceLeDiff, Nat.reduceLT, ↓reduceIte, reduceCtorEq, Int.reduceLT, Int.reduceToNat, Int.reduceEq, Int.reduceBEq, Int.reduceBNe, Nat.reduceBEq, g1, g5, g6, g7, hx, hlt2, htk, hld, hle, b1, b2, b3, b4, b5, b6, hw1, List.length_append]
            exact ⟨q - 1, by omega, i + 1, cur.take j ++ x :: cur.drop j, by omega, by simp; omega, by rw [hfin]; simp, rfl, he⟩
    · have hi' : decide ((i : Int) < (b.length : Int)) = false := decide_eq_false (by omega)
      rw [List.drop_eq_nil_of_le (by omega)] at he
      have he' : cur = namR a b := he
      subst he'
      cases hf2 : flX (namR a b) with
      | sh => cases hn : namR a b <;> rw [hn] at hf2 <;> cases hf2
      | own =>
        rw [hf2] at f5
        simp only [go_sem, Nat.reduceEqDiff, Nat.reduceAdd, Nat.reduceLeDiff, Nat.reduceLT, ↓reduceIte, reduceCtorEq, Int.reduceLT, Int.reduceToNat, Int.reduceEq, Int.reduceBEq, Int.reduceBNe, Nat.reduceBEq, f1, f5, f6, hi']
        exact labL_strs _ _
      | full =>
        rw [hf2] at f5
        simp only [go_sem, Nat.reduceEqDiff, Nat.reduceAdd, Nat.reduceLeDiff, Nat.reduceLT, ↓reduceIte, reduceCtorEq, Int.reduceLT, Int.reduceToNat, Int.reduceEq, Int.reduceBEq, Int.reduceBNe, Nat.reduceBEq, f1, f5, f6, hi']
        exact labL_strs _ _
end Go.Proofs.Ythaoooohomfkcaa.Ab

namespace Go.Proofs.Ythaoooohomfkcaa.Ab
set_option linter.unusedVariables false
set_option linter.unusedSimpArgs false
set_option maxRecDepth 10000
attribute [local go_sem] Nat.zero_le Bool.not_true Bool.not_false Bool.false_eq_true if_false if_true forall_const true_and and_true List.map Option.map Bool.and_self Bool.and_true Bool.true_and Bool.false_and Bool.and_false List.getElem?_cons_zero List.getElem?_nil List.getElem?_cons_succ Int.natCast_nonneg Int.toNat_natCast List.length_map List.length_cons List.length_nil Nat.zero_add Nat.le_refl List.drop_zero List.drop_succ_cons List.take_succ_cons List.take_zero List.take_nil ne_eq not_true_eq_false not_false_eq_true upd_same Nat.add_assoc Nat.left_eq_add Nat.add_eq_left Nat.add_left_cancel_iff Nat.succ_ne_self Nat.one_ne_zero Nat.add_zero Nat.le_add_right ite_self List.set_cons_zero List.set_cons_succ List.all_cons List.all_nil bne_self_eq_false List.isEmpty_cons Int.cast_ofNat_Int Nat.mul_one List.nil_append or_self or_true true_or List.cons_append List.append_nil Option.none_beq_some Option.some_beq_some beq_self_eq_true
theorem c28 : compF Try.prog ow Try.f28 = (some (27, ([(.t 2)], (.seq (.ops [(none, (.box 1 (.t 0))), (none, (.set 2 (.sl .full 1 [])))]) (.seq (.seq (.ops [(none, (.fa (some 5) (.t 1) 0)), (none, (.ld (some 6) (.t 5) (.one none))), (none, (.bin (some 7) .eql (.t 6) (.k (.int .i64 1)) false false))]) (.cond (.t 7) (.seq (.ops [(none, (.fa (some 8) (.t 1) 1)), (none, (.ld (some 9) (.t 8) (.one none))), (none, (.bs 10 1 [(.t 9)])), (none, (.mv 2 10))]) .ret) .skip)) (.seq (.ops [(none, (.set 3 (.sl .full 1 [])))]) (.seq (.seq (.ops [(none, (.set 4 (.int .i64 0)))]) (.block 0 (.loop (.seq (.seq (.ops [(none, (.cp 11 4)), (none, (.fa (some 12) (.t 1) 3)), (none, (.ld (some 13) (.t 12) (.one (some 4)))), (none, (.len (some 14) (.t 13) false true)), (none, (.bin (some 15) .lss (.t 11) (.t 14) false false))]) (.cond (.t 15) .skip (.exit 0))) (.seq (.block 1 (.ops [(none, (.cp 18 3)), (none, (.fa (some 19) (.t 1) 3)), (none, (.ld (some 20) (.t 19) (.one (some 4)))), (none, (.cp 21 4)), (none, (.ia (some 22) (.t 20) (.t 21) (some 4) none)), (none, (.ld (some 23) (.t 22) (.agg 4))), (none, (.call (some 24) (.k (.func 28 [] [])) [(.t 23)] none)), (none, (.call (some 25) (.k (.func 72 [] [])) [(.t 18), (.t 24)] none)), (none, (.mv 3 25))])) (.ops [(none, (.cp 16 4)), (none, (.bin (some 17) .add (.t 16) (.k (.int .i64 1)) false false)), (none, (.mv 4 17))])))))) (.seq (.ops [(none, (.mv 26 3)), (none, (.mv 2 26))]) .ret)))))))) := by kernel_rfl
theorem c26 : compF Try.prog ow Try.f26 = (some (7, ([(.t 2)], (.seq (.ops [(none, (.box 1 (.t 0))), (none, (.set 2 (.bool false)))]) (.seq (.ops [(none, (.ld (some 3) (.t 1) (.agg 4))), (none, (.call (some 4) (.k (.func 28 [] [])) [(.t 3)] none)), (none, (.len (some 5) (.t 4) false true)), (none, (.bin (some 6) .eql (.t 5) (.k (.int .i64 0)) false false)), (none, (.mv 2 6))]) .ret))))) := by kernel_rfl
mutual
def varsR : T → List (List UInt8) | .mk k n v l => if k = 1 then [n] else varsRs l []
def varsRs : List T → List (List UInt8) → List (List UInt8) | [], acc => acc | t :: l, acc => varsRs l (namR acc (varsR t))
end
theorem varsRs_drop {l : List T} {i : Nat} (hi : i < l.length) (acc : List (List UInt8)) : varsRs (l.drop i) acc = varsRs (l.drop (i + 1)) (namR acc (varsR l[i])) := by rw [List.drop_eq_getElem_cons hi, varsRs]
theorem varsR_len : ∀ t : T, (varsR t).length ≤ nodT t := by
  refine T.ind ?_
  intro k n v l ih
  have hs : ∀ m : List T, (∀ x ∈ m, (varsR x).length ≤ nodT x) → ∀ acc, (varsRs m acc).length ≤ acc.length + nodTs m := by
    intro m
    induction m with
    | nil => intro _ acc; rw [varsRs, nodTs]; omega
    | cons x m ihm =>
      intro ih acc
      have h1 := ih x (by simp)
      have h2 := ihm (fun y hy => ih y (by simp [hy])) (namR acc (varsR x))
      have h3 := namR_len (varsR x) acc
      rw [varsRs, nodTs]; omega
  rw [varsR, nodT]
  split
  · simp
  · have := hs l ih []; simp at this; omega
theorem fn_rNamesF (a b : List (List UInt8)) (hl : (a.length + b.length) * 16 ≤ 140737488355328) (fl fl' : Fl) : PFn Try.prog 72 [.sl fl 1 (a.map AV.str), .sl fl' 1 (b.map AV.str)] (.sl (flX (namR a b)) 1 ((namR a b).map AV.str)) := by
  have hf : ∀ l : List (List UInt8), fkL (l.map AV.str) = l.map AV.str := fun l => by
    rw [fkL_map, List.map_map]; exact List.map_congr_left fun _ _ => rfl
  refine pfn_fk ?_
  simp only [List.map_cons, List.map_nil, fk, hf]
  exact fn_rNames a b hl
theorem fn_rVars : ∀ t : T, t.ok → nodT t ≤ 1000000 → PFn Try.prog 28 [t.av] (.sl (flX (varsR t)) 1 ((varsR t).map AV.str)) := by
  refine T.ind ?_
  intro k n v l ih hok hn h
  rw [ok_mk] at hok
  rw [av_mk, varsR]
  refine fnC mixed Try.func28 c28 (by simp) ?_
  by_cases k1 : k = 1
  · have hk : (k == 1) = true := by rw [k1]; rfl
    rw [if_pos k1]
    simp only [go_sem, Nat.reduceEqDiff, Nat.reduceAdd, Nat.reduceLeDiff, Nat.reduceLT, ↓reduceIte, reduceCtorEq, Int.reduceLT, Int.reduceToNat, Int.reduceEq, Int.reduceBEq, Int.reduceBNe, Nat.reduceBEq, hk]
    exact .inl rfl
  · have hk : (k == 1) = false := by simpa using k1
    rw [if_neg k1]
    simp only [go_sem, Nat.reduceEqDiff, Nat.reduceAdd, Nat.reduceLeDiff, Nat.reduceLT, ↓reduceIte, reduceCtorEq, Int.reduceLT, Int.reduceToNat, Int.reduceEq, Int.reduceBEq, Int.reduceBNe, Nat.reduceBEq, hk]
    have hnt : nodTs l ≤ 1000000 := by rw [nodT] at hn; omega
    refine cloop (fun q t => ∃ (i : Nat) (acc : List (List UInt8)), i + q = l.length ∧ acc.length + nodTs (l.drop i) ≤ nodTs l ∧ t.fr 1 = .ptr h.n 0 ∧ t.fr 3 = .sl (flX acc) 1 (acc.map AV.str) ∧ t.fr 4 = .int .i64 (i : Nat) ∧ varsRs (l.drop i) acc = varsRs l [] ∧
      t.hp = ⟨h.n + 1, updB h.bk h.n (.cells [.int .i64 k, .str n, .int .i64 v, .sl .sh 4 (l.map T.av)])⟩) l.length ⟨0, [], by simp, by simp, by simp [fr_apply, argsF], by simp [fr_apply, flX], by simp [fr_apply], by simp, by simp⟩ ?_
    rintro q ⟨f, hp⟩ ⟨i, acc, hq, hac, f1, f3, f4, he, rfl⟩
    simp only at f1 f3 f4
    by_cases hi : i < l.length
    · have hi' : decide ((i : Int) < (l.length : Int)) = true := decide_eq_true (by omega)
      have hw1 : IntKind.i64.wrap ((i : Int) + 1) = ((i + 1 : Nat) : Int) := by rw [wrap64] <;> omega
      rw [varsRs_drop hi] at he
      rw [nodTs_drop hi] at hac
      have hvl := varsR_len l[i]
      have hnl := namR_len (varsR l[i]) acc
      have hvr := ih _ (List.getElem_mem hi) (hok.2.2 _ (List.getElem_mem hi)) (by omega)
      have hN := fun fl fl' => fn_rNamesF acc (varsR l[i]) (by omega) fl fl'
      cases hfa : flX acc with
      | sh => cases acc <;> cases hfa
      | own =>
        rw [hfa] at f3
        cases hvf : flX (varsR l[i]) with
        | sh => cases hn : varsR l[i] <;> rw [hn] at hvf <;> cases hvf
        | own =>
          rw [hvf] at hvr
          simp only [go_sem, Nat.reduceEqDiff, Nat.reduceAdd, Nat.reduceLeDiff, Nat.reduceLT, ↓reduceIte, reduceCtorEq, Int.reduceLT, Int.reduceToNat, Int.reduceEq, Int.reduceBEq, Int.reduceBNe, Nat.reduceBEq, f1, f3, f4, hi', getAv hi]
          refine pcall hvr (by simp only [go_sem, Nat.reduceEqDiff, Nat.reduceAdd, Nat.reduceLeDiff, Nat.reduceLT, ↓reduceIte, reduceCtorEq, Int.reduceLT, Int.reduceToNat, Int.reduceEq, Int.reduceBEq, Int.reduceBNe, Nat.reduceBEq]) ?_
          simp only [go_sem, Nat.reduceEqDiff, Nat.reduceAdd, Nat.reduceLeDiff, Nat.reduceLT, ↓reduceIte, reduceCtorEq, Int.reduceLT, Int.reduceToNat, Int.reduceEq, Int.reduceBEq, Int.reduceBNe, Nat.reduceBEq, f1, f3, f4]
          refine pcall (hN .sh .sh) (by simp only [go_sem, Nat.reduceEqDiff, Nat.reduceAdd, Nat.reduceLeDiff, Nat.reduceLT, ↓reduceIte, reduceCtorEq, Int.reduceLT, Int.reduceToNat, Int.reduceEq, Int.reduceBEq, Int.reduceBNe, Nat.reduceBEq]) ?_
          have hac2 : (namR acc (varsR l[i])).length + nodTs (l.drop (i + 1)) ≤ nodTs l := by omega
          cases hnf : flX (namR acc (varsR l[i])) with
          | sh => cases hn : namR acc (varsR l[i]) <;> rw [hn] at hnf <;> cases hnf
          | own =>
            simp only [go_sem, Nat.reduceEqDiff, Nat.reduceAdd, Nat.reduceLeDiff, Nat.reduceLT, ↓reduceIte, reduceCtorEq, Int.reduceLT, Int.reduceToNat, Int.reduceEq, Int.reduceBEq, Int.reduceBNe, Nat.reduceBEq, f1, f3, f4, hw1, hnf]
            exact ⟨q - 1, by omega, i + 1, namR acc (varsR l[i]), by omega, hac2, by rw [hnf], rfl, he⟩
          | full =>
            simp only [go_sem, Nat.reduceEqDiff, Nat.reduceAdd, Nat.reduceLeDiff, Nat.reduceLT, ↓reduceIte, reduceCtorEq, Int.reduceLT, Int.reduceToNat, Int.reduceEq, Int.reduceBEq, Int.reduceBNe, Nat.reduceBEq, f1, f3, f4, hw1, hnf]
            exact ⟨q - 1, by omega, i + 1, namR acc (varsR l[i]), by omega, hac2, by rw [hnf], rfl, he⟩
        | full =>
          rw [hvf] at hvr
          simp only [go_sem, Nat.reduceEqDiff, Nat.reduceAdd, Nat.reduceLeDiff, Nat.reduceLT, ↓reduceIte, reduceCtorEq, Int.reduceLT, Int.reduceToNat, Int.reduceEq, Int.reduceBEq, Int.reduceBNe, Nat.reduceBEq, f1, f3, f4, hi', getAv hi]
          refine pcall hvr (by simp only [go_sem, Nat.reduceEqDiff, Nat.reduceAdd, Nat.reduceLeDiff, Nat.reduceLT, ↓reduceIte, reduceCtorEq, Int.reduceLT, Int.reduceToNat, Int.reduceEq, Int.reduceBEq, Int.reduceBNe, Nat.reduceBEq]) ?_
          simp only [go_sem, Nat.reduceEqDiff, Nat.reduceAdd, Nat.reduceLeDiff, Nat.reduceLT, ↓reduceIte, reduceCtorEq, Int.reduceLT, Int.reduceToNat, Int.reduceEq, Int.reduceBEq, Int.reduceBNe, Nat.reduceBEq, f1, f3, f4]
          refine pcall (hN .sh .full) (by simp only [go_sem, Nat.reduceEqDiff, Nat.reduceAdd, Nat.reduceLeDiff, Nat.reduceLT, ↓reduceIte, reduceCtorEq, Int.reduceLT, Int.reduceToNat, Int.reduceEq, Int.reduceBEq, Int.reduceBNe, Nat.reduceBEq]) ?_
          have hac2 : (namR acc (varsR l[i])).length + nodTs (l.drop (i + 1)) ≤ nodTs l := by omega
          cases hnf : flX (namR acc (varsR l[i])) with
          | sh => cases hn : namR acc (varsR l[i]) <;> rw [hn] at hnf <;> cases hnf
          | own =>
            simp only [go_sem, Nat.reduceEqDiff, Nat.reduceAdd, Nat.reduceLeDiff, Nat.reduceLT, ↓reduceIte, reduceCtorEq, Int.reduceLT, Int.reduceToNat, Int.reduceEq, Int.reduceBEq, Int.reduceBNe, Nat.reduceBEq, f1, f3, f4, hw1, hnf]
            exact ⟨q - 1, by omega, i + 1, namR acc (varsR l[i]), by omega, hac2, by rw [hnf], rfl, he⟩
          | full =>
            simp only [go_sem, Nat.reduceEqDiff, Nat.reduceAdd, Nat.reduceLeDiff, Nat.reduceLT, ↓reduceIte, reduceCtorEq, Int.reduceLT, Int.reduceToNat, Int.reduceEq, Int.reduceBEq, Int.reduceBNe, Nat.reduceBEq, f1, f3, f4, hw1, hnf]
            exact ⟨q - 1, by omega, i + 1, namR acc (varsR l[i]), by omega, hac2, by rw [hnf], rfl, he⟩
      | full =>
        rw [hfa] at f3
        cases hvf : flX (varsR l[i]) with
        | sh => cases hn : varsR l[i] <;> rw [hn] at hvf <;> cases hvf
        | own =>
          rw [hvf] at hvr
          simp only [go_sem, Nat.reduceEqDiff, Nat.reduceAdd, Nat.reduceLeDiff, Nat.reduceLT, ↓reduceIte, reduceCtorEq, Int.reduceLT, Int.reduceToNat, Int.reduceEq, Int.reduceBEq, Int.reduceBNe, Nat.reduceBEq, f1, f3, f4, hi', getAv hi]
          refine pcall hvr (by simp only [go_sem, Nat.reduceEqDiff, Nat.reduceAdd, Nat.reduceLeDiff, Nat.reduceLT, ↓reduceIte, reduceCtorEq, Int.reduceLT, Int.reduceToNat, Int.reduceEq, Int.reduceBEq, Int.reduceBNe, Nat.reduceBEq]) ?_
          simp only [go_sem, Nat.reduceEqDiff, Nat.reduceAdd, Nat.reduceLeDiff, Nat.reduceLT, ↓reduceIte, reduceCtorEq, Int.reduceLT, Int.reduceToNat, Int.reduceEq, Int.reduceBEq, Int.reduceBNe, Nat.reduceBEq, f1, f3, f4]
          refine pcall (hN .full .sh) (by simp only [go_sem, Nat.reduceEqDiff, Nat.reduceAdd, Nat.reduceLeDiff, Nat.reduceLT, ↓reduceIte, reduceCtorEq, Int.reduceLT, Int.reduceToNat, Int.reduceEq, Int.reduceBEq, Int.reduceBNe, Nat.reduceBEq]) ?_
          have hac2 : (namR acc (varsR l[i])).length + nodTs (l.drop (i + 1)) ≤ nodTs l := by omega
          cases hnf : flX (namR acc (varsR l[i])) with
          | sh => cases hn : namR acc (varsR l[i]) <;> rw [hn] at hnf <;> cases hnf
          | own =>
            simp only [go_sem, Nat.reduceEqDiff, Nat.reduceAdd, Nat.reduceLeDiff, Nat.reduceLT, ↓reduceIte, reduceCtorEq, Int.reduceLT, Int.reduceToNat, Int.reduceEq, Int.reduceBEq, Int.reduceBNe, Nat.reduceBEq, f1, f3, f4, hw1, hnf]
            exact ⟨q - 1, by omega, i + 1, namR acc (varsR l[i]), by omega, hac2, by rw [hnf], rfl, he⟩
          | full =>
            simp only [go_sem, Nat.reduceEqDiff, Nat.reduceAdd, Nat.reduceLeDiff, Nat.reduceLT, ↓reduceIte, reduceCtorEq, Int.reduceLT, Int.reduceToNat, Int.reduceEq, Int.reduceBEq, Int.reduceBNe, Nat.reduceBEq, f1, f3, f4, hw1, hnf]
            exact ⟨q - 1, by omega, i + 1, namR acc (varsR l[i]), by omega, hac2, by rw [hnf], rfl, he⟩
        | full =>
          rw [hvf] at hvr
          simp only [go_sem, Nat.reduceEqDiff, Nat.reduceAdd, Nat.reduceLeDiff, Nat.reduceLT, ↓reduceIte, reduceCtorEq, Int.reduceLT, Int.reduceToNat, Int.reduceEq, Int.reduceBEq, Int.reduceBNe, Nat.reduceBEq, f1, f3, f4, hi', getAv hi]
          refine pcall hvr (by simp only [go_sem, Nat.reduceEqDiff, Nat.reduceAdd, Nat.reduceLeDiff, Nat.reduceLT, ↓reduceIte, reduceCtorEq, Int.reduceLT, Int.reduceToNat, Int.reduceEq, Int.reduceBEq, Int.reduceBNe, Nat.reduceBEq]) ?_
          simp only [go_sem, Nat.reduceEqDiff, Nat.reduceAdd, Nat.reduceLeDiff, Nat.reduceLT, ↓reduceIte, reduceCtorEq, Int.reduceLT, Int.reduceToNat, Int.reduceEq, Int.reduceBEq, Int.reduceBNe, Nat.reduceBEq, f1, f3, f4]
          refine pcall (hN .full .full) (by simp only [go_sem, Nat.reduceEqDiff, Nat.reduceAdd, Nat.reduceLeDiff, Nat.reduceLT, ↓reduceIte, reduceCtorEq, Int.reduceLT, Int.reduceToNat, Int.reduceEq, Int.reduceBEq, Int.reduceBNe, Nat.reduceBEq]) ?_
          have hac2 : (namR acc (varsR l[i])).length + nodTs (l.drop (i + 1)) ≤ nodTs l := by omega
          cases hnf : flX (namR acc (varsR l[i])) with
          | sh => cases hn : namR acc (varsR l[i]) <;> rw [hn] at hnf <;> cases hnf
          | own =>
            simp only [go_sem, Nat.reduceEqDiff, Nat.reduceAdd, Nat.reduceLeDiff, Nat.reduceLT, ↓reduceIte, reduceCtorEq, Int.reduceLT, Int.reduceToNat, Int.reduceEq, Int.reduceBEq, Int.reduceBNe, Nat.reduceBEq, f1, f3, f4, hw1, hnf]
            exact ⟨q - 1, by omega, i + 1, namR acc (varsR l[i]), by omega, hac2, by rw [hnf], rfl, he⟩
          | full =>
            simp only [go_sem, Nat.reduceEqDiff, Nat.reduceAdd, Nat.reduceLeDiff, Nat.reduceLT, ↓reduceIte, reduceCtorEq, Int.reduceLT, Int.reduceToNat, Int.reduceEq, Int.reduceBEq, Int.reduceBNe, Nat.reduceBEq, f1, f3, f4, hw1, hnf]
            exact ⟨q - 1, by omega, i + 1, namR acc (varsR l[i]), by omega, hac2, by rw [hnf], rfl, he⟩
    · have hi' : decide ((i : Int) < (l.length : Int)) = false := decide_eq_false (by omega)
      rw [List.drop_eq_nil_of_le (by omega), varsRs] at he
      subst he
      cases hfa : flX (varsRs l []) with
      | sh => cases hn : varsRs l [] <;> rw [hn] at hfa <;> cases hfa
      | own =>
        rw [hfa] at f3
        simp only [go_sem, Nat.reduceEqDiff, Nat.reduceAdd, Nat.reduceLeDiff, Nat.reduceLT, ↓reduceIte, reduceCtorEq, Int.reduceLT, Int.reduceToNat, Int.reduceEq, Int.reduceBEq, Int.reduceBNe, Nat.reduceBEq, f1, f3, f4, hi']
        exact labL_strs _ _
      | full =>
        rw [hfa] at f3
        simp only [go_sem, Nat.reduceEqDiff, Nat.reduceAdd, Nat.reduceLeDiff, Nat.reduceLT, ↓reduceIte, reduceCtorEq, Int.reduceLT, Int.reduceToNat, Int.reduceEq, Int.reduceBEq, Int.reduceBNe, Nat.reduceBEq, f1, f3, f4, hi']
        exact labL_strs _ _
end Go.Proofs.Ythaoooohomfkcaa.Ab
