/- Words of a text: the document's inner loops. No condition. -/
import Derived.Test.YtnibelnjflhkgaaDoorLx5
namespace Go.Proofs.YtnibelnjflhkgaaDoor.Ab
set_option linter.unusedVariables false
set_option linter.unusedSimpArgs false
set_option maxRecDepth 10000
attribute [local go_sem] decide_true decide_false Nat.zero_le Bool.not_true Bool.not_false Bool.false_eq_true if_false if_true forall_const true_and and_true List.map Option.map Bool.and_self Bool.and_true Bool.true_and Bool.false_and Bool.and_false List.getElem?_cons_zero List.getElem?_nil List.getElem?_cons_succ Int.natCast_nonneg Int.toNat_natCast List.length_map List.length_cons List.length_nil Nat.zero_add Nat.le_refl List.drop_zero List.drop_succ_cons List.take_succ_cons List.take_zero List.take_nil ne_eq not_true_eq_false not_false_eq_true upd_same Nat.add_assoc Nat.left_eq_add Nat.add_eq_left Nat.add_left_cancel_iff Nat.succ_ne_self Nat.one_ne_zero Nat.add_zero Nat.le_add_right ite_self List.set_cons_zero List.set_cons_succ List.all_cons List.all_nil bne_self_eq_false List.isEmpty_cons Int.cast_ofNat_Int Nat.mul_one List.nil_append or_self or_true true_or List.cons_append List.append_nil Option.none_beq_some Option.some_beq_some beq_self_eq_true
/-- A remark is passed. -/
theorem fnr_l2 {Q : AX → ASt → Prop} {s0 : ASt} (s : List UInt8) (hs : s.length < 1000000000) (p : Nat) (hp : p ≤ s.length) (v5 v6 : AV) (h0 : s0.fr 0 = .str s) (h5 : s0.fr 5 = v5) (h6 : s0.fr 6 = v6) (h7 : s0.fr 7 = .int .i64 (p : Nat))
    (hQ : ∀ t : ASt, t.hp = s0.hp → t.fr 0 = .str s → t.fr 5 = v5 → t.fr 6 = v6 → t.fr 7 = .int .i64 ((p + spanN (fun c => c != 10) (s.drop p) : Nat) : Int) → Q (.exit 2) t) : CLoop Tryd.prog ((.seq (.seq (.ops [(none, (.cp 43 7)), (none, (.cp 44 0)), (none, (.len (some 45) (.t 44) true false)), (none, (.bin (some 46) .lss (.t 43) (.t 45) false false)), (none, (.cp 47 46)), ((some (47, true)), (.cp 48 0)), ((some (47, true)), (.cp 49 7)), ((some (47, true)), (.idx (some 50) (.t 48) (.t 49) true none)), ((some (47, true)), (.bin (some 51) .neq (.t 50) (.k (.int .u8 10)) false false)), (none, (.pick (some 52) (.t 47) (.t 51) (.k (.bool false))))]) (.cond (.t 52) .skip (.exit 2))) (.block 3 (.ops [(none, (.cp 53 7)), (none, (.bin (some 54) .add (.t 53) (.k (.int .i64 1)) false false)), (none, (.mv 7 54))])))) Q s0 := by
  refine cloop (fun k t => ∃ i : Nat, i + k = s.length ∧ t.fr 0 = .str s ∧ t.fr 5 = v5 ∧ t.fr 6 = v6 ∧ t.fr 7 = .int .i64 (i : Nat) ∧ i + spanN (fun c => c != 10) (s.drop i) = p + spanN (fun c => c != 10) (s.drop p) ∧ t.hp = s0.hp) (s.length - p) ⟨p, by omega, h0, h5, h6, h7, rfl, rfl⟩ ?_
  clear h0 h5 h6 h7
  rintro k ⟨F, hp'⟩ ⟨i, hk, f0, f5, f6, f7, he, rfl⟩
  simp only at f0 f5 f6 f7
  by_cases hi : i < s.length
  · have hi' : decide ((i : Int) < (s.length : Int)) = true := decide_eq_true (by omega)
    have hw : IntKind.i64.wrap ((i : Int) + 1) = ((i + 1 : Nat) : Int) := by rw [wrap64] <;> omega
    have hx : s[i]? = some s[i] := List.getElem?_eq_getElem hi
    rw [drop_cons hi, spanN] at he
    generalize s[i] = c at hx he
    have e : (((c.toNat : Nat) : Int) != 10) = (c != 10) := congrArg Bool.not (u8_eqb c 10 (by omega))
    cases hc : (c != 10) with
    | true =>
      rw [hc] at e
      rw [hc, if_pos rfl] at he
      simp only [go_sem, Nat.reduceEqDiff, Nat.reduceAdd, Nat.reduceLeDiff, Nat.reduceLT, ↓reduceIte, reduceCtorEq, Int.reduceLT, Int.reduceToNat, Int.reduceEq, Int.reduceBEq, Int.reduceBNe, Nat.reduceBEq, f0, f5, f6, f7, hi', hx, e, hw]
      exact ⟨k - 1, by omega, i + 1, by omega, rfl, by omega⟩
    | false =>
      rw [hc] at e
      rw [hc, if_neg (by simp)] at he
      simp only [go_sem, Nat.reduceEqDiff, Nat.reduceAdd, Nat.reduceLeDiff, Nat.reduceLT, ↓reduceIte, reduceCtorEq, Int.reduceLT, Int.reduceToNat, Int.reduceEq, Int.reduceBEq, Int.reduceBNe, Nat.reduceBEq, f0, f5, f6, f7, hi', hx, e]
      exact hQ ⟨_, _⟩ rfl (by simp [fr_apply, f0]) (by simp [fr_apply, f5]) (by simp [fr_apply, f6]) (by simp [fr_apply, f7]; omega)
  · have hi' : decide ((i : Int) < (s.length : Int)) = false := decide_eq_false (by omega)
    rw [List.drop_eq_nil_of_le (by omega), spanN] at he
    simp only [go_sem, Nat.reduceEqDiff, Nat.reduceAdd, Nat.reduceLeDiff, Nat.reduceLT, ↓reduceIte, reduceCtorEq, Int.reduceLT, Int.reduceToNat, Int.reduceEq, Int.reduceBEq, Int.reduceBNe, Nat.reduceBEq, f0, f5, f6, f7, hi']
    exact hQ ⟨_, _⟩ rfl (by simp [fr_apply, f0]) (by simp [fr_apply, f5]) (by simp [fr_apply, f6]) (by simp [fr_apply, f7]; omega)
/-- A name's letters. -/
theorem fnr_l7 {Q : AX → ASt → Prop} {s0 : ASt} (s : List UInt8) (hs : s.length < 1000000000) (p : Nat) (hp : p ≤ s.length) (v5 v6 v7 v8 v10 : AV) (h0 : s0.fr 0 = .str s) (h5 : s0.fr 5 = v5) (h6 : s0.fr 6 = v6) (h7 : s0.fr 7 = v7) (h8 : s0.fr 8 = v8) (h10 : s0.fr 10 = v10) (h9 : s0.fr 9 = .int .i64 (p : Nat))
    (hQ : ∀ t : ASt, t.hp = s0.hp → t.fr 0 = .str s → t.fr 5 = v5 → t.fr 6 = v6 → t.fr 7 = v7 → t.fr 8 = v8 → t.fr 10 = v10 → t.fr 9 = .int .i64 ((p + spanN innB (s.drop p) : Nat) : Int) → Q (.exit 7) t) : CLoop Tryd.prog ((.seq (.seq (.ops [(none, (.cp 118 9)), (none, (.cp 119 0)), (none, (.len (some 120) (.t 119) true false)), (none, (.bin (some 121) .lss (.t 118) (.t 120) false false)), (none, (.cp 122 121)), ((some (122, true)), (.cp 123 0)), ((some (122, true)), (.cp 124 9)), ((some (122, true)), (.idx (some 125) (.t 123) (.t 124) true none)), ((some (122, true)), (.call (some 126) (.k (.func 26 [] [])) [(.t 125)] none)), (none, (.pick (some 127) (.t 122) (.t 126) (.k (.bool false))))]) (.cond (.t 127) .skip (.exit 7))) (.block 8 (.ops [(none, (.cp 128 9)), (none, (.bin (some 129) .add (.t 128) (.k (.int .i64 1)) false false)), (none, (.mv 9 129))])))) Q s0 := by
  refine cloop (fun k t => ∃ i : Nat, i + k = s.length ∧ t.fr 0 = .str s ∧ t.fr 5 = v5 ∧ t.fr 6 = v6 ∧ t.fr 7 = v7 ∧ t.fr 8 = v8 ∧ t.fr 10 = v10 ∧ t.fr 9 = .int .i64 (i : Nat) ∧ i + spanN innB (s.drop i) = p + spanN innB (s.drop p) ∧ t.hp = s0.hp) (s.length - p) ⟨p, by omega, h0, h5, h6, h7, h8, h10, h9, rfl, rfl⟩ ?_
  clear h0 h5 h6 h7 h8 h9 h10
  rintro k ⟨F, hp'⟩ ⟨i, hk, f0, f5, f6, f7, f8, f10, f9, he, rfl⟩
  simp only at f0 f5 f6 f7 f8 f9 f10
  by_cases hi : i < s.length
  · have hi' : decide ((i : Int) < (s.length : Int)) = true := decide_eq_true (by omega)
    have hw : IntKind.i64.wrap ((i : Int) + 1) = ((i + 1 : Nat) : Int) := by rw [wrap64] <;> omega
    have hx : s[i]? = some s[i] := List.getElem?_eq_getElem hi
    rw [drop_cons hi, spanN] at he
    generalize s[i] = c at hx he
    have hL := fnr_letter c
    simp only [go_sem, Nat.reduceEqDiff, Nat.reduceAdd, Nat.reduceLeDiff, Nat.reduceLT, ↓reduceIte, reduceCtorEq, Int.reduceLT, Int.reduceToNat, Int.reduceEq, Int.reduceBEq, Int.reduceBNe, Nat.reduceBEq, f0, f5, f6, f7, f8, f9, f10, hi', hx]
    refine pcall hL (by simp only [go_sem, Nat.reduceEqDiff, Nat.reduceAdd, Nat.reduceLeDiff, Nat.reduceLT, ↓reduceIte, reduceCtorEq, Int.reduceLT, Int.reduceToNat, Int.reduceEq, Int.reduceBEq, Int.reduceBNe, Nat.reduceBEq]) ?_
    rcases Bool.eq_false_or_eq_true (innB c) with hc | hc
    · rw [hc, if_pos rfl] at he
      simp only [go_sem, Nat.reduceEqDiff, Nat.reduceAdd, Nat.reduceLeDiff, Nat.reduceLT, ↓reduceIte, reduceCtorEq, Int.reduceLT, Int.reduceToNat, Int.reduceEq, Int.reduceBEq, Int.reduceBNe, Nat.reduceBEq, f0, f5, f6, f7, f8, f9, f10, hc, hw]
      exact ⟨k - 1, by omega, i + 1, by omega, rfl, by omega⟩
    · rw [hc, if_neg (by simp)] at he
      simp only [go_sem, Nat.reduceEqDiff, Nat.reduceAdd, Nat.reduceLeDiff, Nat.reduceLT, ↓reduceIte, reduceCtorEq, Int.reduceLT, Int.reduceToNat, Int.reduceEq, Int.reduceBEq, Int.reduceBNe, Nat.reduceBEq, f0, f5, f6, f7, f8, f9, f10, hc]
      exact hQ ⟨_, _⟩ rfl (by simp [fr_apply, f0]) (by simp [fr_apply, f5]) (by simp [fr_apply, f6]) (by simp [fr_apply, f7]) (by simp [fr_apply, f8]) (by simp [fr_apply, f10]) (by simp [fr_apply, f9]; omega)
  · have hi' : decide ((i : Int) < (s.length : Int)) = false := decide_eq_false (by omega)
    rw [List.drop_eq_nil_of_le (by omega), spanN] at he
    simp only [go_sem, Nat.reduceEqDiff, Nat.reduceAdd, Nat.reduceLeDiff, Nat.reduceLT, ↓reduceIte, reduceCtorEq, Int.reduceLT, Int.reduceToNat, Int.reduceEq, Int.reduceBEq, Int.reduceBNe, Nat.reduceBEq, f0, f5, f6, f7, f8, f9, f10, hi']
    exact hQ ⟨_, _⟩ rfl (by simp [fr_apply, f0]) (by simp [fr_apply, f5]) (by simp [fr_apply, f6]) (by simp [fr_apply, f7]) (by simp [fr_apply, f8]) (by simp [fr_apply, f10]) (by simp [fr_apply, f9]; omega)
end Go.Proofs.YtnibelnjflhkgaaDoor.Ab
