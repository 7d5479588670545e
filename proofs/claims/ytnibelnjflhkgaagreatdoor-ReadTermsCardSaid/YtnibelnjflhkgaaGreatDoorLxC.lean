/- Words of a text: the document's way; small functions, inner loops. No condition. Words of a text: the document's inner loops. No condition. Words of a text: the document's digits and marks. No condition. Words of a text: the document's marks. No condition. -/
import Derived.Test.YtnibelnjflhkgaaGreatDoorLxB
namespace Go.Proofs.YtnibelnjflhkgaaGreatDoor.Ab
set_option linter.unusedVariables false
set_option linter.unusedSimpArgs false
set_option maxRecDepth 10000
attribute [local go_sem] decide_true decide_false Nat.zero_le Bool.not_true Bool.not_false Bool.false_eq_true if_false if_true forall_const true_and and_true List.map Option.map Bool.and_self Bool.and_true Bool.true_and Bool.false_and Bool.and_false List.getElem?_cons_zero List.getElem?_nil List.getElem?_cons_succ Int.natCast_nonneg Int.toNat_natCast List.length_map List.length_cons List.length_nil Nat.zero_add Nat.le_refl List.drop_zero List.drop_succ_cons List.take_succ_cons List.take_zero List.take_nil ne_eq not_true_eq_false not_false_eq_true upd_same Nat.add_assoc Nat.left_eq_add Nat.add_eq_left Nat.add_left_cancel_iff Nat.succ_ne_self Nat.one_ne_zero Nat.add_zero Nat.le_add_right ite_self List.set_cons_zero List.set_cons_succ List.all_cons List.all_nil bne_self_eq_false List.isEmpty_cons Int.cast_ofNat_Int Nat.mul_one List.nil_append or_self or_true true_or List.cons_append List.append_nil Option.none_beq_some Option.some_beq_some beq_self_eq_true
theorem c151 : compF Tryz.prog ow Tryz.f151 = (some (9, ([(.t 2)], (.seq (.ops [(none, (.set 2 (.bool false)))]) (.seq (.ops [(none, (.cp 3 0)), (none, (.bin (some 4) .geq (.t 3) (.k (.int .u8 48)) false false)), (none, (.cp 5 4)), ((some (5, true)), (.cp 6 0)), ((some (5, true)), (.bin (some 7) .leq (.t 6) (.k (.int .u8 57)) false false)), (none, (.pick (some 8) (.t 5) (.t 7) (.k (.bool false)))), (none, (.mv 2 8))]) .ret))))) := by kernel_rfl
theorem c150 : compF Tryz.prog ow Tryz.f150 = (some (25, ([(.t 2)], (.seq (.ops [(none, (.set 2 (.bool false)))]) (.seq (.ops [(none, (.cp 3 0)), (none, (.bin (some 4) .geq (.t 3) (.k (.int .u8 97)) false false)), (none, (.cp 5 4)), ((some (5, true)), (.cp 6 0)), ((some (5, true)), (.bin (some 7) .leq (.t 6) (.k (.int .u8 122)) false false)), (none, (.pick (some 8) (.t 5) (.t 7) (.k (.bool false)))), (none, (.cp 9 8)), ((some (9, false)), (.cp 10 0)), ((some (9, false)), (.bin (some 11) .geq (.t 10) (.k (.int .u8 65)) false false)), ((some (9, false)), (.cp 12 11)), ((some (12, true)), (.cp 13 0)), ((some (12, true)), (.bin (some 14) .leq (.t 13) (.k (.int .u8 90)) false false)), ((some (9, false)), (.pick (some 15) (.t 12) (.t 14) (.k (.bool false)))), (none, (.pick (some 16) (.t 9) (.k (.bool true)) (.t 15))), (none, (.cp 17 16)), ((some (17, false)), (.cp 18 0)), ((some (17, false)), (.call (some 19) (.k (.func 151 [] [])) [(.t 18)] none)), (none, (.pick (some 20) (.t 17) (.k (.bool true)) (.t 19))), (none, (.cp 21 20)), ((some (21, false)), (.cp 22 0)), ((some (21, false)), (.bin (some 23) .eql (.t 22) (.k (.int .u8 95)) false false)), (none, (.pick (some 24) (.t 21) (.k (.bool true)) (.t 23))), (none, (.mv 2 24))]) .ret))))) := by kernel_rfl
theorem fnr_digit (c : Int) : PFn Tryz.prog 151 [.int .u8 c] (.bool (inR 48 57 c)) := by
  intro h
  refine fnC mixed Tryz.func151 c151 (by simp) ?_
  unfold inR
  simp only [go_sem, Nat.reduceEqDiff, Nat.reduceAdd, Nat.reduceLeDiff, Nat.reduceLT, ↓reduceIte, reduceCtorEq, Int.reduceLT, Int.reduceToNat, Int.reduceEq, Int.reduceBEq, Int.reduceBNe, Nat.reduceBEq]
  refine cog (fun h1 => ?_) (fun h1 => ?_)
  · simp only [go_sem, Nat.reduceEqDiff, Nat.reduceAdd, Nat.reduceLeDiff, Nat.reduceLT, ↓reduceIte, reduceCtorEq, Int.reduceLT, Int.reduceToNat, Int.reduceEq, Int.reduceBEq, Int.reduceBNe, Nat.reduceBEq, h1]
  · simp only [go_sem, Nat.reduceEqDiff, Nat.reduceAdd, Nat.reduceLeDiff, Nat.reduceLT, ↓reduceIte, reduceCtorEq, Int.reduceLT, Int.reduceToNat, Int.reduceEq, Int.reduceBEq, Int.reduceBNe, Nat.reduceBEq, h1]
theorem fnr_letter (c : UInt8) : PFn Tryz.prog 150 [.int .u8 (c.toNat : Nat)] (.bool (innB c)) := by
  intro h
  have e : (((c.toNat : Nat) : Int) == 95) = (c == 95) := u8_eqb c 95 (by omega)
  have hD := fnr_digit (c.toNat : Nat)
  unfold innB smaB greB digB
  generalize inR 48 57 (c.toNat : Nat) = b3 at *
  unfold inR
  refine fnC mixed Tryz.func150 c150 (by simp) ?_
  simp only [go_sem, Nat.reduceEqDiff, Nat.reduceAdd, Nat.reduceLeDiff, Nat.reduceLT, ↓reduceIte, reduceCtorEq, Int.reduceLT, Int.reduceToNat, Int.reduceEq, Int.reduceBEq, Int.reduceBNe, Nat.reduceBEq]
  cases h1 : decide ((c.toNat : Int) ≥ 97) with
  | true =>
    simp only [go_sem, Nat.reduceEqDiff, Nat.reduceAdd, Nat.reduceLeDiff, Nat.reduceLT, ↓reduceIte, reduceCtorEq, Int.reduceLT, Int.reduceToNat, Int.reduceEq, Int.reduceBEq, Int.reduceBNe, Nat.reduceBEq, h1]
    cases h2 : decide ((c.toNat : Int) ≤ 122) with
    | true => simp only [go_sem, Nat.reduceEqDiff, Nat.reduceAdd, Nat.reduceLeDiff, Nat.reduceLT, ↓reduceIte, reduceCtorEq, Int.reduceLT, Int.reduceToNat, Int.reduceEq, Int.reduceBEq, Int.reduceBNe, Nat.reduceBEq, h2, Bool.true_or]
    | false =>
      have g : decide ((c.toNat : Int) ≤ 90) = false := by simp at h1 h2 ⊢; omega
      have g2 : decide ((c.toNat : Int) ≥ 65) = true := by simp at h1 h2 ⊢; omega
      simp only [go_sem, Nat.reduceEqDiff, Nat.reduceAdd, Nat.reduceLeDiff, Nat.reduceLT, ↓reduceIte, reduceCtorEq, Int.reduceLT, Int.reduceToNat, Int.reduceEq, Int.reduceBEq, Int.reduceBNe, Nat.reduceBEq, h2, g, g2, Bool.false_or]
      refine pcall hD (by simp only [go_sem, Nat.reduceEqDiff, Nat.reduceAdd, Nat.reduceLeDiff, Nat.reduceLT, ↓reduceIte, reduceCtorEq, Int.reduceLT, Int.reduceToNat, Int.reduceEq, Int.reduceBEq, Int.reduceBNe, Nat.reduceBEq]) ?_
      cases b3 with
      | true => simp only [go_sem, Nat.reduceEqDiff, Nat.reduceAdd, Nat.reduceLeDiff, Nat.reduceLT, ↓reduceIte, reduceCtorEq, Int.reduceLT, Int.reduceToNat, Int.reduceEq, Int.reduceBEq, Int.reduceBNe, Nat.reduceBEq, Bool.true_or]
      | false => simp only [go_sem, Nat.reduceEqDiff, Nat.reduceAdd, Nat.reduceLeDiff, Nat.reduceLT, ↓reduceIte, reduceCtorEq, Int.reduceLT, Int.reduceToNat, Int.reduceEq, Int.reduceBEq, Int.reduceBNe, Nat.reduceBEq, e, Bool.false_or]
  | false =>
    simp only [go_sem, Nat.reduceEqDiff, Nat.reduceAdd, Nat.reduceLeDiff, Nat.reduceLT, ↓reduceIte, reduceCtorEq, Int.reduceLT, Int.reduceToNat, Int.reduceEq, Int.reduceBEq, Int.reduceBNe, Nat.reduceBEq, h1, Bool.false_or]
    cases h2 : decide ((c.toNat : Int) ≥ 65) with
    | true =>
      simp only [go_sem, Nat.reduceEqDiff, Nat.reduceAdd, Nat.reduceLeDiff, Nat.reduceLT, ↓reduceIte, reduceCtorEq, Int.reduceLT, Int.reduceToNat, Int.reduceEq, Int.reduceBEq, Int.reduceBNe, Nat.reduceBEq, h2]
      cases h3 : decide ((c.toNat : Int) ≤ 90) with
      | true => simp only [go_sem, Nat.reduceEqDiff, Nat.reduceAdd, Nat.reduceLeDiff, Nat.reduceLT, ↓reduceIte, reduceCtorEq, Int.reduceLT, Int.reduceToNat, Int.reduceEq, Int.reduceBEq, Int.reduceBNe, Nat.reduceBEq, h3, Bool.true_or]
      | false =>
        simp only [go_sem, Nat.reduceEqDiff, Nat.reduceAdd, Nat.reduceLeDiff, Nat.reduceLT, ↓reduceIte, reduceCtorEq, Int.reduceLT, Int.reduceToNat, Int.reduceEq, Int.reduceBEq, Int.reduceBNe, Nat.reduceBEq, h3, Bool.false_or]
        refine pcall hD (by simp only [go_sem, Nat.reduceEqDiff, Nat.reduceAdd, Nat.reduceLeDiff, Nat.reduceLT, ↓reduceIte, reduceCtorEq, Int.reduceLT, Int.reduceToNat, Int.reduceEq, Int.reduceBEq, Int.reduceBNe, Nat.reduceBEq]) ?_
        cases b3 with
        | true => simp only [go_sem, Nat.reduceEqDiff, Nat.reduceAdd, Nat.reduceLeDiff, Nat.reduceLT, ↓reduceIte, reduceCtorEq, Int.reduceLT, Int.reduceToNat, Int.reduceEq, Int.reduceBEq, Int.reduceBNe, Nat.reduceBEq, Bool.true_or]
        | false => simp only [go_sem, Nat.reduceEqDiff, Nat.reduceAdd, Nat.reduceLeDiff, Nat.reduceLT, ↓reduceIte, reduceCtorEq, Int.reduceLT, Int.reduceToNat, Int.reduceEq, Int.reduceBEq, Int.reduceBNe, Nat.reduceBEq, e, Bool.false_or]
    | false =>
      simp only [go_sem, Nat.reduceEqDiff, Nat.reduceAdd, Nat.reduceLeDiff, Nat.reduceLT, ↓reduceIte, reduceCtorEq, Int.reduceLT, Int.reduceToNat, Int.reduceEq, Int.reduceBEq, Int.reduceBNe, Nat.reduceBEq, h2, Bool.false_or]
      refine pcall hD (by simp only [go_sem, Nat.reduceEqDiff, Nat.reduceAdd, Nat.reduceLeDiff, Nat.reduceLT, ↓reduceIte, reduceCtorEq, Int.reduceLT, Int.reduceToNat, Int.reduceEq, Int.reduceBEq, Int.reduceBNe, Nat.reduceBEq]) ?_
      cases b3 with
      | true => simp only [go_sem, Nat.reduceEqDiff, Nat.reduceAdd, Nat.reduceLeDiff, Nat.reduceLT, ↓reduceIte, reduceCtorEq, Int.reduceLT, Int.reduceToNat, Int.reduceEq, Int.reduceBEq, Int.reduceBNe, Nat.reduceBEq, Bool.true_or]
      | false => simp only [go_sem, Nat.reduceEqDiff, Nat.reduceAdd, Nat.reduceLeDiff, Nat.reduceLT, ↓reduceIte, reduceCtorEq, Int.reduceLT, Int.reduceToNat, Int.reduceEq, Int.reduceBEq, Int.reduceBNe, Nat.reduceBEq, e, Bool.false_or]
/-- The row of marks in the document's order. -/
def marksR : List (List UInt8) := [[58, 45], [60, 45], [61, 60], [92, 61], [92, 43], [40], [41], [44], [46], [59], [60], [61], [38], [124], [64]]
theorem pre_1 (a c : UInt8) (r : List UInt8) : [a].isPrefixOf (c :: r) = (a == c) := by simp [List.isPrefixOf]
theorem pre_2 (a b c : UInt8) (r : List UInt8) : [a, b].isPrefixOf (c :: r) = (a == c && [b].isPrefixOf r) := by simp [List.isPrefixOf]
theorem marks_same (s : List UInt8) : marksR.find? (·.isPrefixOf s) = marksL.find? (·.isPrefixOf s) := by
  cases s with
  | nil => rfl
  | cons c r =>
    unfold marksR marksL
    simp only [List.find?_cons, pre_1, pre_2, List.find?_nil]
    generalize [45].isPrefixOf r = x1
    generalize [60].isPrefixOf r = x2
    generalize [61].isPrefixOf r = x3
    generalize [43].isPrefixOf r = x4
    by_cases c1 : c = 58
    · subst c1; cases x1 <;> rfl
    by_cases c2 : c = 60
    · subst c2; cases x1 <;> rfl
    by_cases c3 : c = 61
    · subst c3; cases x2 <;> rfl
    by_cases c4 : c = 92
    · subst c4; cases x3 <;> cases x4 <;> rfl
    have e1 : (58 == c) = false := by simpa using fun h => c1 h.symm
    have e2 : (60 == c) = false := by simpa using fun h => c2 h.symm
    have e3 : (61 == c) = false := by simpa using fun h => c3 h.symm
    have e4 : (92 == c) = false := by simpa using fun h => c4 h.symm
    simp only [e1, e2, e3, e4, Bool.false_and]
theorem toksF_skip (f p n : Nat) (s : List UInt8) (acc : List Tk) (h : skipN false s = n + skipN false (s.drop n)) : toksF (f + 1) p s acc = toksF (f + 1) (p + n) (s.drop n) acc := by
  rw [toksF_succ, toksF_succ, h, List.drop_drop]
  congr 1
  omega
theorem skip_bla {c : UInt8} {r : List UInt8} (h : blaB c = true) : skipN false (c :: r) = 1 + skipN false ((c :: r).drop 1) := by rw [skipN, if_pos h]; simp; omega
theorem skip_rem {r : List UInt8} : skipN false (37 :: r) = spanN (fun c => c != 10) (37 :: r) + skipN false ((37 :: r).drop (spanN (fun c => c != 10) (37 :: r))) := by
  have e : spanN (fun c => c != 10) (37 :: r) = spanN (fun c => c != 10) r + 1 := by rw [spanN]; rfl
  rw [e, List.drop_succ_cons, skipN, if_neg (by decide), if_pos rfl, skipN_rem]; omega
theorem toksF_tok (f p : Nat) (c : UInt8) (r : List UInt8) (acc : List Tk) (h1 : blaB c = false) (h2 : c ≠ 37) : toksF (f + 1) p (c :: r) acc = toksG f p (c :: r) acc := by
  rw [toksF_succ]
  have : skipN false (c :: r) = 0 := by rw [skipN, if_neg (by rw [h1]; simp), if_neg h2]
  rw [this]; rfl
end Go.Proofs.YtnibelnjflhkgaaGreatDoor.Ab

namespace Go.Proofs.YtnibelnjflhkgaaGreatDoor.Ab
set_option linter.unusedVariables false
set_option linter.unusedSimpArgs false
set_option maxRecDepth 10000
attribute [local go_sem] decide_true decide_false Nat.zero_le Bool.not_true Bool.not_false Bool.false_eq_true if_false if_true forall_const true_and and_true List.map Option.map Bool.and_self Bool.and_true Bool.true_and Bool.false_and Bool.and_false List.getElem?_cons_zero List.getElem?_nil List.getElem?_cons_succ Int.natCast_nonneg Int.toNat_natCast List.length_map List.length_cons List.length_nil Nat.zero_add Nat.le_refl List.drop_zero List.drop_succ_cons List.take_succ_cons List.take_zero List.take_nil ne_eq not_true_eq_false not_false_eq_true upd_same Nat.add_assoc Nat.left_eq_add Nat.add_eq_left Nat.add_left_cancel_iff Nat.succ_ne_self Nat.one_ne_zero Nat.add_zero Nat.le_add_right ite_self List.set_cons_zero List.set_cons_succ List.all_cons List.all_nil bne_self_eq_false List.isEmpty_cons Int.cast_ofNat_Int Nat.mul_one List.nil_append or_self or_true true_or List.cons_append List.append_nil Option.none_beq_some Option.some_beq_some beq_self_eq_true
/-- A remark is passed. -/
theorem fnr_l2 {Q : AX → ASt → Prop} {s0 : ASt} (s : List UInt8) (hs : s.length < 1000000000) (p : Nat) (hp : p ≤ s.length) (v5 v6 : AV) (h0 : s0.fr 0 = .str s) (h5 : s0.fr 5 = v5) (h6 : s0.fr 6 = v6) (h7 : s0.fr 7 = .int .i64 (p : Nat))
    (hQ : ∀ t : ASt, t.hp = s0.hp → t.fr 0 = .str s → t.fr 5 = v5 → t.fr 6 = v6 → t.fr 7 = .int .i64 ((p + spanN (fun c => c != 10) (s.drop p) : Nat) : Int) → Q (.exit 2) t) : CLoop Tryz.prog ((.seq (.seq (.ops [(none, (.cp 43 7)), (none, (.cp 44 0)), (none, (.len (some 45) (.t 44) true false)), (none, (.bin (some 46) .lss (.t 43) (.t 45) false false)), (none, (.cp 47 46)), ((some (47, true)), (.cp 48 0)), ((some (47, true)), (.cp 49 7)), ((some (47, true)), (.idx (some 50) (.t 48) (.t 49) true none)), ((some (47, true)), (.bin (some 51) .neq (.t 50) (.k (.int .u8 10)) false false)), (none, (.pick (some 52) (.t 47) (.t 51) (.k (.bool false))))]) (.cond (.t 52) .skip (.exit 2))) (.block 3 (.ops [(none, (.cp 53 7)), (none, (.bin (some 54) .add (.t 53) (.k (.int .i64 1)) false false)), (none, (.mv 7 54))])))) Q s0 := by
  refine cloop (fun k t => ∃ i : Nat, i + k = s.length ∧ t.fr 0 = .str s ∧ t.fr 5 = v5 ∧ t.fr 6 = v6 ∧ t.fr 7 = .int .i64 (i : Nat) ∧ i + spanN (fun c => c != 10) (s.drop i) = p + spanN (fun c => c != 10) (s.drop p) ∧ t.hp = s0.hp) (s.length - p) ⟨p, by omega, h0, h5, h6, h7, rfl, rfl⟩ ?_
  clear h0 h5 h6 h7
  rintro k ⟨F, hp'⟩ ⟨i, hk, f0, f5, f6, f7, he, rfl⟩
  simp only at f0 f5 f6 f7
  by_cases hi : i < s.length
  · have hi' : decide ((i : Int) < (s.length : Int)) = true := decide_eq_true (by omega)
    have hw : IntKind.i64.wrap ((i : Int) + 1) = ((i + 1 : Nat) : Int) := by rw [wrap64] <;> omega
    have hx : s[i]? = some s[i] := List.getElem?_eq_getElem hi
    rw [drop_cons hi, spanN] at he
    generalize s[i] = c at hx he
    have e : (((c.toNat : Nat) : Int) != 10) = (c != 10) := congrArg Bool.not (u8_eqb c 10 (by omega))
    cases hc : (c != 10) with
    | true =>
      rw [hc] at e
      rw [hc, if_pos rfl] at he
      simp only [go_sem, Nat.reduceEqDiff, Nat.reduceAdd, Nat.reduceLeDiff, Nat.reduceLT, ↓reduceIte, reduceCtorEq, Int.reduceLT, Int.reduceToNat, Int.reduceEq, Int.reduceBEq, Int.reduceBNe, Nat.reduceBEq, f0, f5, f6, f7, hi', hx, e, hw]
      exact ⟨k - 1, by omega, i + 1, by omega, rfl, by omega⟩
    | false =>
      rw [hc] at e
      rw [hc, if_neg (by simp)] at he
      simp only [go_sem, Nat.reduceEqDiff, Nat.reduceAdd, Nat.reduceLeDiff, Nat.reduceLT, ↓reduceIte, reduceCtorEq, Int.reduceLT, Int.reduceToNat, Int.reduceEq, Int.reduceBEq, Int.reduceBNe, Nat.reduceBEq, f0, f5, f6, f7, hi', hx, e]
      exact hQ ⟨_, _⟩ rfl (by simp [fr_apply, f0]) (by simp [fr_apply, f5]) (by simp [fr_apply, f6]) (by simp [fr_apply, f7]; omega)
  · have hi' : decide ((i : Int) < (s.length : Int)) = false := decide_eq_false (by omega)
    rw [List.drop_eq_nil_of_le (by omega), spanN] at he
    simp only [go_sem, Nat.reduceEqDiff, Nat.reduceAdd, Nat.reduceLeDiff, Nat.reduceLT, ↓reduceIte, reduceCtorEq, Int.reduceLT, Int.reduceToNat, Int.reduceEq, Int.reduceBEq, Int.reduceBNe, Nat.reduceBEq, f0, f5, f6, f7, hi']
    exact hQ ⟨_, _⟩ rfl (by simp [fr_apply, f0]) (by simp [fr_apply, f5]) (by simp [fr_apply, f6]) (by simp [fr_apply, f7]; omega)
/-- A name's letters. -/
theorem fnr_l7 {Q : AX → ASt → Prop} {s0 : ASt} (s : List UInt8) (hs : s.length < 1000000000) (p : Nat) (hp : p ≤ s.length) (v5 v6 v7 v8 v10 : AV) (h0 : s0.fr 0 = .str s) (h5 : s0.fr 5 = v5) (h6 : s0.fr 6 = v6) (h7 : s0.fr 7 = v7) (h8 : s0.fr 8 = v8) (h10 : s0.fr 10 = v10) (h9 : s0.fr 9 = .int .i64 (p : Nat))
    (hQ : ∀ t : ASt, t.hp = s0.hp → t.fr 0 = .str s → t.fr 5 = v5 → t.fr 6 = v6 → t.fr 7 = v7 → t.fr 8 = v8 → t.fr 10 = v10 → t.fr 9 = .int .i64 ((p + spanN innB (s.drop p) : Nat) : Int) → Q (.exit 7) t) : CLoop Tryz.prog ((.seq (.seq (.ops [(none, (.cp 118 9)), (none, (.cp 119 0)), (none, (.len (some 120) (.t 119) true false)), (none, (.bin (some 121) .lss (.t 118) (.t 120) false false)), (none, (.cp 122 121)), ((some (122, true)), (.cp 123 0)), ((some (122, true)), (.cp 124 9)), ((some (122, true)), (.idx (some 125) (.t 123) (.t 124) true none)), ((some (122, true)), (.call (some 126) (.k (.func 150 [] [])) [(.t 125)] none)), (none, (.pick (some 127) (.t 122) (.t 126) (.k (.bool false))))]) (.cond (.t 127) .skip (.exit 7))) (.block 8 (.ops [(none, (.cp 128 9)), (none, (.bin (some 129) .add (.t 128) (.k (.int .i64 1)) false false)), (none, (.mv 9 129))])))) Q s0 := by
  refine cloop (fun k t => ∃ i : Nat, i + k = s.length ∧ t.fr 0 = .str s ∧ t.fr 5 = v5 ∧ t.fr 6 = v6 ∧ t.fr 7 = v7 ∧ t.fr 8 = v8 ∧ t.fr 10 = v10 ∧ t.fr 9 = .int .i64 (i : Nat) ∧ i + spanN innB (s.drop i) = p + spanN innB (s.drop p) ∧ t.hp = s0.hp) (s.length - p) ⟨p, by omega, h0, h5, h6, h7, h8, h10, h9, rfl, rfl⟩ ?_
  clear h0 h5 h6 h7 h8 h9 h10
  rintro k ⟨F, hp'⟩ ⟨i, hk, f0, f5, f6, f7, f8, f10, f9, he, rfl⟩
  simp only at f0 f5 f6 f7 f8 f9 f10
  by_cases hi : i < s.length
  · have hi' : decide ((i : Int) < (s.length : Int)) = true := decide_eq_true (by omega)
    have hw : IntKind.i64.wrap ((i : Int) + 1) = ((i + 1 : Nat) : Int) := by rw [wrap64] <;> omega
    have hx : s[i]? = some s[i] := List.getElem?_eq_getElem hi
    rw [drop_cons hi, spanN] at he
    generalize s[i] = c at hx he
    have hL := fnr_letter c
    simp only [go_sem, Nat.reduceEqDiff, Nat.reduceAdd, Nat.reduceLeDiff, Nat.reduceLT, ↓reduceIte, reduceCtorEq, Int.reduceLT, Int.reduceToNat, Int.reduceEq, Int.reduceBEq, Int.reduceBNe, Nat.reduceBEq, f0, f5, f6, f7, f8, f9, f10, hi', hx]
    refine pcall hL (by simp only [go_sem, Nat.reduceEqDiff, Nat.reduceAdd, Nat.reduceLeDiff, Nat.reduceLT, ↓reduceIte, reduceCtorEq, Int.reduceLT, Int.reduceToNat, Int.reduceEq, Int.reduceBEq, Int.reduceBNe, Nat.reduceBEq]) ?_
    rcases Bool.eq_false_or_eq_true (innB c) with hc | hc
    · rw [hc, if_pos rfl] at he
      simp only [go_sem, Nat.reduceEqDiff, Nat.reduceAdd, Nat.reduceLeDiff, Nat.reduceLT, ↓reduceIte, reduceCtorEq, Int.reduceLT, Int.reduceToNat, Int.reduceEq, Int.reduceBEq, Int.reduceBNe, Nat.reduceBEq, f0, f5, f6, f7, f8, f9, f10, hc, hw]
      exact ⟨k - 1, by omega, i + 1, by omega, rfl, by omega⟩
    · rw [hc, if_neg (by simp)] at he
      simp only [go_sem, Nat.reduceEqDiff, Nat.reduceAdd, Nat.reduceLeDiff, Nat.reduceLT, ↓reduceIte, reduceCtorEq, Int.reduceLT, Int.reduceToNat, Int.reduceEq, Int.reduceBEq, Int.reduceBNe, Nat.reduceBEq, f0, f5, f6, f7, f8, f9, f10, hc]
      exact hQ ⟨_, _⟩ rfl (by simp [fr_apply, f0]) (by simp [fr_apply, f5]) (by simp [fr_apply, f6]) (by simp [fr_apply, f7]) (by simp [fr_apply, f8]) (by simp [fr_apply, f10]) (by simp [fr_apply, f9]; omega)
  · have hi' : decide ((i : Int) < (s.length : Int)) = false := decide_eq_false (by omega)
    rw [List.drop_eq_nil_of_le (by omega), spanN] at he
    simp only [go_sem, Nat.reduceEqDiff, Nat.reduceAdd, Nat.reduceLeDiff, Nat.reduceLT, ↓reduceIte, reduceCtorEq, Int.reduceLT, Int.reduceToNat, Int.reduceEq, Int.reduceBEq, Int.reduceBNe, Nat.reduceBEq, f0, f5, f6, f7, f8, f9, f10, hi']
    exact hQ ⟨_, _⟩ rfl (by simp [fr_apply, f0]) (by simp [fr_apply, f5]) (by simp [fr_apply, f6]) (by simp [fr_apply, f7]) (by simp [fr_apply, f8]) (by simp [fr_apply, f10]) (by simp [fr_apply, f9]; omega)
end Go.Proofs.YtnibelnjflhkgaaGreatDoor.Ab

namespace Go.Proofs.YtnibelnjflhkgaaGreatDoor.Ab
set_option linter.unusedVariables false
set_option linter.unusedSimpArgs false
set_option maxRecDepth 10000
attribute [local go_sem] decide_true decide_false Nat.zero_le Bool.not_true Bool.not_false Bool.false_eq_true if_false if_true forall_const true_and and_true List.map Option.map Bool.and_self Bool.and_true Bool.true_and Bool.false_and Bool.and_false List.getElem?_cons_zero List.getElem?_nil List.getElem?_cons_succ Int.natCast_nonneg Int.toNat_natCast List.length_map List.length_cons List.length_nil Nat.zero_add Nat.le_refl List.drop_zero List.drop_succ_cons List.take_succ_cons List.take_zero List.take_nil ne_eq not_true_eq_false not_false_eq_true upd_same Nat.add_assoc Nat.left_eq_add Nat.add_eq_left Nat.add_left_cancel_iff Nat.succ_ne_self Nat.one_ne_zero Nat.add_zero Nat.le_add_right ite_self List.set_cons_zero List.set_cons_succ List.all_cons List.all_nil bne_self_eq_false List.isEmpty_cons Int.cast_ofNat_Int Nat.mul_one List.nil_append or_self or_true true_or List.cons_append List.append_nil Option.none_beq_some Option.some_beq_some beq_self_eq_true
theorem spanN_stop (f : UInt8 → Bool) : ∀ (s : List UInt8) (c : UInt8), s[spanN f s]? = some c → f c = false
  | [], c, h => by simp at h
  | d :: s, c, h => by
    rw [spanN] at h
    split at h
    · exact spanN_stop f s c (by simpa using h)
    · rename_i hd
      simp at h; subst h; simpa using hd
def digW (v : Nat) (l : List UInt8) : Nat := l.foldl (fun n c => 10 * n + (c.toNat - 48)) v
theorem digW_snoc (v : Nat) (l : List UInt8) (c : UInt8) : digW v (l ++ [c]) = 10 * digW v l + (c.toNat - 48) := by simp [digW]
theorem digW_0 (l : List UInt8) : digW 0 l = digV l := rfl
theorem digW_cons (c : UInt8) (l : List UInt8) : digW (c.toNat - 48) l = digV (c :: l) := by simp [digW, digV]
set_option maxHeartbeats 1000000 in
theorem fnr_l9 {Q : AX → ASt → Prop} {s0 : ASt} (s : List UInt8) (hs : s.length < 1000000000) (p v : Nat) (hp : p ≤ s.length) (hv : v ≤ 9) (v5 v6 v7 v8 v10 : AV) (h0 : s0.fr 0 = .str s) (h5 : s0.fr 5 = v5) (h6 : s0.fr 6 = v6) (h7 : s0.fr 7 = v7) (h8 : s0.fr 8 = v8) (h10 : s0.fr 10 = v10) (h9 : s0.fr 9 = .int .i64 (p : Nat)) (h11 : s0.fr 11 = .int .i64 (v : Nat))
    (hQ : ∀ t : ASt, t.hp = s0.hp → t.fr 0 = .str s → t.fr 5 = v5 → t.fr 6 = v6 → t.fr 7 = v7 → t.fr 8 = v8 → t.fr 10 = v10 → t.fr 9 = .int .i64 ((p + spanN digB (s.drop p) : Nat) : Int) → t.fr 11 = .int .i64 ((min (digW v ((s.drop p).take (spanN digB (s.drop p)))) 1073741825 : Nat) : Int) → Q (.exit 9) t) : CLoop Tryz.prog ((.seq (.seq (.ops [(none, (.cp 172 9)), (none, (.cp 173 0)), (none, (.len (some 174) (.t 173) true false)), (none, (.bin (some 175) .lss (.t 172) (.t 174) false false)), (none, (.cp 176 175)), ((some (176, true)), (.cp 177 0)), ((some (176, true)), (.cp 178 9)), ((some (176, true)), (.idx (some 179) (.t 177) (.t 178) true none)), ((some (176, true)), (.call (some 180) (.k (.func 151 [] [])) [(.t 179)] none)), (none, (.pick (some 181) (.t 176) (.t 180) (.k (.bool false))))]) (.cond (.t 181) .skip (.exit 9))) (.block 10 (.seq (.ops [(none, (.cp 182 11)), (none, (.bin (some 183) .mul (.k (.int .i64 10)) (.t 182) false false)), (none, (.cp 184 0)), (none, (.cp 185 9)), (none, (.idx (some 186) (.t 184) (.t 185) true none)), (none, (.bin (some 187) .sub (.t 186) (.k (.int .u8 48)) false false)), (none, (.cvt (some 188) (.t 187) (some .i64) false false)), (none, (.bin (some 189) .add (.t 183) (.t 188) false false)), (none, (.mn (some 190) (.t 189) (.k (.int .i64 1073741825)))), (none, (.mv 11 190))]) (.ops [(none, (.cp 191 9)), (none, (.bin (some 192) .add (.t 191) (.k (.int .i64 1)) false false)), (none, (.mv 9 192))]))))) Q s0 := by
  have hsp := spanN_le digB (s.drop p)
  rw [List.length_drop] at hsp
  have hall := spanN_all digB (s.drop p)
  have hstop : ∀ c, s[p + spanN digB (s.drop p)]? = some c → digB c = false := fun c hc => spanN_stop digB (s.drop p) c (by rw [List.getElem?_drop]; exact hc)
  generalize spanN digB (s.drop p) = m at *
  refine cloop (fun k t => ∃ (j n : Nat), j + k = m ∧ n = min (digW v ((s.drop p).take j)) 1073741825 ∧ t.fr 0 = .str s ∧ t.fr 5 = v5 ∧ t.fr 6 = v6 ∧ t.fr 7 = v7 ∧ t.fr 8 = v8 ∧ t.fr 10 = v10 ∧ t.fr 9 = .int .i64 ((p + j : Nat) : Int) ∧ t.fr 11 = .int .i64 (n : Nat) ∧ t.hp = s0.hp) m ⟨0, v, by omega, by simp [digW]; omega, h0, h5, h6, h7, h8, h10, h9, h11, rfl⟩ ?_
  clear h0 h5 h6 h7 h8 h9 h10 h11
  rintro k ⟨F, hp'⟩ ⟨j, n, hk, hn, f0, f5, f6, f7, f8, f10, f9, f11, rfl⟩
  simp only at f0 f5 f6 f7 f8 f9 f10 f11
  by_cases hi : p + j < s.length
  · have hi' : decide (((p + j : Nat) : Int) < (s.length : Int)) = true := decide_eq_true (by omega)
    have hw : IntKind.i64.wrap (((p + j : Nat) : Int) + 1) = ((p + (j + 1) : Nat) : Int) := by rw [wrap64] <;> omega
    have hx : s[p + j]? = some s[p + j] := List.getElem?_eq_getElem hi
    by_cases hj : j < m
    · have hdg := hall j hj s[p + j] (by rw [List.getElem?_drop]; exact hx)
      have hd := digB_iff.1 hdg
      have htk1 : (s.drop p).take (j + 1) = (s.drop p).take j ++ [s[p + j]] := by
        rw [List.take_add_one, List.getElem?_drop, hx]; rfl
      have hvv := digW_snoc v ((s.drop p).take j) s[p + j]
      rw [← htk1] at hvv
      generalize s[p + j] = d at hx hd hvv hdg
      have hD : PFn Tryz.prog 151 [.int .u8 (d.toNat : Nat)] (.bool (digB d)) := fnr_digit _
      rw [hdg] at hD
      have w1 : IntKind.i64.wrap (10 * (n : Int)) = ((10 * n : Nat) : Int) := by rw [wrap64] <;> omega
      have w2 : IntKind.u8.wrap ((d.toNat : Int) - 48) = ((d.toNat - 48 : Nat) : Int) := by rw [IntKind.wrap_u8]; omega
      have w3 : IntKind.i64.wrap ((d.toNat - 48 : Nat) : Int) = ((d.toNat - 48 : Nat) : Int) := by rw [wrap64] <;> omega
      have w4 : IntKind.i64.wrap (((10 * n : Nat) : Int) + ((d.toNat - 48 : Nat) : Int)) = ((10 * n + (d.toNat - 48) : Nat) : Int) := by rw [wrap64] <;> omega
      have w5 : (if (1073741825 : Int) < ((10 * n + (d.toNat - 48) : Nat) : Int) then (1073741825 : Int) else ((10 * n + (d.toNat - 48) : Nat) : Int)) = ((min (digW v ((s.drop p).take (j + 1))) 1073741825 : Nat) : Int) := by
        rw [hvv]
        split <;> omega
      simp only [go_sem, Nat.reduceEqDiff, Nat.reduceAdd, Nat.reduceLeDiff, Nat.reduceLT, ↓reduceIte, reduceCtorEq, Int.reduceLT, Int.reduceToNat, Int.reduceEq, Int.reduceBEq, Int.reduceBNe, Nat.reduceBEq, f0, f5, f6, f7, f8, f9, f10, f11, hi', hx]
      refine pcall hD (by simp only [go_sem, Nat.reduceEqDiff, Nat.reduceAdd, Nat.reduceLeDiff, Nat.reduceLT, ↓reduceIte, reduceCtorEq, Int.reduceLT, Int.reduceToNat, Int.reduceEq, Int.reduceBEq, Int.reduceBNe, Nat.reduceBEq]) ?_
      simp only [go_sem, Nat.reduceEqDiff, Nat.reduceAdd, Nat.reduceLeDiff, Nat.reduceLT, ↓reduceIte, reduceCtorEq, Int.reduceLT, Int.reduceToNat, Int.reduceEq, Int.reduceBEq, Int.reduceBNe, Nat.reduceBEq, f0, f5, f6, f7, f8, f9, f10, f11, hx, w1, w2, w3, w4, w5, hw]
      exact ⟨k - 1, by omega, j + 1, _, by omega, rfl, rfl, rfl⟩
    · have hjm : j = m := by omega
      subst hjm
      have hdg := hstop _ hx
      generalize s[p + j] = d at hx hdg
      have hD : PFn Tryz.prog 151 [.int .u8 (d.toNat : Nat)] (.bool (digB d)) := fnr_digit _
      rw [hdg] at hD
      simp only [go_sem, Nat.reduceEqDiff, Nat.reduceAdd, Nat.reduceLeDiff, Nat.reduceLT, ↓reduceIte, reduceCtorEq, Int.reduceLT, Int.reduceToNat, Int.reduceEq, Int.reduceBEq, Int.reduceBNe, Nat.reduceBEq, f0, f5, f6, f7, f8, f9, f10, f11, hi', hx]
      refine pcall hD (by simp only [go_sem, Nat.reduceEqDiff, Nat.reduceAdd, Nat.reduceLeDiff, Nat.reduceLT, ↓reduceIte, reduceCtorEq, Int.reduceLT, Int.reduceToNat, Int.reduceEq, Int.reduceBEq, Int.reduceBNe, Nat.reduceBEq]) ?_
      simp only [go_sem, Nat.reduceEqDiff, Nat.reduceAdd, Nat.reduceLeDiff, Nat.reduceLT, ↓reduceIte, reduceCtorEq, Int.reduceLT, Int.reduceToNat, Int.reduceEq, Int.reduceBEq, Int.reduceBNe, Nat.reduceBEq, f0, f5, f6, f7, f8, f9, f10, f11]
      exact hQ ⟨_, _⟩ rfl (by simp [fr_apply, f0]) (by simp [fr_apply, f5]) (by simp [fr_apply, f6]) (by simp [fr_apply, f7]) (by simp [fr_apply, f8]) (by simp [fr_apply, f10]) (by simp [fr_apply, f9]) (by simp only [fr_apply, Nat.reduceEqDiff, if_false, f11, hn])
  · have hi' : decide (((p + j : Nat) : Int) < (s.length : Int)) = false := decide_eq_false (by omega)
    have hjm : j = m := by omega
    subst hjm
    simp only [go_sem, Nat.reduceEqDiff, Nat.reduceAdd, Nat.reduceLeDiff, Nat.reduceLT, ↓reduceIte, reduceCtorEq, Int.reduceLT, Int.reduceToNat, Int.reduceEq, Int.reduceBEq, Int.reduceBNe, Nat.reduceBEq, f0, f5, f6, f7, f8, f9, f10, f11, hi']
    exact hQ ⟨_, _⟩ rfl (by simp [fr_apply, f0]) (by simp [fr_apply, f5]) (by simp [fr_apply, f6]) (by simp [fr_apply, f7]) (by simp [fr_apply, f8]) (by simp [fr_apply, f10]) (by simp [fr_apply, f9]) (by simp only [fr_apply, Nat.reduceEqDiff, if_false, f11, hn])
end Go.Proofs.YtnibelnjflhkgaaGreatDoor.Ab

namespace Go.Proofs.YtnibelnjflhkgaaGreatDoor.Ab
set_option linter.unusedVariables false
set_option linter.unusedSimpArgs false
set_option maxRecDepth 10000
attribute [local go_sem] decide_true decide_false Nat.zero_le Bool.not_true Bool.not_false Bool.false_eq_true if_false if_true forall_const true_and and_true List.map Option.map Bool.and_self Bool.and_true Bool.true_and Bool.false_and Bool.and_false List.getElem?_cons_zero List.getElem?_nil List.getElem?_cons_succ Int.natCast_nonneg Int.toNat_natCast List.length_map List.length_cons List.length_nil Nat.zero_add Nat.le_refl List.drop_zero List.drop_succ_cons List.take_succ_cons List.take_zero List.take_nil ne_eq not_true_eq_false not_false_eq_true upd_same Nat.add_assoc Nat.left_eq_add Nat.add_eq_left Nat.add_left_cancel_iff Nat.succ_ne_self Nat.one_ne_zero Nat.add_zero Nat.le_add_right ite_self List.set_cons_zero List.set_cons_succ List.all_cons List.all_nil bne_self_eq_false List.isEmpty_cons Int.cast_ofNat_Int Nat.mul_one List.nil_append or_self or_true true_or List.cons_append List.append_nil Option.none_beq_some Option.some_beq_some beq_self_eq_true
theorem pre_eq (s m : List UInt8) (p : Nat) (h : p + m.length ≤ s.length) : ((s.drop p).take m.length == m) = m.isPrefixOf (s.drop p) := by
  rw [Bool.eq_iff_iff, beq_iff_eq, List.isPrefixOf_iff_prefix, List.prefix_iff_eq_take]
  exact ⟨fun h => h.symm, fun h => h.symm⟩
theorem pre_no (s m : List UInt8) (p : Nat) (hp : p ≤ s.length) (h : ¬ p + m.length ≤ s.length) : m.isPrefixOf (s.drop p) = false := by
  rw [Bool.eq_false_iff, ne_eq, List.isPrefixOf_iff_prefix]
  intro g
  have := g.length_le
  rw [List.length_drop] at this
  omega
set_option maxHeartbeats 1000000 in
theorem fnr_l5 {Q : AX → ASt → Prop} {s0 : ASt} (s : List UInt8) (hs : s.length < 1000000000) (p : Nat) (hp : p ≤ s.length) (v5 v8 : AV) (b : Nat) (h0 : s0.fr 0 = .str s) (h5 : s0.fr 5 = v5) (h6 : s0.fr 6 = .sl .own 1 (marksR.map AV.str)) (h7 : s0.fr 7 = .int .i64 (p : Nat)) (h8 : s0.fr 8 = v8) (h9 : s0.fr 9 = .int .i64 (p : Nat)) (h10 : s0.fr 10 = .ptr b 0) (h12 : s0.fr 12 = .int .i64 0) (hb : s0.hp.bk b = .cells [.int .i64 0, .str [], .int .i64 0, .int .i64 (p : Nat)])
    (hQ0 : marksR.find? (·.isPrefixOf (s.drop p)) = none → ∀ t : ASt, t.hp = s0.hp → t.fr 0 = .str s → t.fr 5 = v5 → t.fr 6 = .sl .own 1 (marksR.map AV.str) → t.fr 7 = .int .i64 (p : Nat) → t.fr 8 = v8 → t.fr 9 = .int .i64 (p : Nat) → t.fr 10 = .ptr b 0 → Q (.exit 5) t)
    (hQ1 : ∀ m, marksR.find? (·.isPrefixOf (s.drop p)) = some m → ∀ t : ASt, t.hp = ⟨s0.hp.n, updB s0.hp.bk b (.cells [.int .i64 4, .str m, .int .i64 0, .int .i64 (p : Nat)])⟩ → t.fr 0 = .str s → t.fr 5 = v5 → t.fr 6 = .sl .own 1 (marksR.map AV.str) → t.fr 7 = .int .i64 (p : Nat) → t.fr 8 = v8 → t.fr 9 = .int .i64 ((p + m.length : Nat) : Int) → t.fr 10 = .ptr b 0 → Q (.exit 5) t) : CLoop Tryz.prog ((.seq (.seq (.ops [(none, (.cp 58 12)), (none, (.cp 59 6)), (none, (.len (some 60) (.t 59) false true)), (none, (.bin (some 61) .lss (.t 58) (.t 60) false false)), (none, (.cp 62 61)), ((some (62, true)), (.fa (some 63) (.t 10) 0)), ((some (62, true)), (.ld (some 64) (.t 63) (.one none))), ((some (62, true)), (.bin (some 65) .eql (.t 64) (.k (.int .i64 0)) false false)), (none, (.pick (some 66) (.t 62) (.t 65) (.k (.bool false))))]) (.cond (.t 66) .skip (.exit 5))) (.seq (.block 6 (.seq (.ops [(none, (.cp 69 6)), (none, (.cp 70 12)), (none, (.ia (some 71) (.t 69) (.t 70) (some 1) none)), (none, (.ld (some 72) (.t 71) (.one none))), (none, (.len (some 73) (.t 72) true false)), (none, (.mv 13 73))]) (.seq (.opsD [(none, (.cp 74 7)), (none, (.cp 75 13)), (none, (.bin (some 76) .add (.t 74) (.t 75) false false)), (none, (.cp 77 0)), (none, (.len (some 78) (.t 77) true false)), (none, (.bin (some 79) .leq (.t 76) (.t 78) false false)), (none, (.cp 80 79)), ((some (80, true)), (.cp 81 0)), ((some (80, true)), (.cp 82 7)), ((some (80, true)), (.cp 83 7)), ((some (80, true)), (.cp 84 13)), ((some (80, true)), (.bin (some 85) .add (.t 83) (.t 84) false false)), ((some (80, true)), (.sl (some 86) (.t 81) (some (.t 82)) (some (.t 85)) none true none)), ((some (80, true)), (.cp 87 6)), ((some (80, true)), (.cp 88 12)), ((some (80, true)), (.ia (some 89) (.t 87) (.t 88) (some 1) none)), ((some (80, true)), (.ld (some 90) (.t 89) (.one none))), ((some (80, true)), (.bin (some 91) .eql (.t 86) (.t 90) false false)), (none, (.pick (some 92) (.t 80) (.t 91) (.k (.bool false))))]) (.cond (.t 92) (.opsT (.one none (.cp 93 6) (.one none (.cp 94 12) (.one none (.ia (some 95) (.t 93) (.t 94) (some 1) none) (.one none (.cp 97 7) (.one none (.cp 98 13) (.one none (.bin (some 99) .add (.t 97) (.t 98) false false) (.one none (.fa (some 100) (.t 10) 0) (.alt none (.ld (some 96) (.t 95) (.one none)) (.one none (.st (.t 100) (.k (.int .i64 4)) 1) (.one none (.fa (some 101) (.t 10) 1) (.one none (.st (.t 101) (.t 96) 1) (.one none (.mv 9 99) .done)))) (.alt none (.st (.t 100) (.k (.int .i64 4)) 1) (.one none (.ld (some 96) (.t 95) (.one none)) (.one none (.fa (some 101) (.t 10) 1) (.one none (.st (.t 101) (.t 96) 1) (.one none (.mv 9 99) .done)))) .nil)))))))))) .skip)))) (.ops [(none, (.cp 67 12)), (none, (.bin (some 68) .add (.t 67) (.k (.int .i64 1)) false false)), (none, (.mv 12 68))])))) Q s0 := by
  have hl : marksR.length = 15 := rfl
  refine cloop (fun k t => ∃ i : Nat, i + k = 15 ∧ t.fr 0 = .str s ∧ t.fr 5 = v5 ∧ t.fr 6 = .sl .own 1 (marksR.map AV.str) ∧ t.fr 7 = .int .i64 (p : Nat) ∧ t.fr 8 = v8 ∧ t.fr 10 = .ptr b 0 ∧ t.fr 12 = .int .i64 (i : Nat) ∧
      ((marksR.find? (·.isPrefixOf (s.drop p)) = (marksR.drop i).find? (·.isPrefixOf (s.drop p)) ∧ t.fr 9 = .int .i64 (p : Nat) ∧ t.hp = s0.hp)
        ∨ ∃ m, marksR.find? (·.isPrefixOf (s.drop p)) = some m ∧ t.fr 9 = .int .i64 ((p + m.length : Nat) : Int) ∧ t.hp = ⟨s0.hp.n, updB s0.hp.bk b (.cells [.int .i64 4, .str m, .int .i64 0, .int .i64 (p : Nat)])⟩)) 15 ⟨0, rfl, h0, h5, h6, h7, h8, h10, h12, .inl ⟨rfl, h9, rfl⟩⟩ ?_
  clear h0 h5 h6 h7 h8 h9 h10 h12
  obtain ⟨F0, ⟨hn, hbk⟩⟩ := s0
  simp only at hb
  rintro k ⟨F, hp'⟩ ⟨i, hk, f0, f5, f6, f7, f8, f10, f12, hor⟩
  simp only at f0 f5 f6 f7 f8 f10 f12 hor
  by_cases hi : i < 15
  · have hi' : decide ((i : Int) < 15) = true := decide_eq_true (by omega)
    have hw : IntKind.i64.wrap ((i : Int) + 1) = ((i + 1 : Nat) : Int) := by rw [wrap64] <;> omega
    rcases hor with ⟨hf, f9, rfl⟩ | ⟨m, hf, f9, rfl⟩
    · have hx : marksR[i]? = some marksR[i] := List.getElem?_eq_getElem (by rw [hl]; exact hi)
      have hml : ∀ m ∈ marksR, m.length ≤ 2 := by decide
      have hm2 := hml marksR[i] (List.getElem_mem _)
      have hdr : marksR.drop i = marksR[i] :: marksR.drop (i + 1) := List.drop_eq_getElem_cons (by rw [hl]; exact hi)
      rw [hdr, List.find?_cons] at hf
      clear hdr
      generalize marksR[i] = m at hx hf hm2
      have hx' : (marksR.map AV.str)[i]? = some (.str m) := by rw [List.getElem?_map, hx]; rfl
      have w1 : IntKind.i64.wrap ((p : Int) + (m.length : Int)) = ((p + m.length : Nat) : Int) := by rw [wrap64] <;> omega
      by_cases hl2 : p + m.length ≤ s.length
      · have hl2' : decide (((p + m.length : Nat) : Int) ≤ (s.length : Int)) = true := decide_eq_true (by omega)
        have e := pre_eq s m p hl2
        rcases Bool.eq_false_or_eq_true (m.isPrefixOf (s.drop p)) with hm | hm
        · rw [hm] at e hf
          simp only [go_sem, Nat.reduceEqDiff, Nat.reduceAdd, Nat.reduceLeDiff, Nat.reduceLT, ↓reduceIte, reduceCtorEq, Int.reduceLT, Int.reduceToNat, Int.reduceEq, Int.reduceBEq, Int.reduceBNe, Nat.reduceBEq, f0, f5, f6, f7, f8, f9, f10, f12, hb, hl, hi', hx', w1, hl2', hl2, Nat.add_sub_cancel_left, e, hw]
          exact ⟨⟨k - 1, by omega, i + 1, by omega, rfl, .inr ⟨m, hf, rfl, rfl⟩⟩, ⟨k - 1, by omega, i + 1, by omega, rfl, .inr ⟨m, hf, rfl, rfl⟩⟩⟩
        · rw [hm] at e hf
          simp only [go_sem, Nat.reduceEqDiff, Nat.reduceAdd, Nat.reduceLeDiff, Nat.reduceLT, ↓reduceIte, reduceCtorEq, Int.reduceLT, Int.reduceToNat, Int.reduceEq, Int.reduceBEq, Int.reduceBNe, Nat.reduceBEq, f0, f5, f6, f7, f8, f9, f10, f12, hb, hl, hi', hx', w1, hl2', hl2, Nat.add_sub_cancel_left, e, hw]
          exact ⟨k - 1, by omega, i + 1, by omega, rfl, .inl hf⟩
      · have hl2' : decide (((p + m.length : Nat) : Int) ≤ (s.length : Int)) = false := decide_eq_false (by omega)
        have e := pre_no s m p hp hl2
        rw [e] at hf
        simp only [go_sem, Nat.reduceEqDiff, Nat.reduceAdd, Nat.reduceLeDiff, Nat.reduceLT, ↓reduceIte, reduceCtorEq, Int.reduceLT, Int.reduceToNat, Int.reduceEq, Int.reduceBEq, Int.reduceBNe, Nat.reduceBEq, f0, f5, f6, f7, f8, f9, f10, f12, hb, hl, hi', hx', w1, hl2', hw]
        exact ⟨k - 1, by omega, i + 1, by omega, rfl, .inl hf⟩
    · simp only [go_sem, Nat.reduceEqDiff, Nat.reduceAdd, Nat.reduceLeDiff, Nat.reduceLT, ↓reduceIte, reduceCtorEq, Int.reduceLT, Int.reduceToNat, Int.reduceEq, Int.reduceBEq, Int.reduceBNe, Nat.reduceBEq, f0, f5, f6, f7, f8, f9, f10, f12, hb, hl, hi']
      exact hQ1 m hf ⟨_, _⟩ rfl (by simp [fr_apply, f0]) (by simp [fr_apply, f5]) (by simp [fr_apply, f6]) (by simp [fr_apply, f7]) (by simp [fr_apply, f8]) (by simp [fr_apply, f9]) (by simp [fr_apply, f10])
  · have hi' : decide ((i : Int) < 15) = false := decide_eq_false (by omega)
    have e15 : i = 15 := by omega
    subst e15
    rcases hor with ⟨hf, f9, rfl⟩ | ⟨m, hf, f9, rfl⟩
    · simp only [go_sem, Nat.reduceEqDiff, Nat.reduceAdd, Nat.reduceLeDiff, Nat.reduceLT, ↓reduceIte, reduceCtorEq, Int.reduceLT, Int.reduceToNat, Int.reduceEq, Int.reduceBEq, Int.reduceBNe, Nat.reduceBEq, f0, f5, f6, f7, f8, f9, f10, f12, hb, hl, hi']
      exact hQ0 hf ⟨_, _⟩ rfl (by simp [fr_apply, f0]) (by simp [fr_apply, f5]) (by simp [fr_apply, f6]) (by simp [fr_apply, f7]) (by simp [fr_apply, f8]) (by simp [fr_apply, f9]) (by simp [fr_apply, f10])
    · simp only [go_sem, Nat.reduceEqDiff, Nat.reduceAdd, Nat.reduceLeDiff, Nat.reduceLT, ↓reduceIte, reduceCtorEq, Int.reduceLT, Int.reduceToNat, Int.reduceEq, Int.reduceBEq, Int.reduceBNe, Nat.reduceBEq, f0, f5, f6, f7, f8, f9, f10, f12, hb, hl, hi']
      exact hQ1 m hf ⟨_, _⟩ rfl (by simp [fr_apply, f0]) (by simp [fr_apply, f5]) (by simp [fr_apply, f6]) (by simp [fr_apply, f7]) (by simp [fr_apply, f8]) (by simp [fr_apply, f9]) (by simp [fr_apply, f10])
end Go.Proofs.YtnibelnjflhkgaaGreatDoor.Ab
