/- Numbers as bytes. -/
import Derived.Test.YthaoooohomfkcaaWw3
namespace Go.Proofs.Ythaoooohomfkcaa.Ab
set_option linter.unusedVariables false
set_option linter.unusedSimpArgs false
set_option maxRecDepth 10000
attribute [local go_sem] Nat.zero_le Bool.not_true Bool.not_false Bool.false_eq_true if_false if_true forall_const true_and and_true List.map Option.map Bool.and_self Bool.and_true Bool.true_and Bool.false_and Bool.and_false List.getElem?_cons_zero List.getElem?_nil List.getElem?_cons_succ Int.natCast_nonneg Int.toNat_natCast List.length_map List.length_cons List.length_nil Nat.zero_add Nat.le_refl List.drop_zero List.drop_succ_cons List.take_succ_cons List.take_zero List.take_nil ne_eq not_true_eq_false not_false_eq_true upd_same Nat.add_assoc Nat.left_eq_add Nat.add_eq_left Nat.add_left_cancel_iff Nat.succ_ne_self Nat.one_ne_zero Nat.add_zero Nat.le_add_right ite_self List.set_cons_zero List.set_cons_succ List.all_cons List.all_nil bne_self_eq_false List.isEmpty_cons Int.cast_ofNat_Int Nat.mul_one List.nil_append or_self or_true true_or List.cons_append List.append_nil Option.none_beq_some Option.some_beq_some beq_self_eq_true
theorem c85 : compF Try.prog ow Try.f85 = (some (31, ([(.t 4)], (.seq (.ops [(none, (.set 4 (.sl .full 1 [])))]) (.seq (.ops [(none, (.cp 6 1)), (none, (.cvt (some 7) (.t 6) (some .u64) false false)), (none, (.bin (some 8) .shl (.t 7) (.k (.int .u64 1)) false false)), (none, (.mv 5 8))]) (.seq (.seq (.ops [(none, (.cp 9 1)), (none, (.bin (some 10) .lss (.t 9) (.k (.int .i64 0)) false false))]) (.cond (.t 10) (.ops [(none, (.cp 11 1)), (none, (.un (some 12) .neg (.t 11))), (none, (.cvt (some 13) (.t 12) (some .u64) false false)), (none, (.bin (some 14) .shl (.t 13) (.k (.int .u64 1)) false false)), (none, (.bin (some 15) .sub (.t 14) (.k (.int .u64 1)) false false)), (none, (.mv 5 15))]) .skip)) (.seq (.block 0 (.loop (.seq (.seq (.ops [(none, (.cp 16 5)), (none, (.bin (some 17) .geq (.t 16) (.k (.int .u64 128)) false false))]) (.cond (.t 17) .skip (.exit 0))) (.seq (.block 1 (.ops [(none, (.mv 20 0)), (none, (.cp 21 5)), (none, (.cvt (some 22) (.t 21) (some .u8) false false)), (none, (.bin (some 23) .or (.t 22) (.k (.int .u8 128)) false false)), (none, (.bs 24 1 [(.t 23)])), (none, (.app 25 (.t 20) (.t 24) 1 1 true true)), (none, (.mv 0 25))])) (.ops [(none, (.cp 18 5)), (none, (.bin (some 19) .shr (.t 18) (.k (.int .u64 7)) false false)), (none, (.mv 5 19))]))))) (.seq (.ops [(none, (.mv 26 0)), (none, (.cp 27 5)), (none, (.cvt (some 28) (.t 27) (some .u8) false false)), (none, (.bs 29 1 [(.t 28)])), (none, (.app 30 (.t 26) (.t 29) 1 1 true true)), (none, (.mv 4 30))]) .ret)))))))) := by kernel_rfl
theorem c39 : compF Try.prog ow Try.f39 = (some (29, ([(.t 2)], (.seq (.ops [(none, (.set 2 (.str [])))]) (.seq (.ops [(none, (.cp 5 0)), (none, (.bin (some 6) .mul (.k (.int .i64 2)) (.t 5) false false)), (none, (.mv 3 6))]) (.seq (.seq (.ops [(none, (.cp 7 0)), (none, (.bin (some 8) .lss (.t 7) (.k (.int .i64 0)) false false))]) (.cond (.t 8) (.ops [(none, (.cp 9 0)), (none, (.bin (some 10) .mul (.k (.int .i64 (-2))) (.t 9) false false)), (none, (.bin (some 11) .sub (.t 10) (.k (.int .i64 1)) false false)), (none, (.mv 3 11))]) .skip)) (.seq (.ops [(none, (.set 4 (.sl .full 1 [])))]) (.seq (.block 0 (.loop (.seq (.seq (.ops [(none, (.cp 12 3)), (none, (.bin (some 13) .geq (.t 12) (.k (.int .i64 128)) false false))]) (.cond (.t 13) .skip (.exit 0))) (.block 1 (.seq (.ops [(none, (.mv 14 4)), (none, (.cp 15 3)), (none, (.bin (some 16) .rem (.t 15) (.k (.int .i64 128)) false false)), (none, (.bin (some 17) .add (.t 16) (.k (.int .i64 128)) false false)), (none, (.cvt (some 18) (.t 17) (some .u8) false false)), (none, (.bs 19 1 [(.t 18)])), (none, (.app 20 (.t 14) (.t 19) 1 1 true true)), (none, (.mv 4 20))]) (.ops [(none, (.cp 21 3)), (none, (.bin (some 22) .quo (.t 21) (.k (.int .i64 128)) false false)), (none, (.mv 3 22))])))))) (.seq (.ops [(none, (.mv 23 4)), (none, (.cp 24 3)), (none, (.cvt (some 25) (.t 24) (some .u8) false false)), (none, (.bs 26 1 [(.t 25)])), (none, (.app 27 (.t 23) (.t 26) 1 1 true true)), (none, (.x (some 28) .bs [(.t 27)])), (none, (.mv 2 28))]) .ret))))))))) := by kernel_rfl
def vb (x : Nat) : List Int := if h : 128 ≤ x then ((x % 128 + 128 : Nat) : Int) :: vb (x / 128) else [(x : Int)]
termination_by x
decreasing_by omega
theorem vb_ge {x : Nat} (h : 128 ≤ x) : vb x = ((x % 128 + 128 : Nat) : Int) :: vb (x / 128) := by rw [vb]; simp [h]
theorem vb_lt {x : Nat} (h : x < 128) : vb x = [(x : Int)] := by rw [vb]; simp [show ¬ 128 ≤ x by omega]
def zz (n : Int) : Nat := if n < 0 then (-2 * n - 1).toNat else (2 * n).toNat
theorem or128 (x : Nat) : bitI .or .u8 (IntKind.u8.wrap (x : Int)) 128 = ((x % 128 + 128 : Nat) : Int) := by
  have key : ∀ b : Fin 256, bitI .or .u8 ((b.val : Nat) : Int) 128 = ((b.val % 128 + 128 : Nat) : Int) := by decide +kernel
  have h1 : IntKind.u8.wrap (x : Int) = ((x % 256 : Nat) : Int) := by
    rw [IntKind.wrap_u8]; omega
  rw [h1, key ⟨x % 256, Nat.mod_lt _ (by omega)⟩]
  simp only
  omega
theorem fdiv128 (x : Nat) : ((x : Int)).fdiv (2 ^ (min 7 64)) = ((x / 128 : Nat) : Int) := by
  have : (2 : Int) ^ (min 7 64) = 128 := by decide
  rw [this, Int.fdiv_eq_ediv_of_nonneg _ (by omega)]; omega
theorem lab_ints (n : Nat) (k : IntKind) : ∀ l : List Int, labL n (l.map (AV.int k)) = true
  | [] => rfl
  | x :: l => by simp [labL, labOK, lab_ints n k l]
theorem fn_put (fl : Fl) (hf : fl ≠ .sh) (bs : List Int) (n : Int) (hb : bs.length < 1000000000) (h0 : -2147483648 ≤ n) (h1 : n ≤ 2147483648) :
    PFn Try.prog 85 [.sl fl 1 (bs.map (AV.int .u8)), .int .i64 n] (.sl .own 1 ((bs ++ vb (zz n)).map (AV.int .u8))) := by
  intro h
  refine fnC mixed Try.func85 c85 (by simp) ?_
  have m1 : (2 : Int) ^ (min 1 64) = 2 := by decide
  by_cases hn : n < 0
  · have e1 : decide (n < 0) = true := by simpa using hn
    have e2 : IntKind.i64.wrap (0 - n) = -n := by rw [wrap64] <;> omega
    have e3 : IntKind.u64.wrap (-n) = -n := wrapu _ (by omega) (by omega)
    have e4 : IntKind.u64.wrap (-n * 2) = -n * 2 := wrapu _ (by omega) (by omega)
    have e5 : IntKind.u64.wrap (-n * 2 - 1) = ((zz n : Nat) : Int) := by rw [wrapu _ (by omega) (by omega)]; unfold zz; rw [if_pos hn]; omega
    simp only [go_sem, Nat.reduceEqDiff, Nat.reduceAdd, Nat.reduceLeDiff, Nat.reduceLT, ↓reduceIte, reduceCtorEq, Int.reduceLT, Int.reduceToNat, Int.reduceEq, Int.reduceBEq, Int.reduceBNe, Nat.reduceBEq, m1, e1, e2, e3, e4, e5]
    refine cloop (fun k t => ∃ (fl' : Fl) (cs : List Int), fl' ≠ .sh ∧ t.fr 0 = .sl fl' 1 (cs.map (AV.int .u8)) ∧ t.fr 5 = .int .u64 (k : Nat) ∧ cs ++ vb k = bs ++ vb (zz n) ∧ cs.length + k ≤ bs.length + zz n ∧ t.hp = h) (zz n) ⟨fl, bs, hf, by simp [fr_apply, argsF]⟩ ?_
    rintro x ⟨f, hp⟩ ⟨fl', cs, hfl, f0, f5, he, hle, rfl⟩
    simp only at f0 f5
    have hz : zz n ≤ 8589934592 := by unfold zz; split <;> omega
    have hA : (cs.length + 1) * 1 ≤ 140737488355328 := by omega
    have hA' : cs.length + 1 ≤ 140737488355328 := by omega
    have hA2 : cs.length ≤ 9223372036854775806 := by omega
    by_cases hx : 128 ≤ x
    · have hx' : decide ((x : Int) ≥ 128) = true := by simp; omega
      rw [vb_ge hx] at he
      have hd := fdiv128 x
      have ho := or128 x
      cases fl' with
      | sh => exact absurd rfl hfl
      | own =>
        simp only [go_sem, Nat.reduceEqDiff, Nat.reduceAdd, Nat.reduceLeDiff, Nat.reduceLT, ↓reduceIte, reduceCtorEq, Int.reduceLT, Int.reduceToNat, Int.reduceEq, Int.reduceBEq, Int.reduceBNe, Nat.reduceBEq, f0, f5, hx', hd, ho, hA, hA', hA2]
        refine ⟨x / 128, by omega, .own, cs ++ [((x % 128 + 128 : Nat) : Int)], by simp, by simp, rfl, by simpa using he, by simp; omega⟩
      | full =>
        simp only [go_sem, Nat.reduceEqDiff, Nat.reduceAdd, Nat.reduceLeDiff, Nat.reduceLT, ↓reduceIte, reduceCtorEq, Int.reduceLT, Int.reduceToNat, Int.reduceEq, Int.reduceBEq, Int.reduceBNe, Nat.reduceBEq, f0, f5, hx', hd, ho, hA, hA', hA2]
        refine ⟨x / 128, by omega, .own, cs ++ [((x % 128 + 128 : Nat) : Int)], by simp, by simp, rfl, by simpa using he, by simp; omega⟩
    · have hx' : decide ((x : Int) ≥ 128) = false := by simp; omega
      rw [vb_lt (by omega)] at he
      have hw : IntKind.u8.wrap (x : Int) = (x : Int) := by rw [wrap8] <;> omega
      cases fl' with
      | sh => exact absurd rfl hfl
      | own =>
        simp only [go_sem, Nat.reduceEqDiff, Nat.reduceAdd, Nat.reduceLeDiff, Nat.reduceLT, ↓reduceIte, reduceCtorEq, Int.reduceLT, Int.reduceToNat, Int.reduceEq, Int.reduceBEq, Int.reduceBNe, Nat.reduceBEq, f0, f5, hx', hw, hA, hA', hA2]
        exact ⟨.inl (by rw [← he]; simp), lab_ints _ _ _⟩
      | full =>
        simp only [go_sem, Nat.reduceEqDiff, Nat.reduceAdd, Nat.reduceLeDiff, Nat.reduceLT, ↓reduceIte, reduceCtorEq, Int.reduceLT, Int.reduceToNat, Int.reduceEq, Int.reduceBEq, Int.reduceBNe, Nat.reduceBEq, f0, f5, hx', hw, hA, hA', hA2]
        exact ⟨.inl (by rw [← he]; simp), lab_ints _ _ _⟩
  · have e1 : decide (n < 0) = false := by simpa using hn
    have e3 : IntKind.u64.wrap n = n := wrapu _ (by omega) (by omega)
    have e4 : IntKind.u64.wrap (n * 2) = ((zz n : Nat) : Int) := by rw [wrapu _ (by omega) (by omega)]; unfold zz; rw [if_neg hn]; omega
    simp only [go_sem, Nat.reduceEqDiff, Nat.reduceAdd, Nat.reduceLeDiff, Nat.reduceLT, ↓reduceIte, reduceCtorEq, Int.reduceLT, Int.reduceToNat, Int.reduceEq, Int.reduceBEq, Int.reduceBNe, Nat.reduceBEq, m1, e1, e3, e4]
    refine cloop (fun k t => ∃ (fl' : Fl) (cs : List Int), fl' ≠ .sh ∧ t.fr 0 = .sl fl' 1 (cs.map (AV.int .u8)) ∧ t.fr 5 = .int .u64 (k : Nat) ∧ cs ++ vb k = bs ++ vb (zz n) ∧ cs.length + k ≤ bs.length + zz n ∧ t.hp = h) (zz n) ⟨fl, bs, hf, by simp [fr_apply, argsF]⟩ ?_
    rintro x ⟨f, hp⟩ ⟨fl', cs, hfl, f0, f5, he, hle, rfl⟩
    simp only at f0 f5
    have hz : zz n ≤ 8589934592 := by unfold zz; split <;> omega
    have hA : (cs.length + 1) * 1 ≤ 140737488355328 := by omega
    have hA' : cs.length + 1 ≤ 140737488355328 := by omega
    have hA2 : cs.length ≤ 9223372036854775806 := by omega
    by_cases hx : 128 ≤ x
    · have hx' : decide ((x : Int) ≥ 128) = true := by simp; omega
      rw [vb_ge hx] at he
      have hd := fdiv128 x
      have ho := or128 x
      cases fl' with
      | sh => exact absurd rfl hfl
      | own =>
        simp only [go_sem, Nat.reduceEqDiff, Nat.reduceAdd, Nat.reduceLeDiff, Nat.reduceLT, ↓reduceIte, reduceCtorEq, Int.reduceLT, Int.reduceToNat, Int.reduceEq, Int.reduceBEq, Int.reduceBNe, Nat.reduceBEq, f0, f5, hx', hd, ho, hA, hA', hA2]
        refine ⟨x / 128, by omega, .own, cs ++ [((x % 128 + 128 : Nat) : Int)], by simp, by simp, rfl, by simpa using he, by simp; omega⟩
      | full =>
        simp only [go_sem, Nat.reduceEqDiff, Nat.reduceAdd, Nat.reduceLeDiff, Nat.reduceLT, ↓reduceIte, reduceCtorEq, Int.reduceLT, Int.reduceToNat, Int.reduceEq, Int.reduceBEq, Int.reduceBNe, Nat.reduceBEq, f0, f5, hx', hd, ho, hA, hA', hA2]
        refine ⟨x / 128, by omega, .own, cs ++ [((x % 128 + 128 : Nat) : Int)], by simp, by simp, rfl, by simpa using he, by simp; omega⟩
    · have hx' : decide ((x : Int) ≥ 128) = false := by simp; omega
      rw [vb_lt (by omega)] at he
      have hw : IntKind.u8.wrap (x : Int) = (x : Int) := by rw [wrap8] <;> omega
      cases fl' with
      | sh => exact absurd rfl hfl
      | own =>
        simp only [go_sem, Nat.reduceEqDiff, Nat.reduceAdd, Nat.reduceLeDiff, Nat.reduceLT, ↓reduceIte, reduceCtorEq, Int.reduceLT, Int.reduceToNat, Int.reduceEq, Int.reduceBEq, Int.reduceBNe, Nat.reduceBEq, f0, f5, hx', hw, hA, hA', hA2]
        exact ⟨.inl (by rw [← he]; simp), lab_ints _ _ _⟩
      | full =>
        simp only [go_sem, Nat.reduceEqDiff, Nat.reduceAdd, Nat.reduceLeDiff, Nat.reduceLT, ↓reduceIte, reduceCtorEq, Int.reduceLT, Int.reduceToNat, Int.reduceEq, Int.reduceBEq, Int.reduceBNe, Nat.reduceBEq, f0, f5, hx', hw, hA, hA', hA2]
        exact ⟨.inl (by rw [← he]; simp), lab_ints _ _ _⟩
end Go.Proofs.Ythaoooohomfkcaa.Ab
