/- Numbers as bytes and back. -/
import Derived.Test.YthaoooohomfkcaaWw0
namespace Go.Proofs.Ythaoooohomfkcaa.Ab
set_option linter.unusedVariables false
set_option linter.unusedSimpArgs false
set_option maxRecDepth 10000
attribute [local go_sem] Nat.zero_le Bool.not_true Bool.not_false Bool.false_eq_true if_false if_true forall_const true_and and_true List.map Option.map Bool.and_self Bool.and_true Bool.true_and Bool.false_and Bool.and_false List.getElem?_cons_zero List.getElem?_nil List.getElem?_cons_succ Int.natCast_nonneg Int.toNat_natCast List.length_map List.length_cons List.length_nil Nat.zero_add Nat.le_refl List.drop_zero List.drop_succ_cons List.take_succ_cons List.take_zero List.take_nil ne_eq not_true_eq_false not_false_eq_true upd_same Nat.add_assoc Nat.left_eq_add Nat.add_eq_left Nat.add_left_cancel_iff Nat.succ_ne_self Nat.one_ne_zero Nat.add_zero Nat.le_add_right ite_self List.set_cons_zero List.set_cons_succ List.all_cons List.all_nil bne_self_eq_false List.isEmpty_cons Int.cast_ofNat_Int Nat.mul_one List.nil_append or_self or_true true_or List.cons_append List.append_nil Option.none_beq_some Option.some_beq_some beq_self_eq_true
theorem c37 : compF Try.prog ow Try.f37 = (some (10, ([(.t 2), (.t 3)], (.seq (.ops [(none, (.set 2 (.str []))), (none, (.set 3 (.int .i64 0)))]) (.seq (.seq (.ops [(none, (.cp 4 0)), (none, (.call (some 5) (.k (.func 84 [] [])) [(.t 4)] none)), (none, (.un (some 6) .not (.t 5)))]) (.cond (.t 6) (.seq (.ops [(none, (.set 2 (.str []))), (none, (.set 3 (.int .i64 1)))]) .ret) .skip)) (.seq (.ops [(none, (.cp 7 0)), (none, (.call (some 8) (.k (.func 85 [] [])) [(.k (.sl .full 1 [])), (.t 7)] (some 0))), (none, (.x (some 9) .bs [(.t 8)])), (none, (.mv 2 9)), (none, (.set 3 (.int .i64 0)))]) .ret)))))) := by kernel_rfl
theorem c44 : compF Try.prog ow Try.f44 = (some (20, ([(.t 2), (.t 3), (.t 4)], (.seq (.ops [(none, (.set 2 (.int .i64 0))), (none, (.set 3 (.str []))), (none, (.set 4 (.int .i64 0)))]) (.seq (.ops [(none, (.cp 6 0)), (none, (.bld (some 7) [(.str []), (.bool false)] [(0, 1), (1, 1)] [(0, (.t 6))])), (none, (.box 8 (.t 7))), (none, (.mv 5 8))]) (.seq (.seq (.ops [(none, (.cp 9 5)), (none, (.call (some 10) (.k (.func 89 [] [])) [(.t 9)] (some 100))), (none, (.mv 2 10))]) (.seq (.ops [(none, (.cp 11 5)), (none, (.nil (some 12) (.t 11))), (none, (.fa (some 13) (.t 12) 1)), (none, (.ld (some 14) (.t 13) (.one none)))]) (.cond (.t 14) (.seq (.ops [(none, (.set 2 (.int .i64 0))), (none, (.set 3 (.str []))), (none, (.set 4 (.int .i64 4)))]) .ret) .skip))) (.seq (.opsD [(none, (.mv 15 2)), (none, (.cp 16 5)), (none, (.nil (some 17) (.t 16))), (none, (.fa (some 18) (.t 17) 0)), (none, (.ld (some 19) (.t 18) (.one none))), (none, (.mv 2 15)), (none, (.mv 3 19)), (none, (.set 4 (.int .i64 0)))]) .ret))))))) := by kernel_rfl
theorem c45 : compF Try.prog ow Try.f45 = (some (21, ([(.t 2), (.t 3), (.t 4)], (.seq (.ops [(none, (.set 2 (.int .i64 0))), (none, (.set 3 (.str []))), (none, (.set 4 (.bool false)))]) (.seq (.ops [(none, (.cp 7 0)), (none, (.bld (some 8) [(.str []), (.bool false)] [(0, 1), (1, 1)] [(0, (.t 7))])), (none, (.box 9 (.t 8))), (none, (.mv 5 9))]) (.seq (.ops [(none, (.cp 10 5)), (none, (.call (some 11) (.k (.func 90 [] [])) [(.t 10)] (some 100))), (none, (.mv 6 11))]) (.seq (.seq (.ops [(none, (.cp 12 5)), (none, (.nil (some 13) (.t 12))), (none, (.fa (some 14) (.t 13) 1)), (none, (.ld (some 15) (.t 14) (.one none)))]) (.cond (.t 15) (.seq (.ops [(none, (.set 2 (.int .i64 0))), (none, (.set 3 (.str []))), (none, (.set 4 (.bool false)))]) .ret) .skip)) (.seq (.opsD [(none, (.mv 16 6)), (none, (.cp 17 5)), (none, (.nil (some 18) (.t 17))), (none, (.fa (some 19) (.t 18) 0)), (none, (.ld (some 20) (.t 19) (.one none))), (none, (.mv 2 16)), (none, (.mv 3 20)), (none, (.set 4 (.bool true)))]) .ret)))))))) := by kernel_rfl
def u8s (l : List Int) : List UInt8 := l.map fun n => UInt8.ofNat n.toNat
theorem bytesOf_u8 : ∀ l : List Int, bytesOf (l.map (AV.int .u8)) = some (u8s l)
  | [] => rfl
  | x :: l => by simp only [List.map_cons, bytesOf, bytesOf_u8 l]; rfl
def vbs (x : Nat) : List UInt8 := u8s (vb x)
theorem vbs_ge {x : Nat} (h : 128 ≤ x) : vbs x = UInt8.ofNat (x % 128 + 128) :: vbs (x / 128) := by
  unfold vbs; rw [vb_ge h]; simp only [u8s, List.map_cons, Int.toNat_natCast]
theorem vbs_lt {x : Nat} (h : x < 128) : vbs x = [UInt8.ofNat x] := by unfold vbs; rw [vb_lt h]; simp [u8s]
theorem of_lt {n : Nat} (h : n < 256) : (UInt8.ofNat n).toNat = n := by simp; omega
theorem digs_vbs : ∀ (k i x m : Nat) (rest : List UInt8), m < 128 ^ k → (0 < i → m ≠ 0) → 0 < k → digs k i x (vbs m ++ rest, false) = (x + m * 128 ^ i, true, (rest, false))
  | 0, i, x, m, rest, hm, hz, hk => by omega
  | k + 1, i, x, m, rest, hm, hz, _ => by
    by_cases h : 128 ≤ m
    · have h1 : (UInt8.ofNat (m % 128 + 128)).toNat = m % 128 + 128 := of_lt (by omega)
      have hk : 0 < k := by
        cases k with
        | zero => simp at hm; omega
        | succ k => omega
      rw [vbs_ge h]
      simp only [digs, List.cons_append, oneR, h1]
      rw [if_neg (by omega), digs_vbs k (i + 1) _ (m / 128) rest (by rw [Nat.pow_succ] at hm; omega) (fun _ => by omega) hk]
      have h2 : (m % 128 + 128) % 128 = m % 128 := by omega
      have h3 : m % 128 * 128 ^ i + m / 128 * 128 ^ (i + 1) = m * 128 ^ i := by
        have : m / 128 * 128 ^ (i + 1) = (128 * (m / 128)) * 128 ^ i := by rw [Nat.pow_succ]; ac_rfl
        rw [this, ← Nat.add_mul]; congr 1; omega
      rw [h2, Nat.add_assoc, h3]
    · have hl : m < 128 := by omega
      have h1 : (UInt8.ofNat m).toNat = m := of_lt (by omega)
      rw [vbs_lt hl]
      simp only [digs, List.cons_append, List.nil_append, oneR, h1]
      rw [if_pos hl, Nat.mod_eq_of_lt hl]
      have : (decide (0 < i) && m == 0) = false := by
        by_cases hi : 0 < i
        · simp [hi, hz hi]
        · simp [hi]
      rw [this]; rfl
theorem okN_iff (n : Int) : okN n = true ↔ -1073741824 ≤ n ∧ n ≤ 1073741824 := by simp [okN, betw]
theorem zz_le {n : Int} (h : okN n = true) : zz n ≤ 2147483648 := by
  rw [okN_iff] at h; unfold zz; split <;> omega
theorem numV_zz (n : Int) : numV (zz n) = n := by unfold numV zz; split <;> split <;> omega
theorem numP_vbs {n : Int} (h : okN n = true) (rest : List UInt8) : numP (vbs (zz n) ++ rest, false) = (n, (rest, false)) := by
  have h1 := zz_le h
  have h5 : (128 : Nat) ^ 5 = 34359738368 := by decide
  unfold numP
  rw [digs_vbs 5 0 0 (zz n) rest (by omega) (fun h => absurd h (Nat.lt_irrefl _)) (by omega)]
  simp [numV_zz, h]
theorem fn_wNumber (n : Int) : PFn Try.prog 37 [.int .i64 n] (.tup (if okN n then [.str (vbs (zz n)), .int .i64 0] else [.str [], .int .i64 1])) := by
  intro h
  refine fnC mixed Try.func37 c37 (by simp) ?_
  simp only [go_sem, Nat.reduceEqDiff, Nat.reduceAdd, Nat.reduceLeDiff, Nat.reduceLT, ↓reduceIte, reduceCtorEq, Int.reduceLT, Int.reduceToNat, Int.reduceEq, Int.reduceBEq, Int.reduceBNe, Nat.reduceBEq]
  refine pcall (fn_Number n) (by simp only [go_sem, Nat.reduceEqDiff, Nat.reduceAdd, Nat.reduceLeDiff, Nat.reduceLT, ↓reduceIte, reduceCtorEq, Int.reduceLT, Int.reduceToNat, Int.reduceEq, Int.reduceBEq, Int.reduceBNe, Nat.reduceBEq]) ?_
  simp only [go_sem, Nat.reduceEqDiff, Nat.reduceAdd, Nat.reduceLeDiff, Nat.reduceLT, ↓reduceIte, reduceCtorEq, Int.reduceLT, Int.reduceToNat, Int.reduceEq, Int.reduceBEq, Int.reduceBNe, Nat.reduceBEq]
  refine cif (fun h1 => ?_) (fun h1 => ?_)
  · have e : okN n = false := by simpa [okN] using h1
    rw [e]
    simp only [go_sem, Nat.reduceEqDiff, Nat.reduceAdd, Nat.reduceLeDiff, Nat.reduceLT, ↓reduceIte, reduceCtorEq, Int.reduceLT, Int.reduceToNat, Int.reduceEq, Int.reduceBEq, Int.reduceBNe, Nat.reduceBEq]
  · have e : okN n = true := by simpa [okN] using h1
    have e2 := (okN_iff n).1 e
    rw [e]
    simp only [go_sem, Nat.reduceEqDiff, Nat.reduceAdd, Nat.reduceLeDiff, Nat.reduceLT, ↓reduceIte, reduceCtorEq, Int.reduceLT, Int.reduceToNat, Int.reduceEq, Int.reduceBEq, Int.reduceBNe, Nat.reduceBEq]
    have hp := fn_put .full (by simp) [] n (by simp) (by omega) (by omega)
    simp only [List.map, List.nil_append] at hp
    refine pcall hp (by simp only [go_sem, Nat.reduceEqDiff, Nat.reduceAdd, Nat.reduceLeDiff, Nat.reduceLT, ↓reduceIte, reduceCtorEq, Int.reduceLT, Int.reduceToNat, Int.reduceEq, Int.reduceBEq, Int.reduceBNe, Nat.reduceBEq]) ?_
    have hb := bytesOf_u8 (vb (zz n))
    simp only [go_sem, Nat.reduceEqDiff, Nat.reduceAdd, Nat.reduceLeDiff, Nat.reduceLT, ↓reduceIte, reduceCtorEq, Int.reduceLT, Int.reduceToNat, Int.reduceEq, Int.reduceBEq, Int.reduceBNe, Nat.reduceBEq, hb]
    rfl
theorem fn_rNumber (n : Int) (h0 : -2147483648 ≤ n) (h1 : n ≤ 2147483648) : PFn Try.prog 39 [.int .i64 n] (.str (vbs (zz n))) := by
  intro h
  refine fnC mixed Try.func39 c39 (by simp) ?_
  have nz : ¬ ((128 : Int) = 0) := by omega
  have w1 : IntKind.i64.wrap (2 * n) = 2 * n := by rw [wrap64] <;> omega
  have w2 : IntKind.i64.wrap (-2 * n) = -2 * n := by rw [wrap64] <;> omega
  have w3 : IntKind.i64.wrap (-2 * n - 1) = -2 * n - 1 := by rw [wrap64] <;> omega
  by_cases hn : n < 0
  · have d1 : decide (n < 0) = true := by simpa using hn
    have z1 : -2 * n - 1 = ((zz n : Nat) : Int) := by unfold zz; rw [if_pos hn]; omega
    simp only [go_sem, Nat.reduceEqDiff, Nat.reduceAdd, Nat.reduceLeDiff, Nat.reduceLT, ↓reduceIte, reduceCtorEq, Int.reduceLT, Int.reduceToNat, Int.reduceEq, Int.reduceBEq, Int.reduceBNe, Nat.reduceBEq, w1, w2, w3, d1]
    rw [z1]
    have hz : zz n ≤ 8589934592 := by unfold zz; split <;> omega
    refine cloop (fun k t => ∃ (fl' : Fl) (cs : List Int), fl' ≠ .sh ∧ t.fr 4 = .sl fl' 1 (cs.map (AV.int .u8)) ∧ t.fr 3 = .int .i64 (k : Nat) ∧ cs ++ vb k = vb (zz n) ∧ cs.length + k ≤ zz n ∧ t.hp = h) (zz n) ⟨.full, [], by simp [fr_apply, argsF]⟩ ?_
    rintro x ⟨f, hp⟩ ⟨fl', cs, hfl, f4, f3, he, hle, rfl⟩
    simp only at f4 f3
    have hA : (cs.length + 1) * 1 ≤ 140737488355328 := by omega
    have hA' : cs.length + 1 ≤ 140737488355328 := by omega
    have hA2 : cs.length ≤ 9223372036854775806 := by omega
    by_cases hx : 128 ≤ x
    · have hx' : decide ((x : Int) ≥ 128) = true := by simp; omega
      rw [vb_ge hx] at he
      have hd : ((x : Int)).tdiv 128 = ((x / 128 : Nat) : Int) := by rw [Int.tdiv_eq_ediv_of_nonneg (by omega)]; omega
      have hd2 : IntKind.i64.wrap ((x / 128 : Nat) : Int) = ((x / 128 : Nat) : Int) := by rw [wrap64] <;> omega
      have hm : ((x : Int)).tmod 128 = ((x % 128 : Nat) : Int) := by rw [Int.tmod_eq_emod_of_nonneg (by omega)]; omega
      have ha : IntKind.i64.wrap (((x % 128 : Nat) : Int) + 128) = ((x % 128 + 128 : Nat) : Int) := by rw [wrap64] <;> omega
      have hw : IntKind.u8.wrap ((x % 128 + 128 : Nat) : Int) = ((x % 128 + 128 : Nat) : Int) := by rw [wrap8] <;> omega
      cases fl' with
      | sh => exact absurd rfl hfl
      | own =>
        simp only [go_sem, Nat.reduceEqDiff, Nat.reduceAdd, Nat.reduceLeDiff, Nat.reduceLT, ↓reduceIte, reduceCtorEq, Int.reduceLT, Int.reduceToNat, Int.reduceEq, Int.reduceBEq, Int.reduceBNe, Nat.reduceBEq, f4, f3, hx', hd, hd2, hm, ha, hw, hA, hA', hA2]
        refine ⟨x / 128, by omega, .own, cs ++ [((x % 128 + 128 : Nat) : Int)], by simp, by simp, rfl, by simpa using he, by simp; omega⟩
      | full =>
        simp only [go_sem, Nat.reduceEqDiff, Nat.reduceAdd, Nat.reduceLeDiff, Nat.reduceLT, ↓reduceIte, reduceCtorEq, Int.reduceLT, Int.reduceToNat, Int.reduceEq, Int.reduceBEq, Int.reduceBNe, Nat.reduceBEq, f4, f3, hx', hd, hd2, hm, ha, hw, hA, hA', hA2]
        refine ⟨x / 128, by omega, .own, cs ++ [((x % 128 + 128 : Nat) : Int)], by simp, by simp, rfl, by simpa using he, by simp; omega⟩
    · have hx' : decide ((x : Int) ≥ 128) = false := by simp; omega
      rw [vb_lt (by omega)] at he
      have hw : IntKind.u8.wrap (x : Int) = (x : Int) := by rw [wrap8] <;> omega
      have hb : bytesOf (cs.map (AV.int .u8) ++ [.int .u8 (x : Int)]) = some (vbs (zz n)) := by
        have := bytesOf_u8 (cs ++ [(x : Int)])
        rw [List.map_append] at this
        unfold vbs; rw [← he]; exact this
      cases fl' with
      | sh => exact absurd rfl hfl
      | own =>
        simp only [go_sem, Nat.reduceEqDiff, Nat.reduceAdd, Nat.reduceLeDiff, Nat.reduceLT, ↓reduceIte, reduceCtorEq, Int.reduceLT, Int.reduceToNat, Int.reduceEq, Int.reduceBEq, Int.reduceBNe, Nat.reduceBEq, f4, f3, hx', hw, hA, hA', hA2, hb]
      | full =>
        simp only [go_sem, Nat.reduceEqDiff, Nat.reduceAdd, Nat.reduceLeDiff, Nat.reduceLT, ↓reduceIte, reduceCtorEq, Int.reduceLT, Int.reduceToNat, Int.reduceEq, Int.reduceBEq, Int.reduceBNe, Nat.reduceBEq, f4, f3, hx', hw, hA, hA', hA2, hb]
  · have d1 : decide (n < 0) = false := by simpa using hn
    have z1 : 2 * n = ((zz n : Nat) : Int) := by unfold zz; rw [if_neg hn]; omega
    simp only [go_sem, Nat.reduceEqDiff, Nat.reduceAdd, Nat.reduceLeDiff, Nat.reduceLT, ↓reduceIte, reduceCtorEq, Int.reduceLT, Int.reduceToNat, Int.reduceEq, Int.reduceBEq, Int.reduceBNe, Nat.reduceBEq, w1, w2, w3, d1]
    rw [z1]
    have hz : zz n ≤ 8589934592 := by unfold zz; split <;> omega
    refine cloop (fun k t => ∃ (fl' : Fl) (cs : List Int), fl' ≠ .sh ∧ t.fr 4 = .sl fl' 1 (cs.map (AV.int .u8)) ∧ t.fr 3 = .int .i64 (k : Nat) ∧ cs ++ vb k = vb (zz n) ∧ cs.length + k ≤ zz n ∧ t.hp = h) (zz n) ⟨.full, [], by simp [fr_apply, argsF]⟩ ?_
    rintro x ⟨f, hp⟩ ⟨fl', cs, hfl, f4, f3, he, hle, rfl⟩
    simp only at f4 f3
    have hA : (cs.length + 1) * 1 ≤ 140737488355328 := by omega
    have hA' : cs.length + 1 ≤ 140737488355328 := by omega
    have hA2 : cs.length ≤ 9223372036854775806 := by omega
    by_cases hx : 128 ≤ x
    · have hx' : decide ((x : Int) ≥ 128) = true := by simp; omega
      rw [vb_ge hx] at he
      have hd : ((x : Int)).tdiv 128 = ((x / 128 : Nat) : Int) := by rw [Int.tdiv_eq_ediv_of_nonneg (by omega)]; omega
      have hd2 : IntKind.i64.wrap ((x / 128 : Nat) : Int) = ((x / 128 : Nat) : Int) := by rw [wrap64] <;> omega
      have hm : ((x : Int)).tmod 128 = ((x % 128 : Nat) : Int) := by rw [Int.tmod_eq_emod_of_nonneg (by omega)]; omega
      have ha : IntKind.i64.wrap (((x % 128 : Nat) : Int) + 128) = ((x % 128 + 128 : Nat) : Int) := by rw [wrap64] <;> omega
      have hw : IntKind.u8.wrap ((x % 128 + 128 : Nat) : Int) = ((x % 128 + 128 : Nat) : Int) := by rw [wrap8] <;> omega
      cases fl' with
      | sh => exact absurd rfl hfl
      | own =>
        simp only [go_sem, Nat.reduceEqDiff, Nat.reduceAdd, Nat.reduceLeDiff, Nat.reduceLT, ↓reduceIte, reduceCtorEq, Int.reduceLT, Int.reduceToNat, Int.reduceEq, Int.reduceBEq, Int.reduceBNe, Nat.reduceBEq, f4, f3, hx', hd, hd2, hm, ha, hw, hA, hA', hA2]
        refine ⟨x / 128, by omega, .own, cs ++ [((x % 128 + 128 : Nat) : Int)], by simp, by simp, rfl, by simpa using he, by simp; omega⟩
      | full =>
        simp only [go_sem, Nat.reduceEqDiff, Nat.reduceAdd, Nat.reduceLeDiff, Nat.reduceLT, ↓reduceIte, reduceCtorEq, Int.reduceLT, Int.reduceToNat, Int.reduceEq, Int.reduceBEq, Int.reduceBNe, Nat.reduceBEq, f4, f3, hx', hd, hd2, hm, ha, hw, hA, hA', hA2]
        refine ⟨x / 128, by omega, .own, cs ++ [((x % 128 + 128 : Nat) : Int)], by simp, by simp, rfl, by simpa using he, by simp; omega⟩
    · have hx' : decide ((x : Int) ≥ 128) = false := by simp; omega
      rw [vb_lt (by omega)] at he
      have hw : IntKind.u8.wrap (x : Int) = (x : Int) := by rw [wrap8] <;> omega
      have hb : bytesOf (cs.map (AV.int .u8) ++ [.int .u8 (x : Int)]) = some (vbs (zz n)) := by
        have := bytesOf_u8 (cs ++ [(x : Int)])
        rw [List.map_append] at this
        unfold vbs; rw [← he]; exact this
      cases fl' with
      | sh => exact absurd rfl hfl
      | own =>
        simp only [go_sem, Nat.reduceEqDiff, Nat.reduceAdd, Nat.reduceLeDiff, Nat.reduceLT, ↓reduceIte, reduceCtorEq, Int.reduceLT, Int.reduceToNat, Int.reduceEq, Int.reduceBEq, Int.reduceBNe, Nat.reduceBEq, f4, f3, hx', hw, hA, hA', hA2, hb]
      | full =>
        simp only [go_sem, Nat.reduceEqDiff, Nat.reduceAdd, Nat.reduceLeDiff, Nat.reduceLT, ↓reduceIte, reduceCtorEq, Int.reduceLT, Int.reduceToNat, Int.reduceEq, Int.reduceBEq, Int.reduceBNe, Nat.reduceBEq, f4, f3, hx', hw, hA, hA', hA2, hb]
theorem shrink_new (h : Hp) (b : Blk) (r : Rd) : Shrink h (Hp.rd ⟨h.n + 1, updB h.bk h.n b⟩ h.n r) h := by
  refine ⟨Nat.le_refl _, Nat.le_succ _, fun l hl => ?_⟩
  have : ¬ l = h.n := by omega
  simp only [Hp.rd, bk_apply, this, if_false]
  exact ⟨trivial, .inl ⟨hl, trivial⟩⟩
theorem fn_TakeNumber (s : List UInt8) : PFn Try.prog 44 [.str s] (.tup (if (numP (s, false)).2.2 then [.int .i64 0, .str [], .int .i64 4] else [.int .i64 (numP (s, false)).1, .str (numP (s, false)).2.1, .int .i64 0])) := by
  intro h
  refine fnC mixed Try.func44 c44 (by simp) ?_
  simp only [go_sem, Nat.reduceEqDiff, Nat.reduceAdd, Nat.reduceLeDiff, Nat.reduceLT, ↓reduceIte, reduceCtorEq, Int.reduceLT, Int.reduceToNat, Int.reduceEq, Int.reduceBEq, Int.reduceBNe, Nat.reduceBEq]
  refine ccall (fn_number (s, false) h.n ⟨h.n + 1, updB h.bk h.n (.cells [.str s, .bool false])⟩ (by simp) (by simp [bk_apply, rdB])) (by simp only [go_sem, Nat.reduceEqDiff, Nat.reduceAdd, Nat.reduceLeDiff, Nat.reduceLT, ↓reduceIte, reduceCtorEq, Int.reduceLT, Int.reduceToNat, Int.reduceEq, Int.reduceBEq, Int.reduceBNe, Nat.reduceBEq]) ?_
  generalize numP (s, false) = w
  obtain ⟨n, s', b⟩ := w
  cases b with
  | true =>
    simp only [go_sem, Nat.reduceEqDiff, Nat.reduceAdd, Nat.reduceLeDiff, Nat.reduceLT, ↓reduceIte, reduceCtorEq, Int.reduceLT, Int.reduceToNat, Int.reduceEq, Int.reduceBEq, Int.reduceBNe, Nat.reduceBEq, rd_bk, rd_n]
    exact shrink_new _ _ _
  | false =>
    simp only [go_sem, Nat.reduceEqDiff, Nat.reduceAdd, Nat.reduceLeDiff, Nat.reduceLT, ↓reduceIte, reduceCtorEq, Int.reduceLT, Int.reduceToNat, Int.reduceEq, Int.reduceBEq, Int.reduceBNe, Nat.reduceBEq, rd_bk, rd_n]
    exact shrink_new _ _ _
theorem fn_rTakeNumber (s : List UInt8) : PFn Try.prog 45 [.str s] (.tup (if (numQ (s, false)).2.2 then [.int .i64 0, .str [], .bool false] else [.int .i64 (numQ (s, false)).1, .str (numQ (s, false)).2.1, .bool true])) := by
  intro h
  refine fnC mixed Try.func45 c45 (by simp) ?_
  simp only [go_sem, Nat.reduceEqDiff, Nat.reduceAdd, Nat.reduceLeDiff, Nat.reduceLT, ↓reduceIte, reduceCtorEq, Int.reduceLT, Int.reduceToNat, Int.reduceEq, Int.reduceBEq, Int.reduceBNe, Nat.reduceBEq]
  refine ccall (fn_rnumber (s, false) h.n ⟨h.n + 1, updB h.bk h.n (.cells [.str s, .bool false])⟩ (by simp) (by simp [bk_apply, rdB])) (by simp only [go_sem, Nat.reduceEqDiff, Nat.reduceAdd, Nat.reduceLeDiff, Nat.reduceLT, ↓reduceIte, reduceCtorEq, Int.reduceLT, Int.reduceToNat, Int.reduceEq, Int.reduceBEq, Int.reduceBNe, Nat.reduceBEq]) ?_
  generalize numQ (s, false) = w
  obtain ⟨n, s', b⟩ := w
  cases b with
  | true =>
    simp only [go_sem, Nat.reduceEqDiff, Nat.reduceAdd, Nat.reduceLeDiff, Nat.reduceLT, ↓reduceIte, reduceCtorEq, Int.reduceLT, Int.reduceToNat, Int.reduceEq, Int.reduceBEq, Int.reduceBNe, Nat.reduceBEq, rd_bk, rd_n]
    exact shrink_new _ _ _
  | false =>
    simp only [go_sem, Nat.reduceEqDiff, Nat.reduceAdd, Nat.reduceLeDiff, Nat.reduceLT, ↓reduceIte, reduceCtorEq, Int.reduceLT, Int.reduceToNat, Int.reduceEq, Int.reduceBEq, Int.reduceBNe, Nat.reduceBEq, rd_bk, rd_n]
    exact shrink_new _ _ _
end Go.Proofs.Ythaoooohomfkcaa.Ab
