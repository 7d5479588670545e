/- The reader of bytes: numbers, by the page. -/
import Derived.Test.YthaoooohomfkcaaWw2
namespace Go.Proofs.Ythaoooohomfkcaa.Ab
set_option linter.unusedVariables false
set_option linter.unusedSimpArgs false
set_option maxRecDepth 10000
attribute [local go_sem] Nat.zero_le Bool.not_true Bool.not_false Bool.false_eq_true if_false if_true forall_const true_and and_true List.map Option.map Bool.and_self Bool.and_true Bool.true_and Bool.false_and Bool.and_false List.getElem?_cons_zero List.getElem?_nil List.getElem?_cons_succ Int.natCast_nonneg Int.toNat_natCast List.length_map List.length_cons List.length_nil Nat.zero_add Nat.le_refl List.drop_zero List.drop_succ_cons List.take_succ_cons List.take_zero List.take_nil ne_eq not_true_eq_false not_false_eq_true upd_same Nat.add_assoc Nat.left_eq_add Nat.add_eq_left Nat.add_left_cancel_iff Nat.succ_ne_self Nat.one_ne_zero Nat.add_zero Nat.le_add_right ite_self List.set_cons_zero List.set_cons_succ List.all_cons List.all_nil bne_self_eq_false List.isEmpty_cons Int.cast_ofNat_Int Nat.mul_one List.nil_append or_self or_true true_or List.cons_append List.append_nil Option.none_beq_some Option.some_beq_some beq_self_eq_true
theorem c90 : compF Try.prog ow Try.f90 = (some (69, ([(.t 2)], (.seq (.ops [(none, (.set 2 (.int .i64 0)))]) (.seq (.ops [(none, (.set 3 (.int .i64 0)))]) (.seq (.seq (.ops [(none, (.set 4 (.int .i64 0)))]) (.block 0 (.loop (.seq (.seq (.ops [(none, (.cp 7 4)), (none, (.bin (some 8) .lss (.t 7) (.k (.int .i64 5)) false false))]) (.cond (.t 8) .skip (.exit 0))) (.seq (.block 1 (.seq (.ops [(none, (.cp 11 0)), (none, (.call (some 12) (.k (.func 100 [] [])) [(.t 11)] (some 100))), (none, (.mv 5 12))]) (.seq (.ops [(none, (.cp 13 3)), (none, (.cp 14 5)), (none, (.bin (some 15) .and (.t 14) (.k (.int .i64 127)) false false)), (none, (.cp 16 4)), (none, (.bin (some 17) .mul (.k (.int .i64 7)) (.t 16) false false)), (none, (.bin (some 18) .shl (.t 15) (.t 17) false false)), (none, (.bin (some 19) .or (.t 13) (.t 18) false false)), (none, (.mv 3 19))]) (.seq (.seq (.ops [(none, (.cp 20 5)), (none, (.bin (some 21) .lss (.t 20) (.k (.int .i64 128)) false false))]) (.cond (.t 21) (.seq (.ops [(none, (.cp 22 0)), (none, (.cp 23 0)), (none, (.nil (some 24) (.t 23))), (none, (.fa (some 25) (.t 24) 1)), (none, (.ld (some 26) (.t 25) (.one none))), (none, (.cp 27 26)), ((some (27, false)), (.cp 28 4)), ((some (27, false)), (.bin (some 29) .gtr (.t 28) (.k (.int .i64 0)) false false)), ((some (27, false)), (.cp 30 29)), ((some (30, true)), (.cp 31 5)), ((some (30, true)), (.bin (some 32) .eql (.t 31) (.k (.int .i64 0)) false false)), ((some (27, false)), (.pick (some 33) (.t 30) (.t 32) (.k (.bool false)))), (none, (.pick (some 34) (.t 27) (.k (.bool true)) (.t 33))), (none, (.nil (some 35) (.t 22))), (none, (.fa (some 36) (.t 35) 1)), (none, (.st (.t 36) (.t 34) 1))]) (.exit 0)) .skip)) (.ops [(none, (.cp 37 0)), (none, (.cp 38 0)), (none, (.nil (some 39) (.t 38))), (none, (.fa (some 40) (.t 39) 1)), (none, (.ld (some 41) (.t 40) (.one none))), (none, (.cp 42 41)), ((some (42, false)), (.cp 43 4)), ((some (42, false)), (.bin (some 44) .eql (.t 43) (.k (.int .i64 4)) false false)), (none, (.pick (some 45) (.t 42) (.k (.bool true)) (.t 44))), (none, (.nil (some 46) (.t 37))), (none, (.fa (some 47) (.t 46) 1)), (none, (.st (.t 47) (.t 45) 1))]))))) (.ops [(none, (.cp 9 4)), (none, (.bin (some 10) .add (.t 9) (.k (.int .i64 1)) false false)), (none, (.mv 4 10))])))))) (.seq (.ops [(none, (.cp 48 3)), (none, (.bin (some 49) .quo (.t 48) (.k (.int .i64 2)) false false)), (none, (.mv 6 49))]) (.seq (.seq (.ops [(none, (.cp 50 3)), (none, (.bin (some 51) .rem (.t 50) (.k (.int .i64 2)) false false)), (none, (.bin (some 52) .eql (.t 51) (.k (.int .i64 1)) false false))]) (.cond (.t 52) (.ops [(none, (.cp 53 6)), (none, (.un (some 54) .neg (.t 53))), (none, (.bin (some 55) .sub (.t 54) (.k (.int .i64 1)) false false)), (none, (.mv 6 55))]) .skip)) (.seq (.ops [(none, (.cp 56 0)), (none, (.cp 57 0)), (none, (.nil (some 58) (.t 57))), (none, (.fa (some 59) (.t 58) 1)), (none, (.ld (some 60) (.t 59) (.one none))), (none, (.cp 61 60)), ((some (61, false)), (.cp 62 6)), ((some (61, false)), (.call (some 63) (.k (.func 38 [] [])) [(.t 62)] none)), ((some (61, false)), (.un (some 64) .not (.t 63))), (none, (.pick (some 65) (.t 61) (.k (.bool true)) (.t 64))), (none, (.nil (some 66) (.t 56))), (none, (.fa (some 67) (.t 66) 1)), (none, (.st (.t 67) (.t 65) 1))]) (.seq (.ops [(none, (.mv 68 6)), (none, (.mv 2 68))]) .ret)))))))))) := by kernel_rfl
theorem c38 : compF Try.prog ow Try.f38 = (some (5, ([(.t 2)], (.seq (.ops [(none, (.set 2 (.bool false)))]) (.seq (.ops [(none, (.cp 3 0)), (none, (.call (some 4) (.k (.func 86 [] [])) [(.t 3), (.k (.int .i64 (-1073741824))), (.k (.int .i64 1073741824))] none)), (none, (.mv 2 4))]) .ret))))) := by kernel_rfl
theorem c86 : compF Try.prog ow Try.f86 = (some (15, ([(.t 6)], (.seq (.ops [(none, (.set 6 (.bool false)))]) (.seq (.ops [(none, (.cp 7 0)), (none, (.cp 8 1)), (none, (.bin (some 9) .geq (.t 7) (.t 8) false false)), (none, (.cp 10 9)), ((some (10, true)), (.cp 11 0)), ((some (10, true)), (.cp 12 2)), ((some (10, true)), (.bin (some 13) .leq (.t 11) (.t 12) false false)), (none, (.pick (some 14) (.t 10) (.t 13) (.k (.bool false)))), (none, (.mv 6 14))]) .ret))))) := by kernel_rfl
theorem fn_Between (n a b : Int) : PFn Try.prog 86 [.int .i64 n, .int .i64 a, .int .i64 b] (.bool (betw a b n)) := by
  intro h
  refine fnC mixed Try.func86 c86 (by simp) ?_
  simp only [go_sem, Nat.reduceEqDiff, Nat.reduceAdd, Nat.reduceLeDiff, Nat.reduceLT, ↓reduceIte, reduceCtorEq, Int.reduceLT, Int.reduceToNat, Int.reduceEq, Int.reduceBEq, Int.reduceBNe, Nat.reduceBEq]
  refine cog (fun h1 => ?_) (fun h1 => ?_)
  · simp only [go_sem, Nat.reduceEqDiff, Nat.reduceAdd, Nat.reduceLeDiff, Nat.reduceLT, ↓reduceIte, reduceCtorEq, Int.reduceLT, Int.reduceToNat, Int.reduceEq, Int.reduceBEq, Int.reduceBNe, Nat.reduceBEq, h1]
    simp at h1; simp [betw, h1]
  · simp only [go_sem, Nat.reduceEqDiff, Nat.reduceAdd, Nat.reduceLeDiff, Nat.reduceLT, ↓reduceIte, reduceCtorEq, Int.reduceLT, Int.reduceToNat, Int.reduceEq, Int.reduceBEq, Int.reduceBNe, Nat.reduceBEq, h1]
    simp at h1; simp [betw]; omega
theorem fn_rMay (n : Int) : PFn Try.prog 38 [.int .i64 n] (.bool (okN n)) := by
  intro h
  refine fnC mixed Try.func38 c38 (by simp) ?_
  simp only [go_sem, Nat.reduceEqDiff, Nat.reduceAdd, Nat.reduceLeDiff, Nat.reduceLT, ↓reduceIte, reduceCtorEq, Int.reduceLT, Int.reduceToNat, Int.reduceEq, Int.reduceBEq, Int.reduceBNe, Nat.reduceBEq]
  refine pcall (fn_Between n _ _) (by simp only [go_sem, Nat.reduceEqDiff, Nat.reduceAdd, Nat.reduceLeDiff, Nat.reduceLT, ↓reduceIte, reduceCtorEq, Int.reduceLT, Int.reduceToNat, Int.reduceEq, Int.reduceBEq, Int.reduceBNe, Nat.reduceBEq]; rfl) ?_
  simp only [go_sem, Nat.reduceEqDiff, Nat.reduceAdd, Nat.reduceLeDiff, Nat.reduceLT, ↓reduceIte, reduceCtorEq, Int.reduceLT, Int.reduceToNat, Int.reduceEq, Int.reduceBEq, Int.reduceBNe, Nat.reduceBEq]
  rfl
theorem fn_rnumber (r : Rd) (lb : Nat) (h : Hp) (hl : lb < h.n) (hb : h.bk lb = rdB r) : Fn Try.prog 90 [.ptr lb 0] h (.int .i64 (numQ r).1) (h.rd lb (numQ r).2) := by
  refine fnC mixed Try.func90 c90 (by simp) ?_
  simp only [go_sem, Nat.reduceEqDiff, Nat.reduceAdd, Nat.reduceLeDiff, Nat.reduceLT, ↓reduceIte, reduceCtorEq, Int.reduceLT, Int.reduceToNat, Int.reduceEq, Int.reduceBEq, Int.reduceBNe, Nat.reduceBEq]
  refine cloop (fun k t => ∃ (i x : Nat) (q : Rd), i + k = 5 ∧ x < 128 ^ i ∧ ((i < 5 ∧ digs k i x q = digs 5 0 0 r) ∨ (i = 5 ∧ q.2 = true ∧ digs 5 0 0 r = (x, false, (q.1, (digs 5 0 0 r).2.2.2)))) ∧ t.fr 0 = .ptr lb 0 ∧ t.fr 3 = .int .i64 (x : Nat) ∧ t.fr 4 = .int .i64 (i : Nat) ∧ t.hp.n = h.n ∧ t.hp.bk lb = rdB q ∧ (∀ l, l ≠ lb → t.hp.bk l = h.bk l)) 5 ⟨0, 0, r, by simp [fr_apply, argsF, hb]⟩ ?_
  rintro k ⟨f, n', bk⟩ ⟨i, x, q, hk, hx, hd, f0, f3, f4, hn, hq, ho⟩
  simp only at f0 f3 f4 hn hq ho
  subst hn
  simp only [go_sem, Nat.reduceEqDiff, Nat.reduceAdd, Nat.reduceLeDiff, Nat.reduceLT, ↓reduceIte, reduceCtorEq, Int.reduceLT, Int.reduceToNat, Int.reduceEq, Int.reduceBEq, Int.reduceBNe, Nat.reduceBEq, f0, f3, f4]
  refine cif (fun hc => ?_) (fun hc => ?_)
  · have hi : i < 5 := by simp at hc; omega
    obtain ⟨k, rfl⟩ : ∃ j, k = j + 1 := ⟨k - 1, by omega⟩
    obtain ⟨_, hd⟩ : i < 5 ∧ digs (k + 1) i x q = digs 5 0 0 r := by rcases hd with h | h; exact h; omega
    rw [digs] at hd
    simp only [go_sem, Nat.reduceEqDiff, Nat.reduceAdd, Nat.reduceLeDiff, Nat.reduceLT, ↓reduceIte, reduceCtorEq, Int.reduceLT, Int.reduceToNat, Int.reduceEq, Int.reduceBEq, Int.reduceBNe, Nat.reduceBEq, f0, f3, f4]
    refine ccall (fn_byte q lb ⟨h.n, bk⟩ hl hq) (by simp only [go_sem, Nat.reduceEqDiff, Nat.reduceAdd, Nat.reduceLeDiff, Nat.reduceLT, ↓reduceIte, reduceCtorEq, Int.reduceLT, Int.reduceToNat, Int.reduceEq, Int.reduceBEq, Int.reduceBNe, Nat.reduceBEq, f0]) ?_
    obtain ⟨c, hc1⟩ := one_byte q
    generalize oneR q = w at hd hc1
    obtain ⟨c', q'⟩ := w
    simp only at hc1 hd
    subst hc1
    have hcl := c.toNat_lt
    have hcm : c.toNat % 128 < 128 := Nat.mod_lt _ (by omega)
    have e1 := lo7i c
    have e3 : IntKind.i64.wrap (7 * (i : Int)) = ((7 * i : Nat) : Int) := by rw [wrap64] <;> omega
    have e4 : (((7 * i : Nat) : Int) < 0) = False := by simp; omega
    have e5 : IntKind.i64.wrap (((c.toNat % 128 : Nat) : Int) * 2 ^ (min (7 * i) 64)) = ((c.toNat % 128 * 128 ^ i : Nat) : Int) := by
      have := sh_i64 (c.toNat % 128) i (by omega) hcm
      rw [← this]; congr 3
    have e6 := or_i64 x (c.toNat % 128) i (by omega) hx hcm
    simp only [go_sem, Nat.reduceEqDiff, Nat.reduceAdd, Nat.reduceLeDiff, Nat.reduceLT, ↓reduceIte, reduceCtorEq, Int.reduceLT, Int.reduceToNat, Int.reduceEq, Int.reduceBEq, Int.reduceBNe, Nat.reduceBEq, f0, f3, f4, e1]
    rw [e3]
    simp only [go_sem, Nat.reduceEqDiff, Nat.reduceAdd, Nat.reduceLeDiff, Nat.reduceLT, ↓reduceIte, reduceCtorEq, Int.reduceLT, Int.reduceToNat, Int.reduceEq, Int.reduceBEq, Int.reduceBNe, Nat.reduceBEq, e4, e5, e6]
    have e9 : IntKind.i64.wrap ((i : Int) + 1) = ((i + 1 : Nat) : Int) := by rw [wrap64] <;> omega
    have hx1 : x + c.toNat % 128 * 128 ^ i < 128 ^ (i + 1) := by
      have : c.toNat % 128 * 128 ^ i ≤ 127 * 128 ^ i := Nat.mul_le_mul (by omega) (Nat.le_refl _)
      rw [Nat.pow_succ]; omega
    obtain ⟨s', b'⟩ := q'
    have brd : (Hp.rd ⟨h.n, bk⟩ lb (s', b')).bk = updB bk lb (.cells [.str s', .bool b']) := rfl
    have nrd : (Hp.rd ⟨h.n, bk⟩ lb (s', b')).n = h.n := rfl
    refine cif (fun h1 => ?_) (fun h1 => ?_)
    · simp only [decide_eq_true_eq] at h1
      rw [if_pos (by omega)] at hd
      generalize hX : x + c.toNat % 128 * 128 ^ i = X at *
      have hXl : X < 34359738368 := by
        have h2 : (128 : Nat) ^ (i + 1) ≤ 128 ^ 5 := Nat.pow_le_pow_right (by omega) (by omega)
        have h3 : (128 : Nat) ^ 5 = 34359738368 := by decide
        omega
      have g2 : ((X : Int)).tdiv 2 = ((X / 2 : Nat) : Int) := by rw [Int.tdiv_eq_ediv_of_nonneg (by omega)]; omega
      have g2b : IntKind.i64.wrap ((X / 2 : Nat) : Int) = ((X / 2 : Nat) : Int) := by rw [wrap64] <;> omega
      have g3 : ((X : Int)).tmod 2 = ((X % 2 : Nat) : Int) := by rw [Int.tmod_eq_emod_of_nonneg (by omega)]; omega
      have g4 : IntKind.i64.wrap (0 - ((X / 2 : Nat) : Int)) = -((X / 2 : Nat) : Int) := by rw [wrap64] <;> omega
      have g5 : IntKind.i64.wrap (-((X / 2 : Nat) : Int) - 1) = -((X / 2 : Nat) : Int) - 1 := by rw [wrap64] <;> omega
      have h3 : (128 : Nat) ^ 5 = 34359738368 := by decide
      have hnp : numQ r = (numV X, (s', (b' || (decide (0 < i) && c.toNat == 0)) || !okN (numV X))) := by
        unfold numQ; rw [← hd]
      rw [hnp]
      have sh : ∀ (bb : Bool) (n'' : Nat), h.n ≤ n'' → Shrink h ⟨n'', updB bk lb (.cells [.str s', .bool bb])⟩ (h.rd lb (s', bb)) := fun bb n'' hn => shrink_rd (fun l _ hne => by simp only [bk_apply, hne, if_false]; exact ho l hne) (by simp [bk_apply, rdB]) hn
      by_cases hodd : X % 2 = 1
      · have o1 : (((X % 2 : Nat) : Int) == 1) = true := by rw [hodd]; rfl
        have o2 : numV X = -((X / 2 : Nat) : Int) - 1 := by unfold numV; rw [if_pos hodd]
        rw [o2]
        rw [o2] at hnp
        cases b' with
        | true =>
          have sh' := sh true h.n (Nat.le_refl _)
          simp only [go_sem, Nat.reduceEqDiff, Nat.reduceAdd, Nat.reduceLeDiff, Nat.reduceLT, ↓reduceIte, reduceCtorEq, Int.reduceLT, Int.reduceToNat, Int.reduceEq, Int.reduceBEq, Int.reduceBNe, Nat.reduceBEq, f0, f3, f4, e9, rd_bk, nrd, brd, bk_apply, g2, g2b, g3, g4, g5, o1, sh', Bool.true_or]
        | false =>
          by_cases hi0 : 0 < i
          · have i1 : decide ((i : Int) > 0) = true := by simp; omega
            have i2 : decide (0 < i) = true := by simpa using hi0
            by_cases hz : c.toNat = 0
            · have z1 : ((c.toNat : Int) == 0) = true := by simp [hz]
              have z2 : (c.toNat == 0) = true := by simp [hz]
              have sh' := sh true h.n (Nat.le_refl _)
              simp only [go_sem, Nat.reduceEqDiff, Nat.reduceAdd, Nat.reduceLeDiff, Nat.reduceLT, ↓reduceIte, reduceCtorEq, Int.reduceLT, Int.reduceToNat, Int.reduceEq, Int.reduceBEq, Int.reduceBNe, Nat.reduceBEq, f0, f3, f4, e9, rd_bk, nrd, brd, bk_apply, g2, g2b, g3, g4, g5, o1, i1, i2, z1, z2, sh', Bool.true_or, Bool.false_or]
            · have z1 : ((c.toNat : Int) == 0) = false := by simp; omega
              have z2 : (c.toNat == 0) = false := by simp [hz]
              simp only [go_sem, Nat.reduceEqDiff, Nat.reduceAdd, Nat.reduceLeDiff, Nat.reduceLT, ↓reduceIte, reduceCtorEq, Int.reduceLT, Int.reduceToNat, Int.reduceEq, Int.reduceBEq, Int.reduceBNe, Nat.reduceBEq, f0, f3, f4, e9, rd_bk, nrd, brd, bk_apply, g2, g2b, g3, g4, g5, o1, i1, i2, z1, z2, Bool.true_or, Bool.false_or]
              refine pcall (fn_rMay _) (by simp only [go_sem, Nat.reduceEqDiff, Nat.reduceAdd, Nat.reduceLeDiff, Nat.reduceLT, ↓reduceIte, reduceCtorEq, Int.reduceLT, Int.reduceToNat, Int.reduceEq, Int.reduceBEq, Int.reduceBNe, Nat.reduceBEq]; rfl) ?_
              simp only [go_sem, Nat.reduceEqDiff, Nat.reduceAdd, Nat.reduceLeDiff, Nat.reduceLT, ↓reduceIte, reduceCtorEq, Int.reduceLT, Int.reduceToNat, Int.reduceEq, Int.reduceBEq, Int.reduceBNe, Nat.reduceBEq, f0, f3, f4, e9, rd_bk, nrd, brd, bk_apply, Bool.false_or]
              exact sh _ h.n (Nat.le_refl _)
          · have i1 : decide ((i : Int) > 0) = false := by simp; omega
            have i2 : decide (0 < i) = false := by simpa using hi0
            simp only [go_sem, Nat.reduceEqDiff, Nat.reduceAdd, Nat.reduceLeDiff, Nat.reduceLT, ↓reduceIte, reduceCtorEq, Int.reduceLT, Int.reduceToNat, Int.reduceEq, Int.reduceBEq, Int.reduceBNe, Nat.reduceBEq, f0, f3, f4, e9, rd_bk, nrd, brd, bk_apply, g2, g2b, g3, g4, g5, o1, i1, i2, Bool.true_or, Bool.false_or]
            refine pcall (fn_rMay _) (by simp only [go_sem, Nat.reduceEqDiff, Nat.reduceAdd, Nat.reduceLeDiff, Nat.reduceLT, ↓reduceIte, reduceCtorEq, Int.reduceLT, Int.reduceToNat, Int.reduceEq, Int.reduceBEq, Int.reduceBNe, Nat.reduceBEq]; rfl) ?_
            simp only [go_sem, Nat.reduceEqDiff, Nat.reduceAdd, Nat.reduceLeDiff, Nat.reduceLT, ↓reduceIte, reduceCtorEq, Int.reduceLT, Int.reduceToNat, Int.reduceEq, Int.reduceBEq, Int.reduceBNe, Nat.reduceBEq, f0, f3, f4, e9, rd_bk, nrd, brd, bk_apply, Bool.false_or]
            exact sh _ h.n (Nat.le_refl _)
      · have o1 : (((X % 2 : Nat) : Int) == 1) = false := by simp; omega
        have o2 : numV X = ((X / 2 : Nat) : Int) := by unfold numV; rw [if_neg hodd]
        rw [o2]
        rw [o2] at hnp
        cases b' with
        | true =>
          have sh' := sh true h.n (Nat.le_refl _)
          simp only [go_sem, Nat.reduceEqDiff, Nat.reduceAdd, Nat.reduceLeDiff, Nat.reduceLT, ↓reduceIte, reduceCtorEq, Int.reduceLT, Int.reduceToNat, Int.reduceEq, Int.reduceBEq, Int.reduceBNe, Nat.reduceBEq, f0, f3, f4, e9, rd_bk, nrd, brd, bk_apply, g2, g2b, g3, g4, g5, o1, sh', Bool.true_or]
        | false =>
          by_cases hi0 : 0 < i
          · have i1 : decide ((i : Int) > 0) = true := by simp; omega
            have i2 : decide (0 < i) = true := by simpa using hi0
            by_cases hz : c.toNat = 0
            · have z1 : ((c.toNat : Int) == 0) = true := by simp [hz]
              have z2 : (c.toNat == 0) = true := by simp [hz]
              have sh' := sh true h.n (Nat.le_refl _)
              simp only [go_sem, Nat.reduceEqDiff, Nat.reduceAdd, Nat.reduceLeDiff, Nat.reduceLT, ↓reduceIte, reduceCtorEq, Int.reduceLT, Int.reduceToNat, Int.reduceEq, Int.reduceBEq, Int.reduceBNe, Nat.reduceBEq, f0, f3, f4, e9, rd_bk, nrd, brd, bk_apply, g2, g2b, g3, g4, g5, o1, i1, i2, z1, z2, sh', Bool.true_or, Bool.false_or]
            · have z1 : ((c.toNat : Int) == 0) = false := by simp; omega
              have z2 : (c.toNat == 0) = false := by simp [hz]
              simp only [go_sem, Nat.reduceEqDiff, Nat.reduceAdd, Nat.reduceLeDiff, Nat.reduceLT, ↓reduceIte, reduceCtorEq, Int.reduceLT, Int.reduceToNat, Int.reduceEq, Int.reduceBEq, Int.reduceBNe, Nat.reduceBEq, f0, f3, f4, e9, rd_bk, nrd, brd, bk_apply, g2, g2b, g3, g4, g5, o1, i1, i2, z1, z2, Bool.true_or, Bool.false_or]
              refine pcall (fn_rMay _) (by simp only [go_sem, Nat.reduceEqDiff, Nat.reduceAdd, Nat.reduceLeDiff, Nat.reduceLT, ↓reduceIte, reduceCtorEq, Int.reduceLT, Int.reduceToNat, Int.reduceEq, Int.reduceBEq, Int.reduceBNe, Nat.reduceBEq]; rfl) ?_
              simp only [go_sem, Nat.reduceEqDiff, Nat.reduceAdd, Nat.reduceLeDiff, Nat.reduceLT, ↓reduceIte, reduceCtorEq, Int.reduceLT, Int.reduceToNat, Int.reduceEq, Int.reduceBEq, Int.reduceBNe, Nat.reduceBEq, f0, f3, f4, e9, rd_bk, nrd, brd, bk_apply, Bool.false_or]
              exact sh _ h.n (Nat.le_refl _)
          · have i1 : decide ((i : Int) > 0) = false := by simp; omega
            have i2 : decide (0 < i) = false := by simpa using hi0
            simp only [go_sem, Nat.reduceEqDiff, Nat.reduceAdd, Nat.reduceLeDiff, Nat.reduceLT, ↓reduceIte, reduceCtorEq, Int.reduceLT, Int.reduceToNat, Int.reduceEq, Int.reduceBEq, Int.reduceBNe, Nat.reduceBEq, f0, f3, f4, e9, rd_bk, nrd, brd, bk_apply, g2, g2b, g3, g4, g5, o1, i1, i2, Bool.true_or, Bool.false_or]
            refine pcall (fn_rMay _) (by simp only [go_sem, Nat.reduceEqDiff, Nat.reduceAdd, Nat.reduceLeDiff, Nat.reduceLT, ↓reduceIte, reduceCtorEq, Int.reduceLT, Int.reduceToNat, Int.reduceEq, Int.reduceBEq, Int.reduceBNe, Nat.reduceBEq]; rfl) ?_
            simp only [go_sem, Nat.reduceEqDiff, Nat.reduceAdd, Nat.reduceLeDiff, Nat.reduceLT, ↓reduceIte, reduceCtorEq, Int.reduceLT, Int.reduceToNat, Int.reduceEq, Int.reduceBEq, Int.reduceBNe, Nat.reduceBEq, f0, f3, f4, e9, rd_bk, nrd, brd, bk_apply, Bool.false_or]
            exact sh _ h.n (Nat.le_refl _)
    · simp only [decide_eq_false_iff_not] at h1
      rw [if_neg (by omega)] at hd
      have hd' : ∀ bb : Bool, (b' = true → bb = true) → (i = 4 → bb = true) → (i + 1 < 5 → bb = b') → ((i + 1 < 5 ∧ digs k (i + 1) (x + c.toNat % 128 * 128 ^ i) (s', bb) = digs 5 0 0 r) ∨ (i + 1 = 5 ∧ bb = true ∧ digs 5 0 0 r = (x + c.toNat % 128 * 128 ^ i, false, (s', (digs 5 0 0 r).2.2.2)))) := by
        intro bb _ h4 h5
        by_cases hi4 : i + 1 < 5
        · exact .inl ⟨hi4, by rw [h5 hi4]; exact hd⟩
        · have : k = 0 := by omega
          subst this
          exact .inr ⟨by omega, h4 (by omega), by rw [← hd]; rfl⟩
      cases b' with
      | true =>
        simp only [go_sem, Nat.reduceEqDiff, Nat.reduceAdd, Nat.reduceLeDiff, Nat.reduceLT, ↓reduceIte, reduceCtorEq, Int.reduceLT, Int.reduceToNat, Int.reduceEq, Int.reduceBEq, Int.reduceBNe, Nat.reduceBEq, f0, f3, f4, e9, rd_bk, nrd, brd, bk_apply]
        exact ⟨k, by omega, i + 1, _, (s', true), by omega, hx1, hd' true (fun _ => rfl) (fun _ => rfl) (fun _ => rfl), rfl, rfl, rfl, fun l hne => by simp [hne, ho l hne]⟩
      | false =>
        simp only [go_sem, Nat.reduceEqDiff, Nat.reduceAdd, Nat.reduceLeDiff, Nat.reduceLT, ↓reduceIte, reduceCtorEq, Int.reduceLT, Int.reduceToNat, Int.reduceEq, Int.reduceBEq, Int.reduceBNe, Nat.reduceBEq, f0, f3, f4, e9, rd_bk, nrd, brd, bk_apply]
        refine ⟨k, by omega, i + 1, _, (s', (i : Int) == 4), by omega, hx1, hd' _ (fun e => by cases e) (fun e => by subst e; rfl) (fun e => by simp; omega), rfl, rfl, rfl, fun l hne => by simp [hne, ho l hne]⟩
  · have hi : i = 5 := by simp at hc; omega
    subst hi
    have : k = 0 := by omega
    subst this
    obtain ⟨_, hqb, hd2⟩ : 5 = 5 ∧ q.2 = true ∧ digs 5 0 0 r = (x, false, (q.1, (digs 5 0 0 r).2.2.2)) := by rcases hd with h | h; exact absurd h.1 (by omega); exact h
    obtain ⟨s', b'⟩ := q
    simp only at hqb hd2
    subst hqb
    have hnp : numQ r = (numV x, (s', true)) := by unfold numQ; rw [hd2]
    rw [hnp]
    unfold rdB at hq
    simp only at hq
    have sh : Shrink h ⟨h.n, updB bk lb (.cells [.str s', .bool true])⟩ (h.rd lb (s', true)) := shrink_rd (fun l _ hne => by simp only [bk_apply, hne, if_false]; exact ho l hne) (by simp [bk_apply, rdB]) (Nat.le_refl _)
    have h3 : (128 : Nat) ^ 5 = 34359738368 := by decide
    have hXl : x < 34359738368 := by omega
    have g2 : ((x : Int)).tdiv 2 = ((x / 2 : Nat) : Int) := by rw [Int.tdiv_eq_ediv_of_nonneg (by omega)]; omega
    have g2b : IntKind.i64.wrap ((x / 2 : Nat) : Int) = ((x / 2 : Nat) : Int) := by rw [wrap64] <;> omega
    have g3 : ((x : Int)).tmod 2 = ((x % 2 : Nat) : Int) := by rw [Int.tmod_eq_emod_of_nonneg (by omega)]; omega
    have g4 : IntKind.i64.wrap (0 - ((x / 2 : Nat) : Int)) = -((x / 2 : Nat) : Int) := by rw [wrap64] <;> omega
    have g5 : IntKind.i64.wrap (-((x / 2 : Nat) : Int) - 1) = -((x / 2 : Nat) : Int) - 1 := by rw [wrap64] <;> omega
    by_cases hodd : x % 2 = 1
    · have o1 : (((x % 2 : Nat) : Int) == 1) = true := by rw [hodd]; rfl
      have o2 : numV x = -((x / 2 : Nat) : Int) - 1 := by unfold numV; rw [if_pos hodd]
      rw [o2]
      simp only [go_sem, Nat.reduceEqDiff, Nat.reduceAdd, Nat.reduceLeDiff, Nat.reduceLT, ↓reduceIte, reduceCtorEq, Int.reduceLT, Int.reduceToNat, Int.reduceEq, Int.reduceBEq, Int.reduceBNe, Nat.reduceBEq, f0, f3, f4, hq, g2, g2b, g3, g4, g5, o1, sh]
    · have o1 : (((x % 2 : Nat) : Int) == 1) = false := by simp; omega
      have o2 : numV x = ((x / 2 : Nat) : Int) := by unfold numV; rw [if_neg hodd]
      rw [o2]
      simp only [go_sem, Nat.reduceEqDiff, Nat.reduceAdd, Nat.reduceLeDiff, Nat.reduceLT, ↓reduceIte, reduceCtorEq, Int.reduceLT, Int.reduceToNat, Int.reduceEq, Int.reduceBEq, Int.reduceBNe, Nat.reduceBEq, f0, f3, f4, hq, g2, g2b, g3, g4, g5, o1, sh]
end Go.Proofs.Ythaoooohomfkcaa.Ab
