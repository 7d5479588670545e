/- The reader of bytes: numbers. -/
import Derived.Test.YthaoooohomfkcaaWw1
import Derived.Test.YthaoooohomfkcaaTtA
namespace Go.Proofs.Ythaoooohomfkcaa.Ab
set_option linter.unusedVariables false
set_option linter.unusedSimpArgs false
set_option maxRecDepth 10000
attribute [local go_sem] Nat.zero_le Bool.not_true Bool.not_false Bool.false_eq_true if_false if_true forall_const true_and and_true List.map Option.map Bool.and_self Bool.and_true Bool.true_and Bool.false_and Bool.and_false List.getElem?_cons_zero List.getElem?_nil List.getElem?_cons_succ Int.natCast_nonneg Int.toNat_natCast List.length_map List.length_cons List.length_nil Nat.zero_add Nat.le_refl List.drop_zero List.drop_succ_cons List.take_succ_cons List.take_zero List.take_nil ne_eq not_true_eq_false not_false_eq_true upd_same Nat.add_assoc Nat.left_eq_add Nat.add_eq_left Nat.add_left_cancel_iff Nat.succ_ne_self Nat.one_ne_zero Nat.add_zero Nat.le_add_right ite_self List.set_cons_zero List.set_cons_succ List.all_cons List.all_nil bne_self_eq_false List.isEmpty_cons Int.cast_ofNat_Int Nat.mul_one List.nil_append or_self or_true true_or List.cons_append List.append_nil Option.none_beq_some Option.some_beq_some beq_self_eq_true
theorem c89 : compF Try.prog ow Try.f89 = (some (64, ([(.t 2)], (.seq (.ops [(none, (.set 2 (.int .i64 0)))]) (.seq (.ops [(none, (.set 3 (.int .u64 0)))]) (.seq (.seq (.ops [(none, (.set 7 (.int .i64 0)))]) (.block 0 (.loop (.seq (.ops [(none, (.bin (some 8) .lss (.t 7) (.k (.int .i64 5)) false false))]) (.seq (.cond (.t 8) .skip (.exit 0)) (.seq (.block 1 (.seq (.ops [(none, (.mv 9 7)), (none, (.mv 4 9))]) (.seq (.ops [(none, (.cp 10 0)), (none, (.call (some 11) (.k (.func 95 [] [])) [(.t 10)] (some 100))), (none, (.mv 5 11))]) (.seq (.ops [(none, (.cp 12 3)), (none, (.cp 13 5)), (none, (.bin (some 14) .andNot (.t 13) (.k (.int .u8 128)) false false)), (none, (.cvt (some 15) (.t 14) (some .u64) false false)), (none, (.cp 16 4)), (none, (.bin (some 17) .mul (.k (.int .i64 7)) (.t 16) false false)), (none, (.bin (some 18) .shl (.t 15) (.t 17) false false)), (none, (.bin (some 19) .or (.t 12) (.t 18) false false)), (none, (.mv 3 19))]) (.seq (.seq (.ops [(none, (.cp 20 5)), (none, (.bin (some 21) .and (.t 20) (.k (.int .u8 128)) false false)), (none, (.bin (some 22) .neq (.t 21) (.k (.int .u8 0)) false false))]) (.cond (.t 22) (.exit 1) .skip)) (.seq (.ops [(none, (.cp 23 0)), (none, (.cp 24 0)), (none, (.nil (some 25) (.t 24))), (none, (.fa (some 26) (.t 25) 1)), (none, (.ld (some 27) (.t 26) (.one none))), (none, (.cp 28 27)), ((some (28, false)), (.cp 29 4)), ((some (28, false)), (.bin (some 30) .gtr (.t 29) (.k (.int .i64 0)) false false)), ((some (28, false)), (.cp 31 30)), ((some (31, true)), (.cp 32 5)), ((some (31, true)), (.bin (some 33) .eql (.t 32) (.k (.int .u8 0)) false false)), ((some (28, false)), (.pick (some 34) (.t 31) (.t 33) (.k (.bool false)))), (none, (.pick (some 35) (.t 28) (.k (.bool true)) (.t 34))), (none, (.nil (some 36) (.t 23))), (none, (.fa (some 37) (.t 36) 1)), (none, (.st (.t 37) (.t 35) 1))]) (.seq (.ops [(none, (.cp 38 3)), (none, (.bin (some 39) .shr (.t 38) (.k (.int .u64 1)) false false)), (none, (.cvt (some 40) (.t 39) (some .i64) false false)), (none, (.mv 6 40))]) (.seq (.seq (.ops [(none, (.cp 41 3)), (none, (.bin (some 42) .and (.t 41) (.k (.int .u64 1)) false false)), (none, (.bin (some 43) .eql (.t 42) (.k (.int .u64 1)) false false))]) (.cond (.t 43) (.ops [(none, (.cp 44 6)), (none, (.un (some 45) .neg (.t 44))), (none, (.bin (some 46) .sub (.t 45) (.k (.int .i64 1)) false false)), (none, (.mv 6 46))]) .skip)) (.seq (.ops [(none, (.cp 47 0)), (none, (.cp 48 0)), (none, (.nil (some 49) (.t 48))), (none, (.fa (some 50) (.t 49) 1)), (none, (.ld (some 51) (.t 50) (.one none))), (none, (.cp 52 51)), ((some (52, false)), (.cp 53 6)), ((some (52, false)), (.call (some 54) (.k (.func 84 [] [])) [(.t 53)] none)), ((some (52, false)), (.un (some 55) .not (.t 54))), (none, (.pick (some 56) (.t 52) (.k (.bool true)) (.t 55))), (none, (.nil (some 57) (.t 47))), (none, (.fa (some 58) (.t 57) 1)), (none, (.st (.t 58) (.t 56) 1))]) (.seq (.ops [(none, (.mv 59 6)), (none, (.mv 2 59))]) .ret)))))))))) (.ops [(none, (.bin (some 60) .add (.t 7) (.k (.int .i64 1)) false false)), (none, (.cp 7 60))]))))))) (.seq (.ops [(none, (.cp 61 0)), (none, (.nil (some 62) (.t 61))), (none, (.fa (some 63) (.t 62) 1)), (none, (.st (.t 63) (.k (.bool true)) 1))]) (.seq (.ops [(none, (.set 2 (.int .i64 0)))]) .ret)))))))) := by kernel_rfl
theorem nat_or (x d m : Nat) (hx : x < 2 ^ m) : x ||| (d * 2 ^ m) = x + d * 2 ^ m := by
  have := Nat.two_pow_add_eq_or_of_lt hx d
  rw [Nat.or_comm, Nat.mul_comm d, ← this, Nat.add_comm]
theorem ofInt_nat (n w : Nat) (h : n < 2 ^ w) : (BitVec.ofInt w (n : Int)).toNat = n := by
  rw [BitVec.toNat_ofInt]
  have : ((n : Int) % ((2 ^ w : Nat) : Int)).toNat = n % 2 ^ w := by
    rw [← Int.natCast_emod]; exact Int.toNat_natCast _
  rw [this, Nat.mod_eq_of_lt h]
theorem or_u64 (x d i : Nat) (hi : i ≤ 4) (hx : x < 128 ^ i) (hd : d < 128) : bitI .or .u64 (x : Int) ((d * 128 ^ i : Nat) : Int) = ((x + d * 128 ^ i : Nat) : Int) := by
  have h1 : (128 : Nat) ^ i = 2 ^ (7 * i) := by rw [Nat.pow_mul]
  have h2 : (128 : Nat) ^ i ≤ 128 ^ 4 := Nat.pow_le_pow_right (by omega) hi
  have h3 : d * 128 ^ i ≤ 127 * 128 ^ 4 := Nat.mul_le_mul (by omega) h2
  have h5 : (127 : Nat) * 128 ^ 4 = 34091302912 := by decide
  have h6 : (128 : Nat) ^ 4 = 268435456 := by decide
  show IntKind.u64.wrap _ = _
  rw [BitVec.toNat_or]
  show IntKind.u64.wrap (((BitVec.ofInt 64 (x : Int)).toNat ||| (BitVec.ofInt 64 ((d * 128 ^ i : Nat) : Int)).toNat : Nat) : Int) = _
  rw [ofInt_nat x 64 (by omega), ofInt_nat _ 64 (by omega), h1, nat_or _ _ _ (by rw [← h1]; exact hx), ← h1]
  rw [IntKind.wrap_u64]; omega
theorem or_i64 (x d i : Nat) (hi : i ≤ 4) (hx : x < 128 ^ i) (hd : d < 128) : bitI .or .i64 (x : Int) ((d * 128 ^ i : Nat) : Int) = ((x + d * 128 ^ i : Nat) : Int) := by
  have h1 : (128 : Nat) ^ i = 2 ^ (7 * i) := by rw [Nat.pow_mul]
  have h2 : (128 : Nat) ^ i ≤ 128 ^ 4 := Nat.pow_le_pow_right (by omega) hi
  have h3 : d * 128 ^ i ≤ 127 * 128 ^ 4 := Nat.mul_le_mul (by omega) h2
  have h5 : (127 : Nat) * 128 ^ 4 = 34091302912 := by decide
  have h6 : (128 : Nat) ^ 4 = 268435456 := by decide
  show IntKind.i64.wrap _ = _
  rw [BitVec.toNat_or]
  show IntKind.i64.wrap (((BitVec.ofInt 64 (x : Int)).toNat ||| (BitVec.ofInt 64 ((d * 128 ^ i : Nat) : Int)).toNat : Nat) : Int) = _
  rw [ofInt_nat x 64 (by omega), ofInt_nat _ 64 (by omega), h1, nat_or _ _ _ (by rw [← h1]; exact hx), ← h1]
  rw [wrap64] <;> omega
theorem sh_u64 (d i : Nat) (hi : i ≤ 4) (hd : d < 128) : IntKind.u64.wrap ((d : Int) * 2 ^ (min (7 * (i : Int)).toNat 64)) = ((d * 128 ^ i : Nat) : Int) := by
  match i, hi with
  | 0, _ => rw [IntKind.wrap_u64]; simp; omega
  | 1, _ => rw [IntKind.wrap_u64]; simp; omega
  | 2, _ => rw [IntKind.wrap_u64]; simp; omega
  | 3, _ => rw [IntKind.wrap_u64]; simp; omega
  | 4, _ => rw [IntKind.wrap_u64]; simp; omega
theorem sh_i64 (d i : Nat) (hi : i ≤ 4) (hd : d < 128) : IntKind.i64.wrap ((d : Int) * 2 ^ (min (7 * (i : Int)).toNat 64)) = ((d * 128 ^ i : Nat) : Int) := by
  match i, hi with
  | 0, _ => rw [wrap64] <;> simp <;> omega
  | 1, _ => rw [wrap64] <;> simp <;> omega
  | 2, _ => rw [wrap64] <;> simp <;> omega
  | 3, _ => rw [wrap64] <;> simp <;> omega
  | 4, _ => rw [wrap64] <;> simp <;> omega
theorem lo7 (c : UInt8) : bitI .andNot .u8 (c.toNat : Int) 128 = ((c.toNat % 128 : Nat) : Int) := by
  have key : ∀ b : Fin 256, bitI .andNot .u8 ((b.val : Nat) : Int) 128 = ((b.val % 128 : Nat) : Int) := by decide +kernel
  exact key ⟨c.toNat, c.toNat_lt⟩
theorem hi7 (c : UInt8) : (bitI .and .u8 (c.toNat : Int) 128 != 0) = decide (128 ≤ c.toNat) := by
  have key : ∀ b : Fin 256, (bitI .and .u8 ((b.val : Nat) : Int) 128 != 0) = decide (128 ≤ b.val) := by decide +kernel
  exact key ⟨c.toNat, c.toNat_lt⟩
theorem lo7i (c : UInt8) : bitI .and .i64 (c.toNat : Int) 127 = ((c.toNat % 128 : Nat) : Int) := by
  have key : ∀ b : Fin 256, bitI .and .i64 ((b.val : Nat) : Int) 127 = ((b.val % 128 : Nat) : Int) := by decide +kernel
  exact key ⟨c.toNat, c.toNat_lt⟩
theorem and1 (x : Nat) (hx : x < 34359738368) : bitI .and .u64 (x : Int) 1 = ((x % 2 : Nat) : Int) := by
  show IntKind.u64.wrap _ = _
  rw [BitVec.toNat_and]
  show IntKind.u64.wrap (((BitVec.ofInt 64 (x : Int)).toNat &&& (BitVec.ofInt 64 ((1 : Nat) : Int)).toNat : Nat) : Int) = _
  rw [ofInt_nat x 64 (by omega), ofInt_nat 1 64 (by omega), Nat.and_one_is_mod, IntKind.wrap_u64]; omega
theorem wrapu (x : Int) (h0 : 0 ≤ x) (h1 : x < 18446744073709551616) : IntKind.u64.wrap x = x := by
  rw [IntKind.wrap_u64]; omega
/-- A number's bytes taken: the value, whether it ended, what is left. -/
def digs : Nat → Nat → Nat → Rd → Nat × Bool × Rd
  | 0, i, x, r => (x, false, r)
  | k + 1, i, x, r => if (oneR r).1 < 128 then (x + (oneR r).1 % 128 * 128 ^ i, true, ((oneR r).2.1, (oneR r).2.2 || (decide (0 < i) && (oneR r).1 == 0))) else digs k (i + 1) (x + (oneR r).1 % 128 * 128 ^ i) (oneR r).2
def numV (x : Nat) : Int := if x % 2 = 1 then -((x / 2 : Nat) : Int) - 1 else ((x / 2 : Nat) : Int)
def okN (n : Int) : Bool := betw (-1073741824) 1073741824 n
def numP (r : Rd) : Int × Rd := match digs 5 0 0 r with
  | (x, true, q) => (numV x, (q.1, q.2 || !okN (numV x)))
  | (x, false, q) => (0, (q.1, true))
def numQ (r : Rd) : Int × Rd := match digs 5 0 0 r with
  | (x, true, q) => (numV x, (q.1, q.2 || !okN (numV x)))
  | (x, false, q) => (numV x, (q.1, true))
theorem one_byte (r : Rd) : ∃ c : UInt8, (oneR r).1 = c.toNat := by
  obtain ⟨s, b⟩ := r
  cases b with
  | true => exact ⟨0, rfl⟩
  | false => cases s with
    | nil => exact ⟨0, rfl⟩
    | cons c s => exact ⟨c, rfl⟩
theorem digs_lt : ∀ (k i x : Nat) (r : Rd), i + k = 5 → x < 128 ^ i → (digs k i x r).1 < 34359738368
  | 0, i, x, r, hk, hx => by
    have : i = 5 := by omega
    subst this; simpa [digs] using hx
  | k + 1, i, x, r, hk, hx => by
    have h0 : (oneR r).1 % 128 < 128 := Nat.mod_lt _ (by omega)
    have h1 : x + (oneR r).1 % 128 * 128 ^ i < 128 ^ (i + 1) := by
      have : (oneR r).1 % 128 * 128 ^ i ≤ 127 * 128 ^ i := Nat.mul_le_mul (by omega) (Nat.le_refl _)
      rw [Nat.pow_succ]; omega
    have h2 : (128 : Nat) ^ (i + 1) ≤ 128 ^ 5 := Nat.pow_le_pow_right (by omega) (by omega)
    have h3 : (128 : Nat) ^ 5 = 34359738368 := by decide
    unfold digs
    split
    · simp only; omega
    · exact digs_lt k (i + 1) _ _ (by omega) h1
theorem fn_number (r : Rd) (lb : Nat) (h : Hp) (hl : lb < h.n) (hb : h.bk lb = rdB r) : Fn Try.prog 89 [.ptr lb 0] h (.int .i64 (numP r).1) (h.rd lb (numP r).2) := by
  refine fnC mixed Try.func89 c89 (by simp) ?_
  simp only [go_sem, Nat.reduceEqDiff, Nat.reduceAdd, Nat.reduceLeDiff, Nat.reduceLT, ↓reduceIte, reduceCtorEq, Int.reduceLT, Int.reduceToNat, Int.reduceEq, Int.reduceBEq, Int.reduceBNe, Nat.reduceBEq]
  refine cloop (fun k t => ∃ (i x : Nat) (q : Rd), i + k = 5 ∧ x < 128 ^ i ∧ digs k i x q = digs 5 0 0 r ∧ t.fr 0 = .ptr lb 0 ∧ t.fr 3 = .int .u64 (x : Nat) ∧ t.fr 7 = .int .i64 (i : Nat) ∧ t.hp.n = h.n ∧ t.hp.bk lb = rdB q ∧ (∀ l, l ≠ lb → t.hp.bk l = h.bk l)) 5 ⟨0, 0, r, by simp [fr_apply, argsF, hb]⟩ ?_
  rintro k ⟨f, n', bk⟩ ⟨i, x, q, hk, hx, hd, f0, f3, f7, hn, hq, ho⟩
  simp only at f0 f3 f7 hn hq ho
  subst hn
  simp only [go_sem, Nat.reduceEqDiff, Nat.reduceAdd, Nat.reduceLeDiff, Nat.reduceLT, ↓reduceIte, reduceCtorEq, Int.reduceLT, Int.reduceToNat, Int.reduceEq, Int.reduceBEq, Int.reduceBNe, Nat.reduceBEq, f0, f3, f7]
  refine cif (fun hc => ?_) (fun hc => ?_)
  · have hi : i < 5 := by simp at hc; omega
    obtain ⟨k, rfl⟩ : ∃ j, k = j + 1 := ⟨k - 1, by omega⟩
    rw [digs] at hd
    simp only [go_sem, Nat.reduceEqDiff, Nat.reduceAdd, Nat.reduceLeDiff, Nat.reduceLT, ↓reduceIte, reduceCtorEq, Int.reduceLT, Int.reduceToNat, Int.reduceEq, Int.reduceBEq, Int.reduceBNe, Nat.reduceBEq, f0, f3, f7]
    refine ccall (fn_one q lb ⟨h.n, bk⟩ hl hq) (by simp only [go_sem, Nat.reduceEqDiff, Nat.reduceAdd, Nat.reduceLeDiff, Nat.reduceLT, ↓reduceIte, reduceCtorEq, Int.reduceLT, Int.reduceToNat, Int.reduceEq, Int.reduceBEq, Int.reduceBNe, Nat.reduceBEq, f0]) ?_
    obtain ⟨c, hc1⟩ := one_byte q
    generalize oneR q = w at hd hc1
    obtain ⟨c', q'⟩ := w
    simp only at hc1 hd
    subst hc1
    have hcl := c.toNat_lt
    have hcm : c.toNat % 128 < 128 := Nat.mod_lt _ (by omega)
    have e1 := lo7 c
    have e2 : IntKind.u64.wrap (((c.toNat % 128 : Nat)) : Int) = ((c.toNat % 128 : Nat) : Int) := wrapu _ (by omega) (by omega)
    have e3 : IntKind.i64.wrap (7 * (i : Int)) = 7 * (i : Int) := by rw [wrap64] <;> omega
    have e4 : ¬ (7 * (i : Int) < 0) := by omega
    have e5 := sh_u64 (c.toNat % 128) i (by omega) hcm
    have e6 := or_u64 x (c.toNat % 128) i (by omega) hx hcm
    have e7 := hi7 c
    simp only [go_sem, Nat.reduceEqDiff, Nat.reduceAdd, Nat.reduceLeDiff, Nat.reduceLT, ↓reduceIte, reduceCtorEq, Int.reduceLT, Int.reduceToNat, Int.reduceEq, Int.reduceBEq, Int.reduceBNe, Nat.reduceBEq, f0, f3, f7, e1, e2, e3, e4, e5, e6, e7]
    have e9 : IntKind.i64.wrap ((i : Int) + 1) = ((i + 1 : Nat) : Int) := by rw [wrap64] <;> omega
    have hx1 : x + c.toNat % 128 * 128 ^ i < 128 ^ (i + 1) := by
      have : c.toNat % 128 * 128 ^ i ≤ 127 * 128 ^ i := Nat.mul_le_mul (by omega) (Nat.le_refl _)
      rw [Nat.pow_succ]; omega
    obtain ⟨s', b'⟩ := q'
    refine cif (fun h1 => ?_) (fun h1 => ?_)
    · simp only [decide_eq_true_eq] at h1
      rw [if_neg (by omega)] at hd
      simp only [go_sem, Nat.reduceEqDiff, Nat.reduceAdd, Nat.reduceLeDiff, Nat.reduceLT, ↓reduceIte, reduceCtorEq, Int.reduceLT, Int.reduceToNat, Int.reduceEq, Int.reduceBEq, Int.reduceBNe, Nat.reduceBEq, f0, f3, f7, e9]
      exact ⟨k, by omega, i + 1, _, (s', b'), by omega, hx1, hd, rfl, rfl, rfl, rd_bk _ _ _, fun l hne => (rd_ne hne).trans (ho l hne)⟩
    · simp only [decide_eq_false_iff_not] at h1
      rw [if_pos (by omega)] at hd
      generalize hX : x + c.toNat % 128 * 128 ^ i = X at *
      have hXl : X < 34359738368 := by
        have h2 : (128 : Nat) ^ (i + 1) ≤ 128 ^ 5 := Nat.pow_le_pow_right (by omega) (by omega)
        have h3 : (128 : Nat) ^ 5 = 34359738368 := by decide
        omega
      have g1 := and1 X hXl
      have g2 : ((X : Int)).fdiv (2 ^ (min 1 64)) = ((X / 2 : Nat) : Int) := by
        have : (2 : Int) ^ (min 1 64) = 2 := by decide
        rw [this, Int.fdiv_eq_ediv_of_nonneg _ (by omega)]; omega
      have g2b : ((X : Int)).fdiv 2 = ((X / 2 : Nat) : Int) := by rw [Int.fdiv_eq_ediv_of_nonneg _ (by omega)]; omega
      have g3 : IntKind.i64.wrap ((X / 2 : Nat) : Int) = ((X / 2 : Nat) : Int) := by rw [wrap64] <;> omega
      have g4 : IntKind.i64.wrap (0 - ((X / 2 : Nat) : Int)) = -((X / 2 : Nat) : Int) := by rw [wrap64] <;> omega
      have g5 : IntKind.i64.wrap (-((X / 2 : Nat) : Int) - 1) = -((X / 2 : Nat) : Int) - 1 := by rw [wrap64] <;> omega
      have m1 : (2 : Int) ^ (min 1 64) = 2 := by decide
      have hnp : numP r = (numV X, (s', (b' || (decide (0 < i) && c.toNat == 0)) || !okN (numV X))) := by
        unfold numP; rw [← hd]
      rw [hnp]
      have sh : ∀ (bb : Bool) (n'' : Nat), h.n ≤ n'' → Shrink h ⟨n'', updB bk lb (.cells [.str s', .bool bb])⟩ (h.rd lb (s', bb)) := fun bb n'' hn => shrink_rd (fun l _ hne => by simp only [bk_apply, hne, if_false]; exact ho l hne) (by simp [bk_apply, rdB]) hn
      have brd : (Hp.rd ⟨h.n, bk⟩ lb (s', b')).bk = updB bk lb (.cells [.str s', .bool b']) := rfl
      have nrd : (Hp.rd ⟨h.n, bk⟩ lb (s', b')).n = h.n := rfl
      by_cases hodd : X % 2 = 1
      · have o1 : (((X % 2 : Nat) : Int) == 1) = true := by rw [hodd]; rfl
        have o2 : numV X = -((X / 2 : Nat) : Int) - 1 := by unfold numV; rw [if_pos hodd]
        rw [o2]
        rw [o2] at hnp
        cases b' with
        | true =>
          have sh' := sh true h.n (Nat.le_refl _)
          simp only [go_sem, Nat.reduceEqDiff, Nat.reduceAdd, Nat.reduceLeDiff, Nat.reduceLT, ↓reduceIte, reduceCtorEq, Int.reduceLT, Int.reduceToNat, Int.reduceEq, Int.reduceBEq, Int.reduceBNe, Nat.reduceBEq, f0, f3, f7, e9, rd_bk, nrd, brd, bk_apply, g1, g2, g2b, g3, g4, g5, m1, o1, sh', Bool.true_or]
        | false =>
          by_cases hi0 : 0 < i
          · have i1 : decide ((i : Int) > 0) = true := by simp; omega
            have i2 : decide (0 < i) = true := by simpa using hi0
            by_cases hz : c.toNat = 0
            · have z1 : ((c.toNat : Int) == 0) = true := by simp [hz]
              have z2 : (c.toNat == 0) = true := by simp [hz]
              have sh' := sh true h.n (Nat.le_refl _)
              simp only [go_sem, Nat.reduceEqDiff, Nat.reduceAdd, Nat.reduceLeDiff, Nat.reduceLT, ↓reduceIte, reduceCtorEq, Int.reduceLT, Int.reduceToNat, Int.reduceEq, Int.reduceBEq, Int.reduceBNe, Nat.reduceBEq, f0, f3, f7, e9, rd_bk, nrd, brd, bk_apply, g1, g2, g2b, g3, g4, g5, m1, o1, i1, i2, z1, z2, sh', Bool.true_or, Bool.false_or]
            · have z1 : ((c.toNat : Int) == 0) = false := by simp; omega
              have z2 : (c.toNat == 0) = false := by simp [hz]
              simp only [go_sem, Nat.reduceEqDiff, Nat.reduceAdd, Nat.reduceLeDiff, Nat.reduceLT, ↓reduceIte, reduceCtorEq, Int.reduceLT, Int.reduceToNat, Int.reduceEq, Int.reduceBEq, Int.reduceBNe, Nat.reduceBEq, f0, f3, f7, e9, rd_bk, nrd, brd, bk_apply, g1, g2, g2b, g3, g4, g5, m1, o1, i1, i2, z1, z2, Bool.true_or, Bool.false_or]
              refine pcall (fn_Number _) (by simp only [go_sem, Nat.reduceEqDiff, Nat.reduceAdd, Nat.reduceLeDiff, Nat.reduceLT, ↓reduceIte, reduceCtorEq, Int.reduceLT, Int.reduceToNat, Int.reduceEq, Int.reduceBEq, Int.reduceBNe, Nat.reduceBEq]; rfl) ?_
              simp only [go_sem, Nat.reduceEqDiff, Nat.reduceAdd, Nat.reduceLeDiff, Nat.reduceLT, ↓reduceIte, reduceCtorEq, Int.reduceLT, Int.reduceToNat, Int.reduceEq, Int.reduceBEq, Int.reduceBNe, Nat.reduceBEq, f0, f3, f7, e9, rd_bk, nrd, brd, bk_apply, Bool.false_or]
              exact sh _ h.n (Nat.le_refl _)
          · have i1 : decide ((i : Int) > 0) = false := by simp; omega
            have i2 : decide (0 < i) = false := by simpa using hi0
            simp only [go_sem, Nat.reduceEqDiff, Nat.reduceAdd, Nat.reduceLeDiff, Nat.reduceLT, ↓reduceIte, reduceCtorEq, Int.reduceLT, Int.reduceToNat, Int.reduceEq, Int.reduceBEq, Int.reduceBNe, Nat.reduceBEq, f0, f3, f7, e9, rd_bk, nrd, brd, bk_apply, g1, g2, g2b, g3, g4, g5, m1, o1, i1, i2, Bool.true_or, Bool.false_or]
            refine pcall (fn_Number _) (by simp only [go_sem, Nat.reduceEqDiff, Nat.reduceAdd, Nat.reduceLeDiff, Nat.reduceLT, ↓reduceIte, reduceCtorEq, Int.reduceLT, Int.reduceToNat, Int.reduceEq, Int.reduceBEq, Int.reduceBNe, Nat.reduceBEq]; rfl) ?_
            simp only [go_sem, Nat.reduceEqDiff, Nat.reduceAdd, Nat.reduceLeDiff, Nat.reduceLT, ↓reduceIte, reduceCtorEq, Int.reduceLT, Int.reduceToNat, Int.reduceEq, Int.reduceBEq, Int.reduceBNe, Nat.reduceBEq, f0, f3, f7, e9, rd_bk, nrd, brd, bk_apply, Bool.false_or]
            exact sh _ h.n (Nat.le_refl _)
      · have o1 : (((X % 2 : Nat) : Int) == 1) = false := by simp; omega
        have o2 : numV X = ((X / 2 : Nat) : Int) := by unfold numV; rw [if_neg hodd]
        rw [o2]
        rw [o2] at hnp
        cases b' with
        | true =>
          have sh' := sh true h.n (Nat.le_refl _)
          simp only [go_sem, Nat.reduceEqDiff, Nat.reduceAdd, Nat.reduceLeDiff, Nat.reduceLT, ↓reduceIte, reduceCtorEq, Int.reduceLT, Int.reduceToNat, Int.reduceEq, Int.reduceBEq, Int.reduceBNe, Nat.reduceBEq, f0, f3, f7, e9, rd_bk, nrd, brd, bk_apply, g1, g2, g2b, g3, g4, g5, m1, o1, sh', Bool.true_or]
        | false =>
          by_cases hi0 : 0 < i
          · have i1 : decide ((i : Int) > 0) = true := by simp; omega
            have i2 : decide (0 < i) = true := by simpa using hi0
            by_cases hz : c.toNat = 0
            · have z1 : ((c.toNat : Int) == 0) = true := by simp [hz]
              have z2 : (c.toNat == 0) = true := by simp [hz]
              have sh' := sh true h.n (Nat.le_refl _)
              simp only [go_sem, Nat.reduceEqDiff, Nat.reduceAdd, Nat.reduceLeDiff, Nat.reduceLT, ↓reduceIte, reduceCtorEq, Int.reduceLT, Int.reduceToNat, Int.reduceEq, Int.reduceBEq, Int.reduceBNe, Nat.reduceBEq, f0, f3, f7, e9, rd_bk, nrd, brd, bk_apply, g1, g2, g2b, g3, g4, g5, m1, o1, i1, i2, z1, z2, sh', Bool.true_or, Bool.false_or]
            · have z1 : ((c.toNat : Int) == 0) = false := by simp; omega
              have z2 : (c.toNat == 0) = false := by simp [hz]
              simp only [go_sem, Nat.reduceEqDiff, Nat.reduceAdd, Nat.reduceLeDiff, Nat.reduceLT, ↓reduceIte, reduceCtorEq, Int.reduceLT, Int.reduceToNat, Int.reduceEq, Int.reduceBEq, Int.reduceBNe, Nat.reduceBEq, f0, f3, f7, e9, rd_bk, nrd, brd, bk_apply, g1, g2, g2b, g3, g4, g5, m1, o1, i1, i2, z1, z2, Bool.true_or, Bool.false_or]
              refine pcall (fn_Number _) (by simp only [go_sem, Nat.reduceEqDiff, Nat.reduceAdd, Nat.reduceLeDiff, Nat.reduceLT, ↓reduceIte, reduceCtorEq, Int.reduceLT, Int.reduceToNat, Int.reduceEq, Int.reduceBEq, Int.reduceBNe, Nat.reduceBEq]; rfl) ?_
              simp only [go_sem, Nat.reduceEqDiff, Nat.reduceAdd, Nat.reduceLeDiff, Nat.reduceLT, ↓reduceIte, reduceCtorEq, Int.reduceLT, Int.reduceToNat, Int.reduceEq, Int.reduceBEq, Int.reduceBNe, Nat.reduceBEq, f0, f3, f7, e9, rd_bk, nrd, brd, bk_apply, Bool.false_or]
              exact sh _ h.n (Nat.le_refl _)
          · have i1 : decide ((i : Int) > 0) = false := by simp; omega
            have i2 : decide (0 < i) = false := by simpa using hi0
            simp only [go_sem, Nat.reduceEqDiff, Nat.reduceAdd, Nat.reduceLeDiff, Nat.reduceLT, ↓reduceIte, reduceCtorEq, Int.reduceLT, Int.reduceToNat, Int.reduceEq, Int.reduceBEq, Int.reduceBNe, Nat.reduceBEq, f0, f3, f7, e9, rd_bk, nrd, brd, bk_apply, g1, g2, g2b, g3, g4, g5, m1, o1, i1, i2, Bool.true_or, Bool.false_or]
            refine pcall (fn_Number _) (by simp only [go_sem, Nat.reduceEqDiff, Nat.reduceAdd, Nat.reduceLeDiff, Nat.reduceLT, ↓reduceIte, reduceCtorEq, Int.reduceLT, Int.reduceToNat, Int.reduceEq, Int.reduceBEq, Int.reduceBNe, Nat.reduceBEq]; rfl) ?_
            simp only [go_sem, Nat.reduceEqDiff, Nat.reduceAdd, Nat.reduceLeDiff, Nat.reduceLT, ↓reduceIte, reduceCtorEq, Int.reduceLT, Int.reduceToNat, Int.reduceEq, Int.reduceBEq, Int.reduceBNe, Nat.reduceBEq, f0, f3, f7, e9, rd_bk, nrd, brd, bk_apply, Bool.false_or]
            exact sh _ h.n (Nat.le_refl _)
  · have hi : i = 5 := by simp at hc; omega
    subst hi
    have : k = 0 := by omega
    subst this
    rw [digs] at hd
    have hnp : numP r = (0, (q.1, true)) := by unfold numP; rw [← hd]
    rw [hnp]
    unfold rdB at hq
    have sh : Shrink h ⟨h.n, updB bk lb (.cells [.str q.1, .bool true])⟩ (h.rd lb (q.1, true)) := shrink_rd (fun l _ hne => by simp only [bk_apply, hne, if_false]; exact ho l hne) (by simp [bk_apply, rdB]) (Nat.le_refl _)
    simp only [go_sem, Nat.reduceEqDiff, Nat.reduceAdd, Nat.reduceLeDiff, Nat.reduceLT, ↓reduceIte, reduceCtorEq, Int.reduceLT, Int.reduceToNat, Int.reduceEq, Int.reduceBEq, Int.reduceBNe, Nat.reduceBEq, f0, f3, f7, hq]
    exact sh
end Go.Proofs.Ythaoooohomfkcaa.Ab
