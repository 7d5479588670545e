/- The reader of bytes: taking. -/
import Derived.Test.YthaoooohomfkcaaTt0
import Derived.Test.YthaoooohomfkcaaAb38
namespace Go.Proofs.Ythaoooohomfkcaa.Ab
set_option linter.unusedVariables false
set_option linter.unusedSimpArgs false
set_option maxRecDepth 10000
attribute [local go_sem] Nat.zero_le Bool.not_true Bool.not_false Bool.false_eq_true if_false if_true forall_const true_and and_true List.map Option.map Bool.and_self Bool.and_true Bool.true_and Bool.false_and Bool.and_false List.getElem?_cons_zero List.getElem?_nil List.getElem?_cons_succ Int.natCast_nonneg Int.toNat_natCast List.length_map List.length_cons List.length_nil Nat.zero_add Nat.le_refl List.drop_zero List.drop_succ_cons List.take_succ_cons List.take_zero List.take_nil ne_eq not_true_eq_false not_false_eq_true upd_same Nat.add_assoc Nat.left_eq_add Nat.add_eq_left Nat.add_left_cancel_iff Nat.succ_ne_self Nat.one_ne_zero Nat.add_zero Nat.le_add_right ite_self List.set_cons_zero List.set_cons_succ List.all_cons List.all_nil bne_self_eq_false List.isEmpty_cons Int.cast_ofNat_Int Nat.mul_one List.nil_append or_self or_true true_or List.cons_append List.append_nil Option.none_beq_some Option.some_beq_some beq_self_eq_true
theorem c94 : compF Try.prog ow Try.f94 = (some (42, ([(.t 4)], (.seq (.ops [(none, (.set 4 (.str [])))]) (.seq (.seq (.ops [(none, (.cp 6 0)), (none, (.nil (some 7) (.t 6))), (none, (.fa (some 8) (.t 7) 1)), (none, (.ld (some 9) (.t 8) (.one none))), (none, (.cp 10 9)), ((some (10, false)), (.cp 11 1)), ((some (10, false)), (.bin (some 12) .lss (.t 11) (.k (.int .i64 0)) false false)), (none, (.pick (some 13) (.t 10) (.k (.bool true)) (.t 12))), (none, (.cp 14 13)), ((some (14, false)), (.cp 15 1)), ((some (14, false)), (.cp 16 0)), ((some (14, false)), (.nil (some 17) (.t 16))), ((some (14, false)), (.fa (some 18) (.t 17) 0)), ((some (14, false)), (.ld (some 19) (.t 18) (.one none))), ((some (14, false)), (.len (some 20) (.t 19) true false)), ((some (14, false)), (.bin (some 21) .gtr (.t 15) (.t 20) false false)), (none, (.pick (some 22) (.t 14) (.k (.bool true)) (.t 21)))]) (.cond (.t 22) (.seq (.ops [(none, (.cp 23 0)), (none, (.nil (some 24) (.t 23))), (none, (.fa (some 25) (.t 24) 1)), (none, (.st (.t 25) (.k (.bool true)) 1))]) (.seq (.ops [(none, (.set 4 (.str [])))]) .ret)) .skip)) (.seq (.ops [(none, (.cp 26 0)), (none, (.nil (some 27) (.t 26))), (none, (.fa (some 28) (.t 27) 0)), (none, (.ld (some 29) (.t 28) (.one none))), (none, (.cp 30 1)), (none, (.sl (some 31) (.t 29) none (some (.t 30)) none true none)), (none, (.mv 5 31))]) (.seq (.ops [(none, (.cp 32 0)), (none, (.cp 33 0)), (none, (.nil (some 34) (.t 33))), (none, (.fa (some 35) (.t 34) 0)), (none, (.ld (some 36) (.t 35) (.one none))), (none, (.cp 37 1)), (none, (.sl (some 38) (.t 36) (some (.t 37)) none none true none)), (none, (.nil (some 39) (.t 32))), (none, (.fa (some 40) (.t 39) 0)), (none, (.st (.t 40) (.t 38) 1))]) (.seq (.ops [(none, (.mv 41 5)), (none, (.mv 4 41))]) .ret)))))))) := by kernel_rfl
theorem c95 : compF Try.prog ow Try.f95 = (some (12, ([(.t 2)], (.seq (.ops [(none, (.set 2 (.int .u8 0)))]) (.seq (.ops [(none, (.cp 4 0)), (none, (.call (some 5) (.k (.func 94 [] [])) [(.t 4), (.k (.int .i64 1))] (some 100))), (none, (.mv 3 5))]) (.seq (.seq (.ops [(none, (.cp 6 0)), (none, (.nil (some 7) (.t 6))), (none, (.fa (some 8) (.t 7) 1)), (none, (.ld (some 9) (.t 8) (.one none)))]) (.cond (.t 9) (.seq (.ops [(none, (.set 2 (.int .u8 0)))]) .ret) .skip)) (.seq (.ops [(none, (.cp 10 3)), (none, (.idx (some 11) (.t 10) (.k (.int .i64 0)) true none)), (none, (.mv 2 11))]) .ret))))))) := by kernel_rfl
theorem c100 : compF Try.prog ow Try.f100 = (some (34, ([(.t 2)], (.seq (.ops [(none, (.set 2 (.int .i64 0)))]) (.seq (.seq (.ops [(none, (.cp 4 0)), (none, (.nil (some 5) (.t 4))), (none, (.fa (some 6) (.t 5) 1)), (none, (.ld (some 7) (.t 6) (.one none))), (none, (.cp 8 7)), ((some (8, false)), (.cp 9 0)), ((some (8, false)), (.nil (some 10) (.t 9))), ((some (8, false)), (.fa (some 11) (.t 10) 0)), ((some (8, false)), (.ld (some 12) (.t 11) (.one none))), ((some (8, false)), (.len (some 13) (.t 12) true false)), ((some (8, false)), (.bin (some 14) .eql (.t 13) (.k (.int .i64 0)) false false)), (none, (.pick (some 15) (.t 8) (.k (.bool true)) (.t 14)))]) (.cond (.t 15) (.seq (.ops [(none, (.cp 16 0)), (none, (.nil (some 17) (.t 16))), (none, (.fa (some 18) (.t 17) 1)), (none, (.st (.t 18) (.k (.bool true)) 1))]) (.seq (.ops [(none, (.set 2 (.int .i64 0)))]) .ret)) .skip)) (.seq (.ops [(none, (.cp 19 0)), (none, (.nil (some 20) (.t 19))), (none, (.fa (some 21) (.t 20) 0)), (none, (.ld (some 22) (.t 21) (.one none))), (none, (.idx (some 23) (.t 22) (.k (.int .i64 0)) true none)), (none, (.mv 3 23))]) (.seq (.ops [(none, (.cp 24 0)), (none, (.cp 25 0)), (none, (.nil (some 26) (.t 25))), (none, (.fa (some 27) (.t 26) 0)), (none, (.ld (some 28) (.t 27) (.one none))), (none, (.sl (some 29) (.t 28) (some (.k (.int .i64 1))) none none true none)), (none, (.nil (some 30) (.t 24))), (none, (.fa (some 31) (.t 30) 0)), (none, (.st (.t 31) (.t 29) 1))]) (.seq (.ops [(none, (.cp 32 3)), (none, (.cvt (some 33) (.t 32) (some .i64) false false)), (none, (.mv 2 33))]) .ret)))))))) := by kernel_rfl
abbrev Rd := List UInt8 × Bool
def rdB (r : Rd) : Blk := .cells [.str r.1, .bool r.2]
def Hp.rd (h : Hp) (lb : Nat) (r : Rd) : Hp := ⟨h.n, updB h.bk lb (rdB r)⟩
theorem shrink_rd {h : Hp} {lb : Nat} {bk : Nat → Blk} {r : Rd} (h2 : ∀ l, l < h.n → l ≠ lb → bk l = h.bk l) (h3 : bk lb = rdB r) {n : Nat} (hn : h.n ≤ n) : Shrink h ⟨n, bk⟩ (h.rd lb r) := by
  refine ⟨Nat.le_refl _, hn, fun l hl => ?_⟩
  simp only [Hp.rd, bk_apply] at hl ⊢
  by_cases e : l = lb
  · subst e; simp only [if_true]; rw [h3]; exact ⟨rfl, .inr rfl⟩
  · simp [e, h2 l hl e, hl]
theorem shrink_rd1 (h : Hp) (lb : Nat) (r : Rd) : Shrink h ⟨h.n, updB h.bk lb (.cells [.str r.1, .bool r.2])⟩ (h.rd lb r) :=
  shrink_rd (fun l _ hne => by simp [bk_apply, hne]) (by simp [bk_apply, rdB]) (Nat.le_refl _)
def takeR (r : Rd) (n : Int) : List UInt8 × Rd := if r.2 = true ∨ n < 0 ∨ (r.1.length : Int) < n then ([], (r.1, true)) else (r.1.take n.toNat, (r.1.drop n.toNat, false))
theorem fn_take (r : Rd) (lb : Nat) (n : Int) (h : Hp) (hl : lb < h.n) (hb : h.bk lb = rdB r) : Fn Try.prog 94 [.ptr lb 0, .int .i64 n] h (.str (takeR r n).1) (h.rd lb (takeR r n).2) := by
  obtain ⟨s, bad⟩ := r
  unfold rdB at hb
  simp only at hb
  refine fnC mixed Try.func94 c94 (by simp) ?_
  cases bad with
  | true =>
    have hs := shrink_rd1 h lb (s, true)
    simp only [go_sem, Nat.reduceEqDiff, Nat.reduceAdd, Nat.reduceLeDiff, Nat.reduceLT, ↓reduceIte, reduceCtorEq, Int.reduceLT, Int.reduceToNat, Int.reduceEq, Int.reduceBEq, Int.reduceBNe, Nat.reduceBEq, hb]
    simp [takeR, hs]
  | false =>
    simp only [go_sem, Nat.reduceEqDiff, Nat.reduceAdd, Nat.reduceLeDiff, Nat.reduceLT, ↓reduceIte, reduceCtorEq, Int.reduceLT, Int.reduceToNat, Int.reduceEq, Int.reduceBEq, Int.reduceBNe, Nat.reduceBEq, hb]
    refine cog (fun h1 => ?_) (fun h1 => ?_)
    · simp only [go_sem, Nat.reduceEqDiff, Nat.reduceAdd, Nat.reduceLeDiff, Nat.reduceLT, ↓reduceIte, reduceCtorEq, Int.reduceLT, Int.reduceToNat, Int.reduceEq, Int.reduceBEq, Int.reduceBNe, Nat.reduceBEq, hb, h1]
      simp only [decide_eq_false_iff_not] at h1
      refine cif (fun h2 => ?_) (fun h2 => ?_)
      · have hs := shrink_rd1 h lb (s, true)
        simp at h2
        have e : takeR (s, false) n = ([], (s, true)) := by unfold takeR; rw [if_pos (by simp; omega)]
        rw [e]
        simp only [go_sem, Nat.reduceEqDiff, Nat.reduceAdd, Nat.reduceLeDiff, Nat.reduceLT, ↓reduceIte, reduceCtorEq, Int.reduceLT, Int.reduceToNat, Int.reduceEq, Int.reduceBEq, Int.reduceBNe, Nat.reduceBEq, hb]
        exact hs
      · simp at h2
        have e : takeR (s, false) n = (s.take n.toNat, (s.drop n.toNat, false)) := by unfold takeR; rw [if_neg (by simp; omega)]
        have n1 : natOf (.int .i64 n) = some n.toNat := by simp [natOf]; omega
        have n2 : n.toNat ≤ s.length := by omega
        have n3 : (0 : Nat) ≤ n.toNat := by omega
        have hs := shrink_rd1 h lb (s.drop n.toNat, false)
        rw [e]
        have dt : (s.drop n.toNat).take (s.length - n.toNat) = s.drop n.toNat := List.take_of_length_le (by simp)
        simp only [go_sem, Nat.reduceEqDiff, Nat.reduceAdd, Nat.reduceLeDiff, Nat.reduceLT, ↓reduceIte, reduceCtorEq, Int.reduceLT, Int.reduceToNat, Int.reduceEq, Int.reduceBEq, Int.reduceBNe, Nat.reduceBEq, hb, n1, n2, n3, Nat.sub_zero, Nat.zero_le, true_and, and_self, dt]
        exact hs
    · simp only [go_sem, Nat.reduceEqDiff, Nat.reduceAdd, Nat.reduceLeDiff, Nat.reduceLT, ↓reduceIte, reduceCtorEq, Int.reduceLT, Int.reduceToNat, Int.reduceEq, Int.reduceBEq, Int.reduceBNe, Nat.reduceBEq, hb, h1]
      simp at h1
      have e : takeR (s, false) n = ([], (s, true)) := by unfold takeR; rw [if_pos (by simp; omega)]
      rw [e]
      exact ⟨rfl, shrink_rd1 h lb (s, true)⟩
def oneR (r : Rd) : Nat × Rd := match r with
  | (s, true) => (0, (s, true))
  | ([], false) => (0, ([], true))
  | (c :: s, false) => (c.toNat, (s, false))
theorem rd_bk (h : Hp) (lb : Nat) (r : Rd) : (h.rd lb r).bk lb = .cells [.str r.1, .bool r.2] := by simp [Hp.rd, bk_apply, rdB]
theorem rd_n (h : Hp) (lb : Nat) (r : Rd) : (h.rd lb r).n = h.n := rfl
theorem rd_rd (h : Hp) (lb : Nat) (r q : Rd) : (h.rd lb r).rd lb q = h.rd lb q := by simp [Hp.rd, updB_upd]
theorem rd_ne {h : Hp} {lb l : Nat} {r : Rd} (hne : l ≠ lb) : (h.rd lb r).bk l = h.bk l := by simp [Hp.rd, bk_apply, hne]
theorem shrink_rdself (h : Hp) (lb : Nat) (r : Rd) : Shrink h (h.rd lb r) (h.rd lb r) := shrink_rd1 h lb r
theorem fn_one (r : Rd) (lb : Nat) (h : Hp) (hl : lb < h.n) (hb : h.bk lb = rdB r) : Fn Try.prog 95 [.ptr lb 0] h (.int .u8 (oneR r).1) (h.rd lb (oneR r).2) := by
  refine fnC mixed Try.func95 c95 (by simp) ?_
  simp only [go_sem, Nat.reduceEqDiff, Nat.reduceAdd, Nat.reduceLeDiff, Nat.reduceLT, ↓reduceIte, reduceCtorEq, Int.reduceLT, Int.reduceToNat, Int.reduceEq, Int.reduceBEq, Int.reduceBNe, Nat.reduceBEq]
  refine ccall (fn_take r lb 1 h hl hb) (by simp only [go_sem, Nat.reduceEqDiff, Nat.reduceAdd, Nat.reduceLeDiff, Nat.reduceLT, ↓reduceIte, reduceCtorEq, Int.reduceLT, Int.reduceToNat, Int.reduceEq, Int.reduceBEq, Int.reduceBNe, Nat.reduceBEq]) ?_
  obtain ⟨s, bad⟩ := r
  cases bad with
  | true =>
    have e : takeR (s, true) 1 = ([], (s, true)) := by simp [takeR]
    rw [e]
    have hs := shrink_rdself h lb (s, true)
    simp only [go_sem, Nat.reduceEqDiff, Nat.reduceAdd, Nat.reduceLeDiff, Nat.reduceLT, ↓reduceIte, reduceCtorEq, Int.reduceLT, Int.reduceToNat, Int.reduceEq, Int.reduceBEq, Int.reduceBNe, Nat.reduceBEq, rd_bk]
    simp [oneR, hs]
  | false =>
    cases s with
    | nil =>
      have e : takeR ([], false) 1 = ([], ([], true)) := by simp [takeR]
      rw [e]
      have hs := shrink_rdself h lb ([], true)
      simp only [go_sem, Nat.reduceEqDiff, Nat.reduceAdd, Nat.reduceLeDiff, Nat.reduceLT, ↓reduceIte, reduceCtorEq, Int.reduceLT, Int.reduceToNat, Int.reduceEq, Int.reduceBEq, Int.reduceBNe, Nat.reduceBEq, rd_bk]
      simp [oneR, hs]
    | cons c s =>
      have e : takeR (c :: s, false) 1 = ([c], (s, false)) := by simp [takeR]; omega
      rw [e]
      have hs := shrink_rdself h lb (s, false)
      have e0 : ([c] : List UInt8)[(0 : Int).toNat]? = some c := rfl
      simp only [go_sem, Nat.reduceEqDiff, Nat.reduceAdd, Nat.reduceLeDiff, Nat.reduceLT, ↓reduceIte, reduceCtorEq, Int.reduceLT, Int.reduceToNat, Int.reduceEq, Int.reduceBEq, Int.reduceBNe, Nat.reduceBEq, rd_bk, e0, Int.le_refl, decide_true]
      simp [oneR, hs]
theorem fn_byte (r : Rd) (lb : Nat) (h : Hp) (hl : lb < h.n) (hb : h.bk lb = rdB r) : Fn Try.prog 100 [.ptr lb 0] h (.int .i64 (oneR r).1) (h.rd lb (oneR r).2) := by
  refine fnC mixed Try.func100 c100 (by simp) ?_
  obtain ⟨s, bad⟩ := r
  unfold rdB at hb
  simp only at hb
  cases bad with
  | true =>
    have hs := shrink_rd1 h lb (s, true)
    simp only [go_sem, Nat.reduceEqDiff, Nat.reduceAdd, Nat.reduceLeDiff, Nat.reduceLT, ↓reduceIte, reduceCtorEq, Int.reduceLT, Int.reduceToNat, Int.reduceEq, Int.reduceBEq, Int.reduceBNe, Nat.reduceBEq, hb]
    simp [oneR, hs]
  | false =>
    cases s with
    | nil =>
      have hs := shrink_rd1 h lb ([], true)
      simp only [go_sem, Nat.reduceEqDiff, Nat.reduceAdd, Nat.reduceLeDiff, Nat.reduceLT, ↓reduceIte, reduceCtorEq, Int.reduceLT, Int.reduceToNat, Int.reduceEq, Int.reduceBEq, Int.reduceBNe, Nat.reduceBEq, hb]
      simp [oneR, hs]
    | cons c s =>
      have hs := shrink_rd1 h lb (s, false)
      have e0 : (c :: s)[(0 : Int).toNat]? = some c := rfl
      have hw : IntKind.i64.wrap (c.toNat : Int) = c.toNat := by have := c.toNat_lt; rw [wrap64] <;> omega
      have hlen : ((↑(s.length + 1) : Int) == 0) = false := by simp; omega
      have n1 : natOf (.int .i64 1) = some 1 := rfl
      have n2 : 1 ≤ s.length + 1 := by omega
      have dt : List.take (s.length + 1 - 1) s = s := List.take_of_length_le (by simp)
      simp only [go_sem, Nat.reduceEqDiff, Nat.reduceAdd, Nat.reduceLeDiff, Nat.reduceLT, ↓reduceIte, reduceCtorEq, Int.reduceLT, Int.reduceToNat, Int.reduceEq, Int.reduceBEq, Int.reduceBNe, Nat.reduceBEq, hb, e0, Int.le_refl, decide_true, hw, hlen, n1, n2, dt]
      simp [oneR, hs]
end Go.Proofs.Ythaoooohomfkcaa.Ab
