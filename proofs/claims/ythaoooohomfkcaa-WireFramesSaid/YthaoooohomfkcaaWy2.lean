/- A term out of bytes, the document's way. -/
import Derived.Test.YthaoooohomfkcaaWy1
namespace Go.Proofs.Ythaoooohomfkcaa.Ab
set_option linter.unusedVariables false
set_option linter.unusedSimpArgs false
set_option maxRecDepth 10000
attribute [local go_sem] Nat.zero_le Bool.not_true Bool.not_false Bool.false_eq_true if_false if_true forall_const true_and and_true List.map Option.map Bool.and_self Bool.and_true Bool.true_and Bool.false_and Bool.and_false List.getElem?_cons_zero List.getElem?_nil List.getElem?_cons_succ Int.natCast_nonneg Int.toNat_natCast List.length_map List.length_cons List.length_nil Nat.zero_add Nat.le_refl List.drop_zero List.drop_succ_cons List.take_succ_cons List.take_zero List.take_nil ne_eq not_true_eq_false not_false_eq_true upd_same Nat.add_assoc Nat.left_eq_add Nat.add_eq_left Nat.add_left_cancel_iff Nat.succ_ne_self Nat.one_ne_zero Nat.add_zero Nat.le_add_right ite_self List.set_cons_zero List.set_cons_succ List.all_cons List.all_nil bne_self_eq_false List.isEmpty_cons Int.cast_ofNat_Int Nat.mul_one List.nil_append or_self or_true true_or List.cons_append List.append_nil Option.none_beq_some Option.some_beq_some beq_self_eq_true
theorem c92 : compF Try.prog ow Try.f92 = (some (98, ([(.c 4 (.agg 4))], (.seq (.ops [(none, (.alloc 4 [(.int .i64 0), (.str []), (.int .i64 0), (.sl .full 4 [])]))]) (.seq (.ops [(none, (.cp 8 0)), (none, (.call (some 9) (.k (.func 100 [] [])) [(.t 8)] (some 100))), (none, (.bld (some 10) [(.int .i64 0), (.str []), (.int .i64 0), (.sl .full 4 [])] [(0, 1), (1, 1), (2, 1), (3, 1)] [(0, (.t 9))])), (none, (.alloc 5 [(.int .i64 0), (.str []), (.int .i64 0), (.sl .full 4 [])])), (none, (.st (.t 5) (.t 10) 4))]) (.seq (.seq (.ops [(none, (.fa (some 11) (.t 5) 0)), (none, (.ld (some 12) (.t 11) (.one none)))]) (.block 0 (.seq (.ops [(none, (.bin (some 18) .eql (.t 12) (.k (.int .i64 2)) false false)), (none, (.mv 17 18))]) (.cond (.t 17) (.seq (.ops [(none, (.cp 19 0)), (none, (.call (some 20) (.k (.func 90 [] [])) [(.t 19)] (some 100))), (none, (.fa (some 21) (.t 5) 2)), (none, (.st (.t 21) (.t 20) 1))]) (.seq (.ops [(none, (.ld (some 22) (.t 5) (.agg 4))), (none, (.st (.t 4) (.t 22) 4))]) .ret)) (.seq (.seq (.ops [(none, (.bin (some 24) .eql (.t 12) (.k (.int .i64 1)) false false)), (none, (.mv 23 24))]) (.cond (.t 23) .skip (.ops [(none, (.bin (some 25) .eql (.t 12) (.k (.int .i64 3)) false false)), (none, (.mv 23 25))]))) (.cond (.t 23) .skip (.seq (.ops [(none, (.cp 13 0)), (none, (.nil (some 14) (.t 13))), (none, (.fa (some 15) (.t 14) 1)), (none, (.st (.t 15) (.k (.bool true)) 1))]) (.seq (.ops [(none, (.ld (some 16) (.t 5) (.agg 4))), (none, (.st (.t 4) (.t 16) 4))]) .ret)))))))) (.seq (.ops [(none, (.cp 26 0)), (none, (.call (some 27) (.k (.func 100 [] [])) [(.t 26)] (some 100))), (none, (.mv 6 27))]) (.seq (.seq (.ops [(none, (.cp 28 0)), (none, (.nil (some 29) (.t 28))), (none, (.fa (some 30) (.t 29) 1)), (none, (.ld (some 31) (.t 30) (.one none))), (none, (.cp 32 31)), ((some (32, false)), (.cp 33 6)), ((some (32, false)), (.cp 34 0)), ((some (32, false)), (.nil (some 35) (.t 34))), ((some (32, false)), (.fa (some 36) (.t 35) 0)), ((some (32, false)), (.ld (some 37) (.t 36) (.one none))), ((some (32, false)), (.len (some 38) (.t 37) true false)), ((some (32, false)), (.bin (some 39) .gtr (.t 33) (.t 38) false false)), (none, (.pick (some 40) (.t 32) (.k (.bool true)) (.t 39)))]) (.cond (.t 40) (.seq (.ops [(none, (.cp 41 0)), (none, (.nil (some 42) (.t 41))), (none, (.fa (some 43) (.t 42) 1)), (none, (.st (.t 43) (.k (.bool true)) 1))]) (.seq (.ops [(none, (.ld (some 44) (.t 5) (.agg 4))), (none, (.st (.t 4) (.t 44) 4))]) .ret)) .skip)) (.seq (.opsT (.one none (.cp 45 0) (.one none (.cp 46 0) (.one none (.nil (some 47) (.t 46)) (.one none (.fa (some 48) (.t 47) 0) (.one none (.ld (some 49) (.t 48) (.one none)) (.one none (.cp 50 6) (.one none (.sl (some 51) (.t 49) none (some (.t 50)) none true none) (.one none (.cp 52 0) (.one none (.nil (some 53) (.t 52)) (.one none (.fa (some 54) (.t 53) 0) (.one none (.cp 56 6) (.one none (.fa (some 58) (.t 5) 1) (.alt none (.ld (some 55) (.t 54) (.one none)) (.one none (.sl (some 57) (.t 55) (some (.t 56)) none none true none) (.one none (.st (.t 58) (.t 51) 1) (.one none (.nil (some 59) (.t 45)) (.one none (.fa (some 60) (.t 59) 0) (.one none (.st (.t 60) (.t 57) 1) .done))))) (.alt none (.st (.t 58) (.t 51) 1) (.one none (.ld (some 55) (.t 54) (.one none)) (.one none (.sl (some 57) (.t 55) (some (.t 56)) none none true none) (.one none (.nil (some 59) (.t 45)) (.one none (.fa (some 60) (.t 59) 0) (.one none (.st (.t 60) (.t 57) 1) .done))))) .nil))))))))))))))) (.seq (.seq (.ops [(none, (.fa (some 61) (.t 5) 0)), (none, (.ld (some 62) (.t 61) (.one none))), (none, (.bin (some 63) .eql (.t 62) (.k (.int .i64 1)) false false))]) (.cond (.t 63) (.seq (.ops [(none, (.ld (some 64) (.t 5) (.agg 4))), (none, (.st (.t 4) (.t 64) 4))]) .ret) .skip)) (.seq (.ops [(none, (.cp 65 0)), (none, (.call (some 66) (.k (.func 100 [] [])) [(.t 65)] (some 100))), (none, (.mv 6 66))]) (.seq (.seq (.ops [(none, (.cp 67 6)), (none, (.bin (some 68) .gtr (.t 67) (.k (.int .i64 4)) false false)), (none, (.cp 69 68)), ((some (69, false)), (.cp 70 1)), ((some (69, false)), (.bin (some 71) .eql (.t 70) (.k (.int .i64 0)) false false)), (none, (.pick (some 72) (.t 69) (.k (.bool true)) (.t 71)))]) (.cond (.t 72) (.ops [(none, (.cp 73 0)), (none, (.nil (some 74) (.t 73))), (none, (.fa (some 75) (.t 74) 1)), (none, (.st (.t 75) (.k (.bool true)) 1))]) .skip)) (.seq (.seq (.ops [(none, (.set 7 (.int .i64 0)))]) (.block 1 (.loop (.seq (.seq (.ops [(none, (.cp 76 7)), (none, (.cp 77 6)), (none, (.bin (some 78) .lss (.t 76) (.t 77) false false)), (none, (.cp 79 78)), ((some (79, true)), (.cp 80 0)), ((some (79, true)), (.nil (some 81) (.t 80))), ((some (79, true)), (.fa (some 82) (.t 81) 1)), ((some (79, true)), (.ld (some 83) (.t 82) (.one none))), ((some (79, true)), (.un (some 84) .not (.t 83))), (none, (.pick (some 85) (.t 79) (.t 84) (.k (.bool false))))]) (.cond (.t 85) .skip (.exit 1))) (.seq (.block 2 (.opsT (.one none (.fa (some 88) (.t 5) 3) (.one none (.cp 90 0) (.one none (.cp 91 1) (.one none (.bin (some 92) .sub (.t 91) (.k (.int .i64 1)) false false) (.alt none (.ldT 89 (.t 88) (some 4)) (.one none (.call (some 93) (.k (.func 92 [] [])) [(.t 90), (.t 92)] (some 100)) (.one none (.bs 94 4 [(.t 93)]) (.one none (.app 95 (.t 89) (.t 94) 4 56 true true) (.one none (.fa (some 96) (.t 5) 3) (.one none (.st (.t 96) (.t 95) 1) .done))))) (.alt none (.call (some 93) (.k (.func 92 [] [])) [(.t 90), (.t 92)] (some 100)) (.one none (.ldT 89 (.t 88) (some 4)) (.one none (.bs 94 4 [(.t 93)]) (.one none (.app 95 (.t 89) (.t 94) 4 56 true true) (.one none (.fa (some 96) (.t 5) 3) (.one none (.st (.t 96) (.t 95) 1) .done))))) .nil)))))))) (.ops [(none, (.cp 86 7)), (none, (.bin (some 87) .add (.t 86) (.k (.int .i64 1)) false false)), (none, (.mv 7 87))])))))) (.seq (.ops [(none, (.ld (some 97) (.t 5) (.agg 4))), (none, (.st (.t 4) (.t 97) 4))]) .ret)))))))))))))) := by kernel_rfl
/-- the arguments' count as it is read: more than may be is bad -/
def cntR (d : Nat) (r : Rd) : Nat × Rd := ((oneR r).1, if 4 < (oneR r).1 ∨ d = 0 then ((oneR r).2.1, true) else (oneR r).2)
/-- a name's bytes -/
def nameQ (r : Rd) : Option (List UInt8 × Rd) := if (oneR r).2.2 = true ∨ (oneR r).2.1.length < (oneR r).1 then none else some ((oneR r).2.1.take (oneR r).1, ((oneR r).2.1.drop (oneR r).1, false))
def stepR (f : Rd → T × Rd) (d : Nat) (r : Rd) : T × Rd :=
  if (oneR r).1 = 2 then (.mk 2 [] (numQ (oneR r).2).1 [], (numQ (oneR r).2).2)
  else if (oneR r).1 = 1 ∨ (oneR r).1 = 3 then
    match nameQ (oneR r).2 with
    | none => (.mk (oneR r).1 [] 0 [], ((oneR (oneR r).2).2.1, true))
    | some s => if (oneR r).1 = 1 then (.mk 1 s.1 0 [], s.2) else (.mk 3 s.1 0 (repR f (cntR d s.2).1 (cntR d s.2).2).1, (repR f (cntR d s.2).1 (cntR d s.2).2).2)
  else (.mk (oneR r).1 [] 0 [], ((oneR r).2.1, true))
def decR : Nat → Rd → T × Rd
  | 0 => stepR (fun r => (.mk 0 [] 0 [], r)) 0
  | d + 1 => stepR (decR d) (d + 1)
attribute [local go_sem] strip_flS strip_flT isOwn_flS avf_agg strip_avf isOwn_avf avf_len avf_take avf_okc avf_put avf_cstrip
set_option maxHeartbeats 1600000 in
theorem fn_stepR (f : Rd → T × Rd) (d : Nat) (r : Rd) (lb : Nat) (h : Hp) (ih : d ≠ 0 → ∀ (r : Rd) (lb : Nat) (h : Hp), lb < h.n → h.bk lb = rdB r → Fn Try.prog 92 [.ptr lb 0, .int .i64 ((d - 1 : Nat) : Int)] h (f r).1.avf (h.rd lb (f r).2))
    (hd : d < 1000000) (hl : lb < h.n) (hb : h.bk lb = rdB r) : Fn Try.prog 92 [.ptr lb 0, .int .i64 (d : Nat)] h (stepR f d r).1.avf (h.rd lb (stepR f d r).2) := by
    have n0 : ¬ lb = h.n := by omega
    have n1 : ¬ lb = h.n + 1 := by omega
    have m0 : ¬ h.n = lb := by omega
    have m1 : ¬ h.n + 1 = lb := by omega
    have p0 : ¬ h.n = h.n + 1 := by omega
    have p1 : ¬ h.n + 1 = h.n := by omega
    have hk := oneR_lt r
    have hw := wn hk
    rw [stepR]
    refine fnC mixed Try.func92 c92 (by simp) ?_
    simp only [go_sem, Nat.reduceEqDiff, Nat.reduceAdd, Nat.reduceLeDiff, Nat.reduceLT, ↓reduceIte, reduceCtorEq, Int.reduceLT, Int.reduceToNat, Int.reduceEq, Int.reduceBEq, Int.reduceBNe, Nat.reduceBEq]
    refine ccall (fn_byte r lb ⟨h.n + 1, updB h.bk h.n (.cells [.int .i64 0, .str [], .int .i64 0, .sl .full 4 []])⟩ (by simp; omega) (by simp [bk_apply, n0, hb])) (by simp only [go_sem, Nat.reduceEqDiff, Nat.reduceAdd, Nat.reduceLeDiff, Nat.reduceLT, ↓reduceIte, reduceCtorEq, Int.reduceLT, Int.reduceToNat, Int.reduceEq, Int.reduceBEq, Int.reduceBNe, Nat.reduceBEq]) ?_
    by_cases c2 : (oneR r).1 = 2
    · rw [if_pos c2]
      have e3 : (((oneR r).1 : Int) == 2) = true := by rw [c2]; rfl
      simp only [go_sem, Nat.reduceEqDiff, Nat.reduceAdd, Nat.reduceLeDiff, Nat.reduceLT, ↓reduceIte, reduceCtorEq, Int.reduceLT, Int.reduceToNat, Int.reduceEq, Int.reduceBEq, Int.reduceBNe, Nat.reduceBEq, rd_def, n0, n1, m0, m1, p0, p1, hw, e3]
      refine ccall (fn_rnumber (oneR r).2 lb _ (by simp; omega) (by simp [bk_apply, rdB, n0, n1])) (by simp only [go_sem, Nat.reduceEqDiff, Nat.reduceAdd, Nat.reduceLeDiff, Nat.reduceLT, ↓reduceIte, reduceCtorEq, Int.reduceLT, Int.reduceToNat, Int.reduceEq, Int.reduceBEq, Int.reduceBNe, Nat.reduceBEq]) ?_
      simp only [go_sem, Nat.reduceEqDiff, Nat.reduceAdd, Nat.reduceLeDiff, Nat.reduceLT, ↓reduceIte, reduceCtorEq, Int.reduceLT, Int.reduceToNat, Int.reduceEq, Int.reduceBEq, Int.reduceBNe, Nat.reduceBEq, rd_def, n0, n1, m0, m1, p0, p1]
      exact ⟨by rw [c2]; rfl, lab_avf _ _, shrink_rd (fun l hl hne => by simp [bk_apply, hne, show l ≠ h.n by omega, show l ≠ h.n + 1 by omega]) (by simp [bk_apply, rdB, n0, n1]) (by omega)⟩
    rw [if_neg c2]
    have e3 : (((oneR r).1 : Int) == 2) = false := by simp; omega
    by_cases c1 : (oneR r).1 = 1 ∨ (oneR r).1 = 3
    · rw [if_pos c1]
      by_cases c3 : (oneR r).1 = 1
      · have e4 : (((oneR r).1 : Int) == 1) = true := by rw [c3]; rfl
        have e5 := e4
        simp only [go_sem, Nat.reduceEqDiff, Nat.reduceAdd, Nat.reduceLeDiff, Nat.reduceLT, ↓reduceIte, reduceCtorEq, Int.reduceLT, Int.reduceToNat, Int.reduceEq, Int.reduceBEq, Int.reduceBNe, Nat.reduceBEq, rd_def, n0, n1, m0, m1, p0, p1, hw, e3, e4, e5]
        have hc := oneR_lt (oneR r).2
        have hcw := wn hc
        refine ccall (fn_byte (oneR r).2 lb _ (by simp; omega) (by simp [bk_apply, rdB, n0, n1])) (by simp only [go_sem, Nat.reduceEqDiff, Nat.reduceAdd, Nat.reduceLeDiff, Nat.reduceLT, ↓reduceIte, reduceCtorEq, Int.reduceLT, Int.reduceToNat, Int.reduceEq, Int.reduceBEq, Int.reduceBNe, Nat.reduceBEq]) ?_
        unfold nameQ
        rcases hq : oneR (oneR r).2 with ⟨c, s2, b2⟩
        rw [hq] at hc hcw
        simp only at hc hcw
        by_cases cn : b2 = true ∨ s2.length < c
        · simp only [if_pos cn]
          cases b2 with
          | true =>
            simp only [go_sem, Nat.reduceEqDiff, Nat.reduceAdd, Nat.reduceLeDiff, Nat.reduceLT, ↓reduceIte, reduceCtorEq, Int.reduceLT, Int.reduceToNat, Int.reduceEq, Int.reduceBEq, Int.reduceBNe, Nat.reduceBEq, rd_def, n0, n1, m0, m1, p0, p1]
            exact ⟨rfl, lab_avf _ _, shrink_rd (fun l hl hne => by simp [bk_apply, hne, show l ≠ h.n by omega, show l ≠ h.n + 1 by omega]) (by simp [bk_apply, rdB, n0, n1]) (by omega)⟩
          | false =>
            have hg : decide ((c : Int) > (s2.length : Int)) = true := decide_eq_true (by simp at cn; omega)
            simp only [go_sem, Nat.reduceEqDiff, Nat.reduceAdd, Nat.reduceLeDiff, Nat.reduceLT, ↓reduceIte, reduceCtorEq, Int.reduceLT, Int.reduceToNat, Int.reduceEq, Int.reduceBEq, Int.reduceBNe, Nat.reduceBEq, rd_def, n0, n1, m0, m1, p0, p1, hg]
            exact ⟨rfl, lab_avf _ _, shrink_rd (fun l hl hne => by simp [bk_apply, hne, show l ≠ h.n by omega, show l ≠ h.n + 1 by omega]) (by simp [bk_apply, rdB, n0, n1]) (by omega)⟩
        simp only [if_neg cn]
        have hb2 : b2 = false := by cases b2 <;> simp at cn ⊢
        subst hb2
        have hg : decide ((c : Int) > (s2.length : Int)) = false := decide_eq_false (by simp at cn; omega)
        have q1 : natOf (.int .i64 (c : Int)) = some c := by simp [natOf]
        have q2 : c ≤ s2.length := by simp at cn; omega
        have dt : (s2.drop c).take (s2.length - c) = s2.drop c := List.take_of_length_le (by simp)
        simp only [go_sem, Nat.reduceEqDiff, Nat.reduceAdd, Nat.reduceLeDiff, Nat.reduceLT, ↓reduceIte, reduceCtorEq, Int.reduceLT, Int.reduceToNat, Int.reduceEq, Int.reduceBEq, Int.reduceBNe, Nat.reduceBEq, rd_def, n0, n1, m0, m1, p0, p1, hg, q1, q2, Nat.sub_zero, and_self, dt, e4]
        rw [if_pos c3]
        exact ⟨by rw [c3]; rfl, lab_avf _ _, shrink_rd (fun l hl hne => by simp [bk_apply, hne, show l ≠ h.n by omega, show l ≠ h.n + 1 by omega]) (by simp [bk_apply, rdB, n0, n1]) (by omega)⟩
      · have e4 : (((oneR r).1 : Int) == 1) = false := by simp; omega
        have e5 : (((oneR r).1 : Int) == 3) = true := by rw [show (oneR r).1 = 3 by omega]; rfl
        simp only [go_sem, Nat.reduceEqDiff, Nat.reduceAdd, Nat.reduceLeDiff, Nat.reduceLT, ↓reduceIte, reduceCtorEq, Int.reduceLT, Int.reduceToNat, Int.reduceEq, Int.reduceBEq, Int.reduceBNe, Nat.reduceBEq, rd_def, n0, n1, m0, m1, p0, p1, hw, e3, e4, e5]
        have hc := oneR_lt (oneR r).2
        have hcw := wn hc
        refine ccall (fn_byte (oneR r).2 lb _ (by simp; omega) (by simp [bk_apply, rdB, n0, n1])) (by simp only [go_sem, Nat.reduceEqDiff, Nat.reduceAdd, Nat.reduceLeDiff, Nat.reduceLT, ↓reduceIte, reduceCtorEq, Int.reduceLT, Int.reduceToNat, Int.reduceEq, Int.reduceBEq, Int.reduceBNe, Nat.reduceBEq]) ?_
        unfold nameQ
        rcases hq : oneR (oneR r).2 with ⟨c, s2, b2⟩
        rw [hq] at hc hcw
        simp only at hc hcw
        by_cases cn : b2 = true ∨ s2.length < c
        · simp only [if_pos cn]
          cases b2 with
          | true =>
            simp only [go_sem, Nat.reduceEqDiff, Nat.reduceAdd, Nat.reduceLeDiff, Nat.reduceLT, ↓reduceIte, reduceCtorEq, Int.reduceLT, Int.reduceToNat, Int.reduceEq, Int.reduceBEq, Int.reduceBNe, Nat.reduceBEq, rd_def, n0, n1, m0, m1, p0, p1]
            exact ⟨rfl, lab_avf _ _, shrink_rd (fun l hl hne => by simp [bk_apply, hne, show l ≠ h.n by omega, show l ≠ h.n + 1 by omega]) (by simp [bk_apply, rdB, n0, n1]) (by omega)⟩
          | false =>
            have hg : decide ((c : Int) > (s2.length : Int)) = true := decide_eq_true (by simp at cn; omega)
            simp only [go_sem, Nat.reduceEqDiff, Nat.reduceAdd, Nat.reduceLeDiff, Nat.reduceLT, ↓reduceIte, reduceCtorEq, Int.reduceLT, Int.reduceToNat, Int.reduceEq, Int.reduceBEq, Int.reduceBNe, Nat.reduceBEq, rd_def, n0, n1, m0, m1, p0, p1, hg]
            exact ⟨rfl, lab_avf _ _, shrink_rd (fun l hl hne => by simp [bk_apply, hne, show l ≠ h.n by omega, show l ≠ h.n + 1 by omega]) (by simp [bk_apply, rdB, n0, n1]) (by omega)⟩
        simp only [if_neg cn]
        have hb2 : b2 = false := by cases b2 <;> simp at cn ⊢
        subst hb2
        have hg : decide ((c : Int) > (s2.length : Int)) = false := decide_eq_false (by simp at cn; omega)
        have q1 : natOf (.int .i64 (c : Int)) = some c := by simp [natOf]
        have q2 : c ≤ s2.length := by simp at cn; omega
        have dt : (s2.drop c).take (s2.length - c) = s2.drop c := List.take_of_length_le (by simp)
        simp only [go_sem, Nat.reduceEqDiff, Nat.reduceAdd, Nat.reduceLeDiff, Nat.reduceLT, ↓reduceIte, reduceCtorEq, Int.reduceLT, Int.reduceToNat, Int.reduceEq, Int.reduceBEq, Int.reduceBNe, Nat.reduceBEq, rd_def, n0, n1, m0, m1, p0, p1, hg, q1, q2, Nat.sub_zero, and_self, dt, e4]
        rw [if_neg c3]
        have hkk : (oneR r).1 = 3 := by omega
        have hm := oneR_lt (s2.drop c, false)
        have hmw := wn hm
        refine ccall (fn_byte (s2.drop c, false) lb _ (by simp; omega) (by simp [bk_apply, rdB, n0, n1])) (by simp only [go_sem, Nat.reduceEqDiff, Nat.reduceAdd, Nat.reduceLeDiff, Nat.reduceLT, ↓reduceIte, reduceCtorEq, Int.reduceLT, Int.reduceToNat, Int.reduceEq, Int.reduceBEq, Int.reduceBNe, Nat.reduceBEq]) ?_
        by_cases d0 : d = 0
        · have hd0 : ((d : Int) == 0) = true := by rw [d0]; rfl
          by_cases m4 : 4 < (oneR (s2.drop c, false)).1
          · have hm4 : decide (((oneR (s2.drop c, false)).1 : Int) > 4) = true := decide_eq_true (by omega)
            have ec : cntR d (s2.drop c, false) = ((oneR (s2.drop c, false)).1, ((oneR (s2.drop c, false)).2.1, true)) := by unfold cntR; rw [if_pos (.inl m4)]
            rw [ec]
            simp only [go_sem, Nat.reduceEqDiff, Nat.reduceAdd, Nat.reduceLeDiff, Nat.reduceLT, ↓reduceIte, reduceCtorEq, Int.reduceLT, Int.reduceToNat, Int.reduceEq, Int.reduceBEq, Int.reduceBNe, Nat.reduceBEq, rd_def, n0, n1, m0, m1, p0, p1, hm4]
            generalize hM : oneR (s2.drop c, false) = w at *
            obtain ⟨M, w1, w2⟩ := w
            simp only at hm hmw hm4 ec ⊢
            refine cloop (fun k t => ∃ (q : Rd) (acc : List T), acc.length + k = M ∧ (d = 0 → q.2 = true) ∧ t.fr 0 = .ptr lb 0 ∧ t.fr 1 = .int .i64 (d : Nat) ∧ t.fr 4 = .ptr h.n 0 ∧ t.fr 5 = .ptr (h.n + 1) 0 ∧ t.fr 6 = .int .i64 (M : Nat) ∧ t.fr 7 = .int .i64 (acc.length : Nat) ∧
              t.hp.n = h.n + 2 ∧ t.hp.bk lb = .cells [.str q.1, .bool q.2] ∧ t.hp.bk h.n = .cells [.int .i64 0, .str [], .int .i64 0, .sl .full 4 []] ∧ t.hp.bk (h.n + 1) = .cells [.int .i64 3, .str (s2.take c), .int .i64 0, .sl (flT acc) 4 (acc.map T.avf)] ∧
              (∀ l, l < h.n → l ≠ lb → t.hp.bk l = h.bk l) ∧
              repR f M (w1, true) = (acc ++ (repR f k q).1, (repR f k q).2)) M ⟨(w1, true), [], by simp [ec, d0, fr_apply, argsF, bk_apply, flT, n0, n1, m0, m1, p0, p1, hkk]; exact fun l hl hne => by simp [hne, show l ≠ h.n by omega, show l ≠ h.n + 1 by omega]⟩ ?_
            rintro k ⟨g, hp⟩ ⟨q, acc, hlen, hdq, f0, f1, f4, f5, f6, f7, hn, hb1, hb2, hb3, hbo, he⟩
            simp only at f0 f1 f4 f5 f6 f7 hn hb1 hb2 hb3 hbo
            have fin : repR f k q = ([], q) → (T.mk 3 (s2.take c) 0 (repR f M (w1, true)).1).avf = .agg [.int .i64 3, .str (s2.take c), .int .i64 0, .sl (flS acc) 4 (acc.map T.avf)] ∧ (repR f M (w1, true)).2 = q := by
              intro e
              rw [he, e, List.append_nil, avf_mk]
              exact ⟨rfl, rfl⟩
            have lab := fun n => lab_avf n (T.mk 3 (s2.take c) 0 (repR f M (w1, true)).1)
            cases k with
            | zero =>
              obtain ⟨g2, g3⟩ := fin rfl
              have ei : decide ((acc.length : Int) < (M : Int)) = false := decide_eq_false (by omega)
              simp only [go_sem, Nat.reduceEqDiff, Nat.reduceAdd, Nat.reduceLeDiff, Nat.reduceLT, ↓reduceIte, reduceCtorEq, Int.reduceLT, Int.reduceToNat, Int.reduceEq, Int.reduceBEq, Int.reduceBNe, Nat.reduceBEq, f0, f1, f4, f5, f6, f7, hb1, hb2, hb3, ei, p0, p1]
              refine ⟨g2, lab _, ?_⟩
              rw [g3]
              exact shrink_rd (fun l hl hne => by simp only [bk_apply, show l ≠ h.n by omega, if_false]; exact hbo l hl hne) (by simp only [bk_apply, n0, if_false, hb1, rdB]) (by omega)
            | succ k =>
              have ei : decide ((acc.length : Int) < (M : Int)) = true := decide_eq_true (by omega)
              obtain ⟨qs, qb⟩ := q
              cases qb with
              | true =>
                obtain ⟨g2, g3⟩ := fin (by rw [repR, if_pos rfl])
                simp only [go_sem, Nat.reduceEqDiff, Nat.reduceAdd, Nat.reduceLeDiff, Nat.reduceLT, ↓reduceIte, reduceCtorEq, Int.reduceLT, Int.reduceToNat, Int.reduceEq, Int.reduceBEq, Int.reduceBNe, Nat.reduceBEq, f0, f1, f4, f5, f6, f7, hb1, hb2, hb3, ei, p0, p1]
                refine ⟨g2, lab _, ?_⟩
                rw [g3]
                exact shrink_rd (fun l hl hne => by simp only [bk_apply, show l ≠ h.n by omega, if_false]; exact hbo l hl hne) (by simp only [bk_apply, n0, if_false, hb1, rdB]) (by omega)
              | false =>
                have hd9 : d ≠ 0 := fun e => by have := hdq e; simp at this
                have hwd : IntKind.i64.wrap ((d : Int) - 1) = ((d - 1 : Nat) : Int) := by rw [wrap64] <;> omega
                rw [repR, if_neg (by simp)] at he
                simp only at he
                cases acc with
                | nil =>
                  have fl0 : flT [] = .full := rfl
                  rw [fl0] at hb3
                  have ei : decide ((0 : Int) < (M : Int)) = true := decide_eq_true (by simp at hlen; omega)
                  have hwi : IntKind.i64.wrap ((0 : Int) + 1) = 1 := by decide
                  have a1 : 1 * 56 ≤ 140737488355328 := by omega
                  have a2 : 0 ≤ 9223372036854775805 := by omega
                  simp only [go_sem, Nat.reduceEqDiff, Nat.reduceAdd, Nat.reduceLeDiff, Nat.reduceLT, ↓reduceIte, reduceCtorEq, Int.reduceLT, Int.reduceToNat, Int.reduceEq, Int.reduceBEq, Int.reduceBNe, Nat.reduceBEq, f0, f1, f4, f5, f6, f7, hb1, hb2, hb3, e5, p0, p1, hwd, ei]
                  refine ⟨?_, ?_⟩
                  · refine ccallD rfl (ih hd9 (qs, false) lb _ (by simp; omega) (by simp [bk_apply, rdB, n0, n1, hb1])) (by simp only [go_sem, Nat.reduceEqDiff, Nat.reduceAdd, Nat.reduceLeDiff, Nat.reduceLT, ↓reduceIte, reduceCtorEq, Int.reduceLT, Int.reduceToNat, Int.reduceEq, Int.reduceBEq, Int.reduceBNe, Nat.reduceBEq]) ?_
                    simp only [go_sem, Nat.reduceEqDiff, Nat.reduceAdd, Nat.reduceLeDiff, Nat.reduceLT, ↓reduceIte, reduceCtorEq, Int.reduceLT, Int.reduceToNat, Int.reduceEq, Int.reduceBEq, Int.reduceBNe, Nat.reduceBEq, f0, f1, f4, f5, f6, f7, rd_eta, n0, n1, m0, m1, p0, p1, hb3, hwi, a1, a2]
                    first
                      | exact ⟨k, by omega, (f (qs, false)).2, (x :: acc) ++ [(f (qs, false)).1], by simp at hlen ⊢; omega, fun e => absurd e hd9, by simp <;> omega, hn, rfl, hb2, by simp [flT], fun l hl hne => by simp [hne, show l ≠ h.n + 1 by omega]; exact hbo l hl hne, by rw [he]; simp⟩
                      | exact ⟨k, by omega, (f (qs, false)).2, [] ++ [(f (qs, false)).1], by simp at hlen ⊢; omega, fun e => absurd e hd9, by simp <;> omega, hn, rfl, hb2, by simp [flT], fun l hl hne => by simp [hne, show l ≠ h.n + 1 by omega]; exact hbo l hl hne, by rw [he]; simp⟩
                  · refine ccallD rfl (ih hd9 (qs, false) lb _ (by simp; omega) (by simp [bk_apply, rdB, n0, n1, hb1])) (by simp only [go_sem, Nat.reduceEqDiff, Nat.reduceAdd, Nat.reduceLeDiff, Nat.reduceLT, ↓reduceIte, reduceCtorEq, Int.reduceLT, Int.reduceToNat, Int.reduceEq, Int.reduceBEq, Int.reduceBNe, Nat.reduceBEq]) ?_
                    simp only [go_sem, Nat.reduceEqDiff, Nat.reduceAdd, Nat.reduceLeDiff, Nat.reduceLT, ↓reduceIte, reduceCtorEq, Int.reduceLT, Int.reduceToNat, Int.reduceEq, Int.reduceBEq, Int.reduceBNe, Nat.reduceBEq, f0, f1, f4, f5, f6, f7, rd_eta, n0, n1, m0, m1, p0, p1, hb3, hwi, a1, a2]
                    first
                      | exact ⟨k, by omega, (f (qs, false)).2, (x :: acc) ++ [(f (qs, false)).1], by simp at hlen ⊢; omega, fun e => absurd e hd9, by simp <;> omega, hn, rfl, hb2, by simp [flT], fun l hl hne => by simp [hne, show l ≠ h.n + 1 by omega]; exact hbo l hl hne, by rw [he]; simp⟩
                      | exact ⟨k, by omega, (f (qs, false)).2, [] ++ [(f (qs, false)).1], by simp at hlen ⊢; omega, fun e => absurd e hd9, by simp <;> omega, hn, rfl, hb2, by simp [flT], fun l hl hne => by simp [hne, show l ≠ h.n + 1 by omega]; exact hbo l hl hne, by rw [he]; simp⟩
                | cons x acc =>
                  have fl0 : flT (x :: acc) = .own := rfl
                  rw [fl0] at hb3
                  have ei : decide (((acc.length + 1 : Nat) : Int) < (M : Int)) = true := decide_eq_true (by simp at hlen; omega)
                  have hwi : IntKind.i64.wrap (((acc.length + 1 : Nat) : Int) + 1) = ((acc.length + 2 : Nat) : Int) := by rw [wrap64] <;> simp at hlen ⊢ <;> omega
                  have a1 : (acc.length + 2) * 56 ≤ 140737488355328 := by simp at hlen; omega
                  have a2 : acc.length ≤ 9223372036854775805 := by simp at hlen; omega
                  simp only [go_sem, Nat.reduceEqDiff, Nat.reduceAdd, Nat.reduceLeDiff, Nat.reduceLT, ↓reduceIte, reduceCtorEq, Int.reduceLT, Int.reduceToNat, Int.reduceEq, Int.reduceBEq, Int.reduceBNe, Nat.reduceBEq, f0, f1, f4, f5, f6, f7, hb1, hb2, hb3, e5, p0, p1, hwd, ei]
                  refine ⟨?_, ?_⟩
                  · refine ccallD rfl (ih hd9 (qs, false) lb _ (by simp; omega) (by simp [bk_apply, rdB, n0, n1, hb1])) (by simp only [go_sem, Nat.reduceEqDiff, Nat.reduceAdd, Nat.reduceLeDiff, Nat.reduceLT, ↓reduceIte, reduceCtorEq, Int.reduceLT, Int.reduceToNat, Int.reduceEq, Int.reduceBEq, Int.reduceBNe, Nat.reduceBEq]) ?_
                    simp only [go_sem, Nat.reduceEqDiff, Nat.reduceAdd, Nat.reduceLeDiff, Nat.reduceLT, ↓reduceIte, reduceCtorEq, Int.reduceLT, Int.reduceToNat, Int.reduceEq, Int.reduceBEq, Int.reduceBNe, Nat.reduceBEq, f0, f1, f4, f5, f6, f7, rd_eta, n0, n1, m0, m1, p0, p1, hb3, hwi, a1, a2]
                    first
                      | exact ⟨k, by omega, (f (qs, false)).2, (x :: acc) ++ [(f (qs, false)).1], by simp at hlen ⊢; omega, fun e => absurd e hd9, by simp <;> omega, hn, rfl, hb2, by simp [flT], fun l hl hne => by simp [hne, show l ≠ h.n + 1 by omega]; exact hbo l hl hne, by rw [he]; simp⟩
                      | exact ⟨k, by omega, (f (qs, false)).2, [] ++ [(f (qs, false)).1], by simp at hlen ⊢; omega, fun e => absurd e hd9, by simp <;> omega, hn, rfl, hb2, by simp [flT], fun l hl hne => by simp [hne, show l ≠ h.n + 1 by omega]; exact hbo l hl hne, by rw [he]; simp⟩
                  · refine ccallD rfl (ih hd9 (qs, false) lb _ (by simp; omega) (by simp [bk_apply, rdB, n0, n1, hb1])) (by simp only [go_sem, Nat.reduceEqDiff, Nat.reduceAdd, Nat.reduceLeDiff, Nat.reduceLT, ↓reduceIte, reduceCtorEq, Int.reduceLT, Int.reduceToNat, Int.reduceEq, Int.reduceBEq, Int.reduceBNe, Nat.reduceBEq]) ?_
                    simp only [go_sem, Nat.reduceEqDiff, Nat.reduceAdd, Nat.reduceLeDiff, Nat.reduceLT, ↓reduceIte, reduceCtorEq, Int.reduceLT, Int.reduceToNat, Int.reduceEq, Int.reduceBEq, Int.reduceBNe, Nat.reduceBEq, f0, f1, f4, f5, f6, f7, rd_eta, n0, n1, m0, m1, p0, p1, hb3, hwi, a1, a2]
                    first
                      | exact ⟨k, by omega, (f (qs, false)).2, (x :: acc) ++ [(f (qs, false)).1], by simp at hlen ⊢; omega, fun e => absurd e hd9, by simp <;> omega, hn, rfl, hb2, by simp [flT], fun l hl hne => by simp [hne, show l ≠ h.n + 1 by omega]; exact hbo l hl hne, by rw [he]; simp⟩
                      | exact ⟨k, by omega, (f (qs, false)).2, [] ++ [(f (qs, false)).1], by simp at hlen ⊢; omega, fun e => absurd e hd9, by simp <;> omega, hn, rfl, hb2, by simp [flT], fun l hl hne => by simp [hne, show l ≠ h.n + 1 by omega]; exact hbo l hl hne, by rw [he]; simp⟩
          · have hm4 : decide (((oneR (s2.drop c, false)).1 : Int) > 4) = false := decide_eq_false (by omega)
            have ec : cntR d (s2.drop c, false) = ((oneR (s2.drop c, false)).1, ((oneR (s2.drop c, false)).2.1, true)) := by unfold cntR; rw [if_pos (.inr d0)]
            rw [ec]
            simp only [go_sem, Nat.reduceEqDiff, Nat.reduceAdd, Nat.reduceLeDiff, Nat.reduceLT, ↓reduceIte, reduceCtorEq, Int.reduceLT, Int.reduceToNat, Int.reduceEq, Int.reduceBEq, Int.reduceBNe, Nat.reduceBEq, rd_def, n0, n1, m0, m1, p0, p1, hm4, hd0]
            generalize hM : oneR (s2.drop c, false) = w at *
            obtain ⟨M, w1, w2⟩ := w
            simp only at hm hmw hm4 ec ⊢
            refine cloop (fun k t => ∃ (q : Rd) (acc : List T), acc.length + k = M ∧ (d = 0 → q.2 = true) ∧ t.fr 0 = .ptr lb 0 ∧ t.fr 1 = .int .i64 (d : Nat) ∧ t.fr 4 = .ptr h.n 0 ∧ t.fr 5 = .ptr (h.n + 1) 0 ∧ t.fr 6 = .int .i64 (M : Nat) ∧ t.fr 7 = .int .i64 (acc.length : Nat) ∧
              t.hp.n = h.n + 2 ∧ t.hp.bk lb = .cells [.str q.1, .bool q.2] ∧ t.hp.bk h.n = .cells [.int .i64 0, .str [], .int .i64 0, .sl .full 4 []] ∧ t.hp.bk (h.n + 1) = .cells [.int .i64 3, .str (s2.take c), .int .i64 0, .sl (flT acc) 4 (acc.map T.avf)] ∧
              (∀ l, l < h.n → l ≠ lb → t.hp.bk l = h.bk l) ∧
              repR f M (w1, true) = (acc ++ (repR f k q).1, (repR f k q).2)) M ⟨(w1, true), [], by simp [ec, d0, fr_apply, argsF, bk_apply, flT, n0, n1, m0, m1, p0, p1, hkk]; exact fun l hl hne => by simp [hne, show l ≠ h.n by omega, show l ≠ h.n + 1 by omega]⟩ ?_
            rintro k ⟨g, hp⟩ ⟨q, acc, hlen, hdq, f0, f1, f4, f5, f6, f7, hn, hb1, hb2, hb3, hbo, he⟩
            simp only at f0 f1 f4 f5 f6 f7 hn hb1 hb2 hb3 hbo
            have fin : repR f k q = ([], q) → (T.mk 3 (s2.take c) 0 (repR f M (w1, true)).1).avf = .agg [.int .i64 3, .str (s2.take c), .int .i64 0, .sl (flS acc) 4 (acc.map T.avf)] ∧ (repR f M (w1, true)).2 = q := by
              intro e
              rw [he, e, List.append_nil, avf_mk]
              exact ⟨rfl, rfl⟩
            have lab := fun n => lab_avf n (T.mk 3 (s2.take c) 0 (repR f M (w1, true)).1)
            cases k with
            | zero =>
              obtain ⟨g2, g3⟩ := fin rfl
              have ei : decide ((acc.length : Int) < (M : Int)) = false := decide_eq_false (by omega)
              simp only [go_sem, Nat.reduceEqDiff, Nat.reduceAdd, Nat.reduceLeDiff, Nat.reduceLT, ↓reduceIte, reduceCtorEq, Int.reduceLT, Int.reduceToNat, Int.reduceEq, Int.reduceBEq, Int.reduceBNe, Nat.reduceBEq, f0, f1, f4, f5, f6, f7, hb1, hb2, hb3, ei, p0, p1]
              refine ⟨g2, lab _, ?_⟩
              rw [g3]
              exact shrink_rd (fun l hl hne => by simp only [bk_apply, show l ≠ h.n by omega, if_false]; exact hbo l hl hne) (by simp only [bk_apply, n0, if_false, hb1, rdB]) (by omega)
            | succ k =>
              have ei : decide ((acc.length : Int) < (M : Int)) = true := decide_eq_true (by omega)
              obtain ⟨qs, qb⟩ := q
              cases qb with
              | true =>
                obtain ⟨g2, g3⟩ := fin (by rw [repR, if_pos rfl])
                simp only [go_sem, Nat.reduceEqDiff, Nat.reduceAdd, Nat.reduceLeDiff, Nat.reduceLT, ↓reduceIte, reduceCtorEq, Int.reduceLT, Int.reduceToNat, Int.reduceEq, Int.reduceBEq, Int.reduceBNe, Nat.reduceBEq, f0, f1, f4, f5, f6, f7, hb1, hb2, hb3, ei, p0, p1]
                refine ⟨g2, lab _, ?_⟩
                rw [g3]
                exact shrink_rd (fun l hl hne => by simp only [bk_apply, show l ≠ h.n by omega, if_false]; exact hbo l hl hne) (by simp only [bk_apply, n0, if_false, hb1, rdB]) (by omega)
              | false =>
                have hd9 : d ≠ 0 := fun e => by have := hdq e; simp at this
                have hwd : IntKind.i64.wrap ((d : Int) - 1) = ((d - 1 : Nat) : Int) := by rw [wrap64] <;> omega
                rw [repR, if_neg (by simp)] at he
                simp only at he
                cases acc with
                | nil =>
                  have fl0 : flT [] = .full := rfl
                  rw [fl0] at hb3
                  have ei : decide ((0 : Int) < (M : Int)) = true := decide_eq_true (by simp at hlen; omega)
                  have hwi : IntKind.i64.wrap ((0 : Int) + 1) = 1 := by decide
                  have a1 : 1 * 56 ≤ 140737488355328 := by omega
                  have a2 : 0 ≤ 9223372036854775805 := by omega
                  simp only [go_sem, Nat.reduceEqDiff, Nat.reduceAdd, Nat.reduceLeDiff, Nat.reduceLT, ↓reduceIte, reduceCtorEq, Int.reduceLT, Int.reduceToNat, Int.reduceEq, Int.reduceBEq, Int.reduceBNe, Nat.reduceBEq, f0, f1, f4, f5, f6, f7, hb1, hb2, hb3, e5, p0, p1, hwd, ei]
                  refine ⟨?_, ?_⟩
                  · refine ccallD rfl (ih hd9 (qs, false) lb _ (by simp; omega) (by simp [bk_apply, rdB, n0, n1, hb1])) (by simp only [go_sem, Nat.reduceEqDiff, Nat.reduceAdd, Nat.reduceLeDiff, Nat.reduceLT, ↓reduceIte, reduceCtorEq, Int.reduceLT, Int.reduceToNat, Int.reduceEq, Int.reduceBEq, Int.reduceBNe, Nat.reduceBEq]) ?_
                    simp only [go_sem, Nat.reduceEqDiff, Nat.reduceAdd, Nat.reduceLeDiff, Nat.reduceLT, ↓reduceIte, reduceCtorEq, Int.reduceLT, Int.reduceToNat, Int.reduceEq, Int.reduceBEq, Int.reduceBNe, Nat.reduceBEq, f0, f1, f4, f5, f6, f7, rd_eta, n0, n1, m0, m1, p0, p1, hb3, hwi, a1, a2]
                    first
                      | exact ⟨k, by omega, (f (qs, false)).2, (x :: acc) ++ [(f (qs, false)).1], by simp at hlen ⊢; omega, fun e => absurd e hd9, by simp <;> omega, hn, rfl, hb2, by simp [flT], fun l hl hne => by simp [hne, show l ≠ h.n + 1 by omega]; exact hbo l hl hne, by rw [he]; simp⟩
                      | exact ⟨k, by omega, (f (qs, false)).2, [] ++ [(f (qs, false)).1], by simp at hlen ⊢; omega, fun e => absurd e hd9, by simp <;> omega, hn, rfl, hb2, by simp [flT], fun l hl hne => by simp [hne, show l ≠ h.n + 1 by omega]; exact hbo l hl hne, by rw [he]; simp⟩
                  · refine ccallD rfl (ih hd9 (qs, false) lb _ (by simp; omega) (by simp [bk_apply, rdB, n0, n1, hb1])) (by simp only [go_sem, Nat.reduceEqDiff, Nat.reduceAdd, Nat.reduceLeDiff, Nat.reduceLT, ↓reduceIte, reduceCtorEq, Int.reduceLT, Int.reduceToNat, Int.reduceEq, Int.reduceBEq, Int.reduceBNe, Nat.reduceBEq]) ?_
                    simp only [go_sem, Nat.reduceEqDiff, Nat.reduceAdd, Nat.reduceLeDiff, Nat.reduceLT, ↓reduceIte, reduceCtorEq, Int.reduceLT, Int.reduceToNat, Int.reduceEq, Int.reduceBEq, Int.reduceBNe, Nat.reduceBEq, f0, f1, f4, f5, f6, f7, rd_eta, n0, n1, m0, m1, p0, p1, hb3, hwi, a1, a2]
                    first
                      | exact ⟨k, by omega, (f (qs, false)).2, (x :: acc) ++ [(f (qs, false)).1], by simp at hlen ⊢; omega, fun e => absurd e hd9, by simp <;> omega, hn, rfl, hb2, by simp [flT], fun l hl hne => by simp [hne, show l ≠ h.n + 1 by omega]; exact hbo l hl hne, by rw [he]; simp⟩
                      | exact ⟨k, by omega, (f (qs, false)).2, [] ++ [(f (qs, false)).1], by simp at hlen ⊢; omega, fun e => absurd e hd9, by simp <;> omega, hn, rfl, hb2, by simp [flT], fun l hl hne => by simp [hne, show l ≠ h.n + 1 by omega]; exact hbo l hl hne, by rw [he]; simp⟩
                | cons x acc =>
                  have fl0 : flT (x :: acc) = .own := rfl
                  rw [fl0] at hb3
                  have ei : decide (((acc.length + 1 : Nat) : Int) < (M : Int)) = true := decide_eq_true (by simp at hlen; omega)
                  have hwi : IntKind.i64.wrap (((acc.length + 1 : Nat) : Int) + 1) = ((acc.length + 2 : Nat) : Int) := by rw [wrap64] <;> simp at hlen ⊢ <;> omega
                  have a1 : (acc.length + 2) * 56 ≤ 140737488355328 := by simp at hlen; omega
                  have a2 : acc.length ≤ 9223372036854775805 := by simp at hlen; omega
                  simp only [go_sem, Nat.reduceEqDiff, Nat.reduceAdd, Nat.reduceLeDiff, Nat.reduceLT, ↓reduceIte, reduceCtorEq, Int.reduceLT, Int.reduceToNat, Int.reduceEq, Int.reduceBEq, Int.reduceBNe, Nat.reduceBEq, f0, f1, f4, f5, f6, f7, hb1, hb2, hb3, e5, p0, p1, hwd, ei]
                  refine ⟨?_, ?_⟩
                  · refine ccallD rfl (ih hd9 (qs, false) lb _ (by simp; omega) (by simp [bk_apply, rdB, n0, n1, hb1])) (by simp only [go_sem, Nat.reduceEqDiff, Nat.reduceAdd, Nat.reduceLeDiff, Nat.reduceLT, ↓reduceIte, reduceCtorEq, Int.reduceLT, Int.reduceToNat, Int.reduceEq, Int.reduceBEq, Int.reduceBNe, Nat.reduceBEq]) ?_
                    simp only [go_sem, Nat.reduceEqDiff, Nat.reduceAdd, Nat.reduceLeDiff, Nat.reduceLT, ↓reduceIte, reduceCtorEq, Int.reduceLT, Int.reduceToNat, Int.reduceEq, Int.reduceBEq, Int.reduceBNe, Nat.reduceBEq, f0, f1, f4, f5, f6, f7, rd_eta, n0, n1, m0, m1, p0, p1, hb3, hwi, a1, a2]
                    first
                      | exact ⟨k, by omega, (f (qs, false)).2, (x :: acc) ++ [(f (qs, false)).1], by simp at hlen ⊢; omega, fun e => absurd e hd9, by simp <;> omega, hn, rfl, hb2, by simp [flT], fun l hl hne => by simp [hne, show l ≠ h.n + 1 by omega]; exact hbo l hl hne, by rw [he]; simp⟩
                      | exact ⟨k, by omega, (f (qs, false)).2, [] ++ [(f (qs, false)).1], by simp at hlen ⊢; omega, fun e => absurd e hd9, by simp <;> omega, hn, rfl, hb2, by simp [flT], fun l hl hne => by simp [hne, show l ≠ h.n + 1 by omega]; exact hbo l hl hne, by rw [he]; simp⟩
                  · refine ccallD rfl (ih hd9 (qs, false) lb _ (by simp; omega) (by simp [bk_apply, rdB, n0, n1, hb1])) (by simp only [go_sem, Nat.reduceEqDiff, Nat.reduceAdd, Nat.reduceLeDiff, Nat.reduceLT, ↓reduceIte, reduceCtorEq, Int.reduceLT, Int.reduceToNat, Int.reduceEq, Int.reduceBEq, Int.reduceBNe, Nat.reduceBEq]) ?_
                    simp only [go_sem, Nat.reduceEqDiff, Nat.reduceAdd, Nat.reduceLeDiff, Nat.reduceLT, ↓reduceIte, reduceCtorEq, Int.reduceLT, Int.reduceToNat, Int.reduceEq, Int.reduceBEq, Int.reduceBNe, Nat.reduceBEq, f0, f1, f4, f5, f6, f7, rd_eta, n0, n1, m0, m1, p0, p1, hb3, hwi, a1, a2]
                    first
                      | exact ⟨k, by omega, (f (qs, false)).2, (x :: acc) ++ [(f (qs, false)).1], by simp at hlen ⊢; omega, fun e => absurd e hd9, by simp <;> omega, hn, rfl, hb2, by simp [flT], fun l hl hne => by simp [hne, show l ≠ h.n + 1 by omega]; exact hbo l hl hne, by rw [he]; simp⟩
                      | exact ⟨k, by omega, (f (qs, false)).2, [] ++ [(f (qs, false)).1], by simp at hlen ⊢; omega, fun e => absurd e hd9, by simp <;> omega, hn, rfl, hb2, by simp [flT], fun l hl hne => by simp [hne, show l ≠ h.n + 1 by omega]; exact hbo l hl hne, by rw [he]; simp⟩
        · have hd0 : ((d : Int) == 0) = false := by simpa using d0
          by_cases m4 : 4 < (oneR (s2.drop c, false)).1
          · have hm4 : decide (((oneR (s2.drop c, false)).1 : Int) > 4) = true := decide_eq_true (by omega)
            have ec : cntR d (s2.drop c, false) = ((oneR (s2.drop c, false)).1, ((oneR (s2.drop c, false)).2.1, true)) := by unfold cntR; rw [if_pos (.inl m4)]
            rw [ec]
            simp only [go_sem, Nat.reduceEqDiff, Nat.reduceAdd, Nat.reduceLeDiff, Nat.reduceLT, ↓reduceIte, reduceCtorEq, Int.reduceLT, Int.reduceToNat, Int.reduceEq, Int.reduceBEq, Int.reduceBNe, Nat.reduceBEq, rd_def, n0, n1, m0, m1, p0, p1, hm4]
            generalize hM : oneR (s2.drop c, false) = w at *
            obtain ⟨M, w1, w2⟩ := w
            simp only at hm hmw hm4 ec ⊢
            refine cloop (fun k t => ∃ (q : Rd) (acc : List T), acc.length + k = M ∧ (d = 0 → q.2 = true) ∧ t.fr 0 = .ptr lb 0 ∧ t.fr 1 = .int .i64 (d : Nat) ∧ t.fr 4 = .ptr h.n 0 ∧ t.fr 5 = .ptr (h.n + 1) 0 ∧ t.fr 6 = .int .i64 (M : Nat) ∧ t.fr 7 = .int .i64 (acc.length : Nat) ∧
              t.hp.n = h.n + 2 ∧ t.hp.bk lb = .cells [.str q.1, .bool q.2] ∧ t.hp.bk h.n = .cells [.int .i64 0, .str [], .int .i64 0, .sl .full 4 []] ∧ t.hp.bk (h.n + 1) = .cells [.int .i64 3, .str (s2.take c), .int .i64 0, .sl (flT acc) 4 (acc.map T.avf)] ∧
              (∀ l, l < h.n → l ≠ lb → t.hp.bk l = h.bk l) ∧
              repR f M (w1, true) = (acc ++ (repR f k q).1, (repR f k q).2)) M ⟨(w1, true), [], by simp [ec, d0, fr_apply, argsF, bk_apply, flT, n0, n1, m0, m1, p0, p1, hkk]; exact fun l hl hne => by simp [hne, show l ≠ h.n by omega, show l ≠ h.n + 1 by omega]⟩ ?_
            rintro k ⟨g, hp⟩ ⟨q, acc, hlen, hdq, f0, f1, f4, f5, f6, f7, hn, hb1, hb2, hb3, hbo, he⟩
            simp only at f0 f1 f4 f5 f6 f7 hn hb1 hb2 hb3 hbo
            have fin : repR f k q = ([], q) → (T.mk 3 (s2.take c) 0 (repR f M (w1, true)).1).avf = .agg [.int .i64 3, .str (s2.take c), .int .i64 0, .sl (flS acc) 4 (acc.map T.avf)] ∧ (repR f M (w1, true)).2 = q := by
              intro e
              rw [he, e, List.append_nil, avf_mk]
              exact ⟨rfl, rfl⟩
            have lab := fun n => lab_avf n (T.mk 3 (s2.take c) 0 (repR f M (w1, true)).1)
            cases k with
            | zero =>
              obtain ⟨g2, g3⟩ := fin rfl
              have ei : decide ((acc.length : Int) < (M : Int)) = false := decide_eq_false (by omega)
              simp only [go_sem, Nat.reduceEqDiff, Nat.reduceAdd, Nat.reduceLeDiff, Nat.reduceLT, ↓reduceIte, reduceCtorEq, Int.reduceLT, Int.reduceToNat, Int.reduceEq, Int.reduceBEq, Int.reduceBNe, Nat.reduceBEq, f0, f1, f4, f5, f6, f7, hb1, hb2, hb3, ei, p0, p1]
              refine ⟨g2, lab _, ?_⟩
              rw [g3]
              exact shrink_rd (fun l hl hne => by simp only [bk_apply, show l ≠ h.n by omega, if_false]; exact hbo l hl hne) (by simp only [bk_apply, n0, if_false, hb1, rdB]) (by omega)
            | succ k =>
              have ei : decide ((acc.length : Int) < (M : Int)) = true := decide_eq_true (by omega)
              obtain ⟨qs, qb⟩ := q
              cases qb with
              | true =>
                obtain ⟨g2, g3⟩ := fin (by rw [repR, if_pos rfl])
                simp only [go_sem, Nat.reduceEqDiff, Nat.reduceAdd, Nat.reduceLeDiff, Nat.reduceLT, ↓reduceIte, reduceCtorEq, Int.reduceLT, Int.reduceToNat, Int.reduceEq, Int.reduceBEq, Int.reduceBNe, Nat.reduceBEq, f0, f1, f4, f5, f6, f7, hb1, hb2, hb3, ei, p0, p1]
                refine ⟨g2, lab _, ?_⟩
                rw [g3]
                exact shrink_rd (fun l hl hne => by simp only [bk_apply, show l ≠ h.n by omega, if_false]; exact hbo l hl hne) (by simp only [bk_apply, n0, if_false, hb1, rdB]) (by omega)
              | false =>
                have hd9 : d ≠ 0 := fun e => by have := hdq e; simp at this
                have hwd : IntKind.i64.wrap ((d : Int) - 1) = ((d - 1 : Nat) : Int) := by rw [wrap64] <;> omega
                rw [repR, if_neg (by simp)] at he
                simp only at he
                cases acc with
                | nil =>
                  have fl0 : flT [] = .full := rfl
                  rw [fl0] at hb3
                  have ei : decide ((0 : Int) < (M : Int)) = true := decide_eq_true (by simp at hlen; omega)
                  have hwi : IntKind.i64.wrap ((0 : Int) + 1) = 1 := by decide
                  have a1 : 1 * 56 ≤ 140737488355328 := by omega
                  have a2 : 0 ≤ 9223372036854775805 := by omega
                  simp only [go_sem, Nat.reduceEqDiff, Nat.reduceAdd, Nat.reduceLeDiff, Nat.reduceLT, ↓reduceIte, reduceCtorEq, Int.reduceLT, Int.reduceToNat, Int.reduceEq, Int.reduceBEq, Int.reduceBNe, Nat.reduceBEq, f0, f1, f4, f5, f6, f7, hb1, hb2, hb3, e5, p0, p1, hwd, ei]
                  refine ⟨?_, ?_⟩
                  · refine ccallD rfl (ih hd9 (qs, false) lb _ (by simp; omega) (by simp [bk_apply, rdB, n0, n1, hb1])) (by simp only [go_sem, Nat.reduceEqDiff, Nat.reduceAdd, Nat.reduceLeDiff, Nat.reduceLT, ↓reduceIte, reduceCtorEq, Int.reduceLT, Int.reduceToNat, Int.reduceEq, Int.reduceBEq, Int.reduceBNe, Nat.reduceBEq]) ?_
                    simp only [go_sem, Nat.reduceEqDiff, Nat.reduceAdd, Nat.reduceLeDiff, Nat.reduceLT, ↓reduceIte, reduceCtorEq, Int.reduceLT, Int.reduceToNat, Int.reduceEq, Int.reduceBEq, Int.reduceBNe, Nat.reduceBEq, f0, f1, f4, f5, f6, f7, rd_eta, n0, n1, m0, m1, p0, p1, hb3, hwi, a1, a2]
                    first
                      | exact ⟨k, by omega, (f (qs, false)).2, (x :: acc) ++ [(f (qs, false)).1], by simp at hlen ⊢; omega, fun e => absurd e hd9, by simp <;> omega, hn, rfl, hb2, by simp [flT], fun l hl hne => by simp [hne, show l ≠ h.n + 1 by omega]; exact hbo l hl hne, by rw [he]; simp⟩
                      | exact ⟨k, by omega, (f (qs, false)).2, [] ++ [(f (qs, false)).1], by simp at hlen ⊢; omega, fun e => absurd e hd9, by simp <;> omega, hn, rfl, hb2, by simp [flT], fun l hl hne => by simp [hne, show l ≠ h.n + 1 by omega]; exact hbo l hl hne, by rw [he]; simp⟩
                  · refine ccallD rfl (ih hd9 (qs, false) lb _ (by simp; omega) (by simp [bk_apply, rdB, n0, n1, hb1])) (by simp only [go_sem, Nat.reduceEqDiff, Nat.reduceAdd, Nat.reduceLeDiff, Nat.reduceLT, ↓reduceIte, reduceCtorEq, Int.reduceLT, Int.reduceToNat, Int.reduceEq, Int.reduceBEq, Int.reduceBNe, Nat.reduceBEq]) ?_
                    simp only [go_sem, Nat.reduceEqDiff, Nat.reduceAdd, Nat.reduceLeDiff, Nat.reduceLT, ↓reduceIte, reduceCtorEq, Int.reduceLT, Int.reduceToNat, Int.reduceEq, Int.reduceBEq, Int.reduceBNe, Nat.reduceBEq, f0, f1, f4, f5, f6, f7, rd_eta, n0, n1, m0, m1, p0, p1, hb3, hwi, a1, a2]
                    first
                      | exact ⟨k, by omega, (f (qs, false)).2, (x :: acc) ++ [(f (qs, false)).1], by simp at hlen ⊢; omega, fun e => absurd e hd9, by simp <;> omega, hn, rfl, hb2, by simp [flT], fun l hl hne => by simp [hne, show l ≠ h.n + 1 by omega]; exact hbo l hl hne, by rw [he]; simp⟩
                      | exact ⟨k, by omega, (f (qs, false)).2, [] ++ [(f (qs, false)).1], by simp at hlen ⊢; omega, fun e => absurd e hd9, by simp <;> omega, hn, rfl, hb2, by simp [flT], fun l hl hne => by simp [hne, show l ≠ h.n + 1 by omega]; exact hbo l hl hne, by rw [he]; simp⟩
                | cons x acc =>
                  have fl0 : flT (x :: acc) = .own := rfl
                  rw [fl0] at hb3
                  have ei : decide (((acc.length + 1 : Nat) : Int) < (M : Int)) = true := decide_eq_true (by simp at hlen; omega)
                  have hwi : IntKind.i64.wrap (((acc.length + 1 : Nat) : Int) + 1) = ((acc.length + 2 : Nat) : Int) := by rw [wrap64] <;> simp at hlen ⊢ <;> omega
                  have a1 : (acc.length + 2) * 56 ≤ 140737488355328 := by simp at hlen; omega
                  have a2 : acc.length ≤ 9223372036854775805 := by simp at hlen; omega
                  simp only [go_sem, Nat.reduceEqDiff, Nat.reduceAdd, Nat.reduceLeDiff, Nat.reduceLT, ↓reduceIte, reduceCtorEq, Int.reduceLT, Int.reduceToNat, Int.reduceEq, Int.reduceBEq, Int.reduceBNe, Nat.reduceBEq, f0, f1, f4, f5, f6, f7, hb1, hb2, hb3, e5, p0, p1, hwd, ei]
                  refine ⟨?_, ?_⟩
                  · refine ccallD rfl (ih hd9 (qs, false) lb _ (by simp; omega) (by simp [bk_apply, rdB, n0, n1, hb1])) (by simp only [go_sem, Nat.reduceEqDiff, Nat.reduceAdd, Nat.reduceLeDiff, Nat.reduceLT, ↓reduceIte, reduceCtorEq, Int.reduceLT, Int.reduceToNat, Int.reduceEq, Int.reduceBEq, Int.reduceBNe, Nat.reduceBEq]) ?_
                    simp only [go_sem, Nat.reduceEqDiff, Nat.reduceAdd, Nat.reduceLeDiff, Nat.reduceLT, ↓reduceIte, reduceCtorEq, Int.reduceLT, Int.reduceToNat, Int.reduceEq, Int.reduceBEq, Int.reduceBNe, Nat.reduceBEq, f0, f1, f4, f5, f6, f7, rd_eta, n0, n1, m0, m1, p0, p1, hb3, hwi, a1, a2]
                    first
                      | exact ⟨k, by omega, (f (qs, false)).2, (x :: acc) ++ [(f (qs, false)).1], by simp at hlen ⊢; omega, fun e => absurd e hd9, by simp <;> omega, hn, rfl, hb2, by simp [flT], fun l hl hne => by simp [hne, show l ≠ h.n + 1 by omega]; exact hbo l hl hne, by rw [he]; simp⟩
                      | exact ⟨k, by omega, (f (qs, false)).2, [] ++ [(f (qs, false)).1], by simp at hlen ⊢; omega, fun e => absurd e hd9, by simp <;> omega, hn, rfl, hb2, by simp [flT], fun l hl hne => by simp [hne, show l ≠ h.n + 1 by omega]; exact hbo l hl hne, by rw [he]; simp⟩
                  · refine ccallD rfl (ih hd9 (qs, false) lb _ (by simp; omega) (by simp [bk_apply, rdB, n0, n1, hb1])) (by simp only [go_sem, Nat.reduceEqDiff, Nat.reduceAdd, Nat.reduceLeDiff, Nat.reduceLT, ↓reduceIte, reduceCtorEq, Int.reduceLT, Int.reduceToNat, Int.reduceEq, Int.reduceBEq, Int.reduceBNe, Nat.reduceBEq]) ?_
                    simp only [go_sem, Nat.reduceEqDiff, Nat.reduceAdd, Nat.reduceLeDiff, Nat.reduceLT, ↓reduceIte, reduceCtorEq, Int.reduceLT, Int.reduceToNat, Int.reduceEq, Int.reduceBEq, Int.reduceBNe, Nat.reduceBEq, f0, f1, f4, f5, f6, f7, rd_eta, n0, n1, m0, m1, p0, p1, hb3, hwi, a1, a2]
                    first
                      | exact ⟨k, by omega, (f (qs, false)).2, (x :: acc) ++ [(f (qs, false)).1], by simp at hlen ⊢; omega, fun e => absurd e hd9, by simp <;> omega, hn, rfl, hb2, by simp [flT], fun l hl hne => by simp [hne, show l ≠ h.n + 1 by omega]; exact hbo l hl hne, by rw [he]; simp⟩
                      | exact ⟨k, by omega, (f (qs, false)).2, [] ++ [(f (qs, false)).1], by simp at hlen ⊢; omega, fun e => absurd e hd9, by simp <;> omega, hn, rfl, hb2, by simp [flT], fun l hl hne => by simp [hne, show l ≠ h.n + 1 by omega]; exact hbo l hl hne, by rw [he]; simp⟩
          · have hm4 : decide (((oneR (s2.drop c, false)).1 : Int) > 4) = false := decide_eq_false (by omega)
            have ec : cntR d (s2.drop c, false) = ((oneR (s2.drop c, false)).1, (oneR (s2.drop c, false)).2) := by unfold cntR; rw [if_neg (by omega)]
            rw [ec]
            simp only [go_sem, Nat.reduceEqDiff, Nat.reduceAdd, Nat.reduceLeDiff, Nat.reduceLT, ↓reduceIte, reduceCtorEq, Int.reduceLT, Int.reduceToNat, Int.reduceEq, Int.reduceBEq, Int.reduceBNe, Nat.reduceBEq, rd_def, n0, n1, m0, m1, p0, p1, hm4, hd0]
            generalize hM : oneR (s2.drop c, false) = w at *
            obtain ⟨M, w1, w2⟩ := w
            simp only at hm hmw hm4 ec ⊢
            refine cloop (fun k t => ∃ (q : Rd) (acc : List T), acc.length + k = M ∧ (d = 0 → q.2 = true) ∧ t.fr 0 = .ptr lb 0 ∧ t.fr 1 = .int .i64 (d : Nat) ∧ t.fr 4 = .ptr h.n 0 ∧ t.fr 5 = .ptr (h.n + 1) 0 ∧ t.fr 6 = .int .i64 (M : Nat) ∧ t.fr 7 = .int .i64 (acc.length : Nat) ∧
              t.hp.n = h.n + 2 ∧ t.hp.bk lb = .cells [.str q.1, .bool q.2] ∧ t.hp.bk h.n = .cells [.int .i64 0, .str [], .int .i64 0, .sl .full 4 []] ∧ t.hp.bk (h.n + 1) = .cells [.int .i64 3, .str (s2.take c), .int .i64 0, .sl (flT acc) 4 (acc.map T.avf)] ∧
              (∀ l, l < h.n → l ≠ lb → t.hp.bk l = h.bk l) ∧
              repR f M (w1, w2) = (acc ++ (repR f k q).1, (repR f k q).2)) M ⟨(w1, w2), [], by simp [ec, d0, fr_apply, argsF, bk_apply, flT, n0, n1, m0, m1, p0, p1, hkk]; exact fun l hl hne => by simp [hne, show l ≠ h.n by omega, show l ≠ h.n + 1 by omega]⟩ ?_
            rintro k ⟨g, hp⟩ ⟨q, acc, hlen, hdq, f0, f1, f4, f5, f6, f7, hn, hb1, hb2, hb3, hbo, he⟩
            simp only at f0 f1 f4 f5 f6 f7 hn hb1 hb2 hb3 hbo
            have fin : repR f k q = ([], q) → (T.mk 3 (s2.take c) 0 (repR f M (w1, w2)).1).avf = .agg [.int .i64 3, .str (s2.take c), .int .i64 0, .sl (flS acc) 4 (acc.map T.avf)] ∧ (repR f M (w1, w2)).2 = q := by
              intro e
              rw [he, e, List.append_nil, avf_mk]
              exact ⟨rfl, rfl⟩
            have lab := fun n => lab_avf n (T.mk 3 (s2.take c) 0 (repR f M (w1, w2)).1)
            cases k with
            | zero =>
              obtain ⟨g2, g3⟩ := fin rfl
              have ei : decide ((acc.length : Int) < (M : Int)) = false := decide_eq_false (by omega)
              simp only [go_sem, Nat.reduceEqDiff, Nat.reduceAdd, Nat.reduceLeDiff, Nat.reduceLT, ↓reduceIte, reduceCtorEq, Int.reduceLT, Int.reduceToNat, Int.reduceEq, Int.reduceBEq, Int.reduceBNe, Nat.reduceBEq, f0, f1, f4, f5, f6, f7, hb1, hb2, hb3, ei, p0, p1]
              refine ⟨g2, lab _, ?_⟩
              rw [g3]
              exact shrink_rd (fun l hl hne => by simp only [bk_apply, show l ≠ h.n by omega, if_false]; exact hbo l hl hne) (by simp only [bk_apply, n0, if_false, hb1, rdB]) (by omega)
            | succ k =>
              have ei : decide ((acc.length : Int) < (M : Int)) = true := decide_eq_true (by omega)
              obtain ⟨qs, qb⟩ := q
              cases qb with
              | true =>
                obtain ⟨g2, g3⟩ := fin (by rw [repR, if_pos rfl])
                simp only [go_sem, Nat.reduceEqDiff, Nat.reduceAdd, Nat.reduceLeDiff, Nat.reduceLT, ↓reduceIte, reduceCtorEq, Int.reduceLT, Int.reduceToNat, Int.reduceEq, Int.reduceBEq, Int.reduceBNe, Nat.reduceBEq, f0, f1, f4, f5, f6, f7, hb1, hb2, hb3, ei, p0, p1]
                refine ⟨g2, lab _, ?_⟩
                rw [g3]
                exact shrink_rd (fun l hl hne => by simp only [bk_apply, show l ≠ h.n by omega, if_false]; exact hbo l hl hne) (by simp only [bk_apply, n0, if_false, hb1, rdB]) (by omega)
              | false =>
                have hd9 : d ≠ 0 := fun e => by have := hdq e; simp at this
                have hwd : IntKind.i64.wrap ((d : Int) - 1) = ((d - 1 : Nat) : Int) := by rw [wrap64] <;> omega
                rw [repR, if_neg (by simp)] at he
                simp only at he
                cases acc with
                | nil =>
                  have fl0 : flT [] = .full := rfl
                  rw [fl0] at hb3
                  have ei : decide ((0 : Int) < (M : Int)) = true := decide_eq_true (by simp at hlen; omega)
                  have hwi : IntKind.i64.wrap ((0 : Int) + 1) = 1 := by decide
                  have a1 : 1 * 56 ≤ 140737488355328 := by omega
                  have a2 : 0 ≤ 9223372036854775805 := by omega
                  simp only [go_sem, Nat.reduceEqDiff, Nat.reduceAdd, Nat.reduceLeDiff, Nat.reduceLT, ↓reduceIte, reduceCtorEq, Int.reduceLT, Int.reduceToNat, Int.reduceEq, Int.reduceBEq, Int.reduceBNe, Nat.reduceBEq, f0, f1, f4, f5, f6, f7, hb1, hb2, hb3, e5, p0, p1, hwd, ei]
                  refine ⟨?_, ?_⟩
                  · refine ccallD rfl (ih hd9 (qs, false) lb _ (by simp; omega) (by simp [bk_apply, rdB, n0, n1, hb1])) (by simp only [go_sem, Nat.reduceEqDiff, Nat.reduceAdd, Nat.reduceLeDiff, Nat.reduceLT, ↓reduceIte, reduceCtorEq, Int.reduceLT, Int.reduceToNat, Int.reduceEq, Int.reduceBEq, Int.reduceBNe, Nat.reduceBEq]) ?_
                    simp only [go_sem, Nat.reduceEqDiff, Nat.reduceAdd, Nat.reduceLeDiff, Nat.reduceLT, ↓reduceIte, reduceCtorEq, Int.reduceLT, Int.reduceToNat, Int.reduceEq, Int.reduceBEq, Int.reduceBNe, Nat.reduceBEq, f0, f1, f4, f5, f6, f7, rd_eta, n0, n1, m0, m1, p0, p1, hb3, hwi, a1, a2]
                    first
                      | exact ⟨k, by omega, (f (qs, false)).2, (x :: acc) ++ [(f (qs, false)).1], by simp at hlen ⊢; omega, fun e => absurd e hd9, by simp <;> omega, hn, rfl, hb2, by simp [flT], fun l hl hne => by simp [hne, show l ≠ h.n + 1 by omega]; exact hbo l hl hne, by rw [he]; simp⟩
                      | exact ⟨k, by omega, (f (qs, false)).2, [] ++ [(f (qs, false)).1], by simp at hlen ⊢; omega, fun e => absurd e hd9, by simp <;> omega, hn, rfl, hb2, by simp [flT], fun l hl hne => by simp [hne, show l ≠ h.n + 1 by omega]; exact hbo l hl hne, by rw [he]; simp⟩
                  · refine ccallD rfl (ih hd9 (qs, false) lb _ (by simp; omega) (by simp [bk_apply, rdB, n0, n1, hb1])) (by simp only [go_sem, Nat.reduceEqDiff, Nat.reduceAdd, Nat.reduceLeDiff, Nat.reduceLT, ↓reduceIte, reduceCtorEq, Int.reduceLT, Int.reduceToNat, Int.reduceEq, Int.reduceBEq, Int.reduceBNe, Nat.reduceBEq]) ?_
                    simp only [go_sem, Nat.reduceEqDiff, Nat.reduceAdd, Nat.reduceLeDiff, Nat.reduceLT, ↓reduceIte, reduceCtorEq, Int.reduceLT, Int.reduceToNat, Int.reduceEq, Int.reduceBEq, Int.reduceBNe, Nat.reduceBEq, f0, f1, f4, f5, f6, f7, rd_eta, n0, n1, m0, m1, p0, p1, hb3, hwi, a1, a2]
                    first
                      | exact ⟨k, by omega, (f (qs, false)).2, (x :: acc) ++ [(f (qs, false)).1], by simp at hlen ⊢; omega, fun e => absurd e hd9, by simp <;> omega, hn, rfl, hb2, by simp [flT], fun l hl hne => by simp [hne, show l ≠ h.n + 1 by omega]; exact hbo l hl hne, by rw [he]; simp⟩
                      | exact ⟨k, by omega, (f (qs, false)).2, [] ++ [(f (qs, false)).1], by simp at hlen ⊢; omega, fun e => absurd e hd9, by simp <;> omega, hn, rfl, hb2, by simp [flT], fun l hl hne => by simp [hne, show l ≠ h.n + 1 by omega]; exact hbo l hl hne, by rw [he]; simp⟩
                | cons x acc =>
                  have fl0 : flT (x :: acc) = .own := rfl
                  rw [fl0] at hb3
                  have ei : decide (((acc.length + 1 : Nat) : Int) < (M : Int)) = true := decide_eq_true (by simp at hlen; omega)
                  have hwi : IntKind.i64.wrap (((acc.length + 1 : Nat) : Int) + 1) = ((acc.length + 2 : Nat) : Int) := by rw [wrap64] <;> simp at hlen ⊢ <;> omega
                  have a1 : (acc.length + 2) * 56 ≤ 140737488355328 := by simp at hlen; omega
                  have a2 : acc.length ≤ 9223372036854775805 := by simp at hlen; omega
                  simp only [go_sem, Nat.reduceEqDiff, Nat.reduceAdd, Nat.reduceLeDiff, Nat.reduceLT, ↓reduceIte, reduceCtorEq, Int.reduceLT, Int.reduceToNat, Int.reduceEq, Int.reduceBEq, Int.reduceBNe, Nat.reduceBEq, f0, f1, f4, f5, f6, f7, hb1, hb2, hb3, e5, p0, p1, hwd, ei]
                  refine ⟨?_, ?_⟩
                  · refine ccallD rfl (ih hd9 (qs, false) lb _ (by simp; omega) (by simp [bk_apply, rdB, n0, n1, hb1])) (by simp only [go_sem, Nat.reduceEqDiff, Nat.reduceAdd, Nat.reduceLeDiff, Nat.reduceLT, ↓reduceIte, reduceCtorEq, Int.reduceLT, Int.reduceToNat, Int.reduceEq, Int.reduceBEq, Int.reduceBNe, Nat.reduceBEq]) ?_
                    simp only [go_sem, Nat.reduceEqDiff, Nat.reduceAdd, Nat.reduceLeDiff, Nat.reduceLT, ↓reduceIte, reduceCtorEq, Int.reduceLT, Int.reduceToNat, Int.reduceEq, Int.reduceBEq, Int.reduceBNe, Nat.reduceBEq, f0, f1, f4, f5, f6, f7, rd_eta, n0, n1, m0, m1, p0, p1, hb3, hwi, a1, a2]
                    first
                      | exact ⟨k, by omega, (f (qs, false)).2, (x :: acc) ++ [(f (qs, false)).1], by simp at hlen ⊢; omega, fun e => absurd e hd9, by simp <;> omega, hn, rfl, hb2, by simp [flT], fun l hl hne => by simp [hne, show l ≠ h.n + 1 by omega]; exact hbo l hl hne, by rw [he]; simp⟩
                      | exact ⟨k, by omega, (f (qs, false)).2, [] ++ [(f (qs, false)).1], by simp at hlen ⊢; omega, fun e => absurd e hd9, by simp <;> omega, hn, rfl, hb2, by simp [flT], fun l hl hne => by simp [hne, show l ≠ h.n + 1 by omega]; exact hbo l hl hne, by rw [he]; simp⟩
                  · refine ccallD rfl (ih hd9 (qs, false) lb _ (by simp; omega) (by simp [bk_apply, rdB, n0, n1, hb1])) (by simp only [go_sem, Nat.reduceEqDiff, Nat.reduceAdd, Nat.reduceLeDiff, Nat.reduceLT, ↓reduceIte, reduceCtorEq, Int.reduceLT, Int.reduceToNat, Int.reduceEq, Int.reduceBEq, Int.reduceBNe, Nat.reduceBEq]) ?_
                    simp only [go_sem, Nat.reduceEqDiff, Nat.reduceAdd, Nat.reduceLeDiff, Nat.reduceLT, ↓reduceIte, reduceCtorEq, Int.reduceLT, Int.reduceToNat, Int.reduceEq, Int.reduceBEq, Int.reduceBNe, Nat.reduceBEq, f0, f1, f4, f5, f6, f7, rd_eta, n0, n1, m0, m1, p0, p1, hb3, hwi, a1, a2]
                    first
                      | exact ⟨k, by omega, (f (qs, false)).2, (x :: acc) ++ [(f (qs, false)).1], by simp at hlen ⊢; omega, fun e => absurd e hd9, by simp <;> omega, hn, rfl, hb2, by simp [flT], fun l hl hne => by simp [hne, show l ≠ h.n + 1 by omega]; exact hbo l hl hne, by rw [he]; simp⟩
                      | exact ⟨k, by omega, (f (qs, false)).2, [] ++ [(f (qs, false)).1], by simp at hlen ⊢; omega, fun e => absurd e hd9, by simp <;> omega, hn, rfl, hb2, by simp [flT], fun l hl hne => by simp [hne, show l ≠ h.n + 1 by omega]; exact hbo l hl hne, by rw [he]; simp⟩
    · rw [if_neg c1]
      have e4 : (((oneR r).1 : Int) == 1) = false := by simp; omega
      have e5 : (((oneR r).1 : Int) == 3) = false := by simp; omega
      simp only [go_sem, Nat.reduceEqDiff, Nat.reduceAdd, Nat.reduceLeDiff, Nat.reduceLT, ↓reduceIte, reduceCtorEq, Int.reduceLT, Int.reduceToNat, Int.reduceEq, Int.reduceBEq, Int.reduceBNe, Nat.reduceBEq, rd_def, n0, n1, m0, m1, p0, p1, hw, e3, e4, e5]
      exact ⟨rfl, lab_avf _ _, shrink_rd (fun l hl hne => by simp [bk_apply, hne, show l ≠ h.n by omega, show l ≠ h.n + 1 by omega]) (by simp [bk_apply, rdB, n0, n1]) (by omega)⟩
theorem fn_decR : ∀ (d : Nat) (r : Rd) (lb : Nat) (h : Hp), d < 1000000 → lb < h.n → h.bk lb = rdB r → Fn Try.prog 92 [.ptr lb 0, .int .i64 (d : Nat)] h (decR d r).1.avf (h.rd lb (decR d r).2) := by
  intro d
  induction d with
  | zero => intro r lb h hd hl hb; exact fn_stepR _ 0 r lb h (fun e => absurd rfl e) hd hl hb
  | succ d ih => intro r lb h hd hl hb; exact fn_stepR _ (d + 1) r lb h (fun _ r lb h hl hb => ih r lb h (by omega) hl hb) hd hl hb
end Go.Proofs.Ythaoooohomfkcaa.Ab
