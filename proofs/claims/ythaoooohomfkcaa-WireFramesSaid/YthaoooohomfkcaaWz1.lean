/- A frame's bytes, and a frame out of bytes. -/
import Derived.Test.YthaoooohomfkcaaWz0
namespace Go.Proofs.Ythaoooohomfkcaa.Ab
set_option linter.unusedVariables false
set_option linter.unusedSimpArgs false
set_option maxRecDepth 10000
attribute [local go_sem] Nat.zero_le Bool.not_true Bool.not_false Bool.false_eq_true if_false if_true forall_const true_and and_true List.map Option.map Bool.and_self Bool.and_true Bool.true_and Bool.false_and Bool.and_false List.getElem?_cons_zero List.getElem?_nil List.getElem?_cons_succ Int.natCast_nonneg Int.toNat_natCast List.length_map List.length_cons List.length_nil Nat.zero_add Nat.le_refl List.drop_zero List.drop_succ_cons List.take_succ_cons List.take_zero List.take_nil ne_eq not_true_eq_false not_false_eq_true upd_same Nat.add_assoc Nat.left_eq_add Nat.add_eq_left Nat.add_left_cancel_iff Nat.succ_ne_self Nat.one_ne_zero Nat.add_zero Nat.le_add_right ite_self List.set_cons_zero List.set_cons_succ List.all_cons List.all_nil bne_self_eq_false List.isEmpty_cons Int.cast_ofNat_Int Nat.mul_one List.nil_append or_self or_true true_or List.cons_append List.append_nil Option.none_beq_some Option.some_beq_some beq_self_eq_true
theorem c49 : compF Try.prog ow Try.f49 = (some (40, ([(.t 2), (.t 3)], (.seq (.ops [(none, (.box 1 (.t 0))), (none, (.set 2 (.str []))), (none, (.set 3 (.int .i64 0)))]) (.seq (.seq (.ops [(none, (.ld (some 5) (.t 1) (.agg 8))), (none, (.call (some 6) (.k (.func 93 [] [])) [(.t 5)] none)), (none, (.un (some 7) .not (.t 6)))]) (.cond (.t 7) (.seq (.ops [(none, (.set 2 (.str []))), (none, (.set 3 (.int .i64 1)))]) .ret) .skip)) (.seq (.ops [(none, (.fa (some 8) (.t 1) 0)), (none, (.ld (some 9) (.t 8) (.one none))), (none, (.cvt (some 10) (.t 9) (some .u8) false false)), (none, (.bs 11 1 [(.t 10)])), (none, (.mv 4 11))]) (.seq (.seq (.ops [(none, (.fa (some 12) (.t 1) 0)), (none, (.ld (some 13) (.t 12) (.one none))), (none, (.bin (some 14) .eql (.t 13) (.k (.int .i64 2)) false false))]) (.cond (.t 14) (.ops [(none, (.mv 15 4)), (none, (.fa (some 16) (.t 1) 7)), (none, (.ld (some 17) (.t 16) (.one none))), (none, (.call (some 18) (.k (.func 85 [] [])) [(.t 15), (.t 17)] (some 0))), (none, (.mv 4 18))]) (.opsD [(none, (.mv 19 4)), (none, (.fa (some 20) (.t 1) 1)), (none, (.fa (some 21) (.t 20) 0)), (none, (.ld (some 22) (.t 21) (.agg 4))), (none, (.call (some 23) (.k (.func 88 [] [])) [(.t 19), (.t 22)] (some 0))), (none, (.fa (some 24) (.t 1) 1)), (none, (.fa (some 25) (.t 24) 4)), (none, (.fa (some 26) (.t 25) 0)), (none, (.ld (some 27) (.t 26) (.one none))), (none, (.call (some 28) (.k (.func 85 [] [])) [(.t 23), (.t 27)] (some 0))), (none, (.fa (some 29) (.t 1) 1)), (none, (.fa (some 30) (.t 29) 4)), (none, (.fa (some 31) (.t 30) 1)), (none, (.ld (some 32) (.t 31) (.one none))), (none, (.call (some 33) (.k (.func 85 [] [])) [(.t 28), (.t 32)] (some 0))), (none, (.mv 4 33))]))) (.seq (.ops [(none, (.cp 34 4)), (none, (.len (some 35) (.t 34) false true)), (none, (.call (some 36) (.k (.func 85 [] [])) [(.k (.sl .full 1 [])), (.t 35)] (some 0))), (none, (.cp 37 4)), (none, (.app 38 (.t 36) (.t 37) 1 1 true true)), (none, (.x (some 39) .bs [(.t 38)])), (none, (.mv 2 39)), (none, (.set 3 (.int .i64 0)))]) .ret)))))))) := by kernel_rfl
theorem c96 : compF Try.prog ow Try.f96 = (some (16, ([(.c 2 (.agg 6))], (.seq (.ops [(none, (.alloc 2 [(.int .i64 0), (.str []), (.int .i64 0), (.sl .full 4 []), (.int .i64 0), (.int .i64 0)]))]) (.seq (.ops [(none, (.cp 4 0)), (none, (.call (some 5) (.k (.func 91 [] [])) [(.t 4), (.k (.int .i64 5))] (some 100))), (none, (.bld (some 6) [(.int .i64 0), (.str []), (.int .i64 0), (.sl .full 4 []), (.int .i64 0), (.int .i64 0)] [(0, 4), (4, 2)] [(0, (.t 5))])), (none, (.alloc 3 [(.int .i64 0), (.str []), (.int .i64 0), (.sl .full 4 []), (.int .i64 0), (.int .i64 0)])), (none, (.st (.t 3) (.t 6) 6))]) (.seq (.ops [(none, (.cp 7 0)), (none, (.call (some 8) (.k (.func 89 [] [])) [(.t 7)] (some 100))), (none, (.fa (some 9) (.t 3) 4)), (none, (.fa (some 10) (.t 9) 0)), (none, (.st (.t 10) (.t 8) 1))]) (.seq (.ops [(none, (.cp 11 0)), (none, (.call (some 12) (.k (.func 89 [] [])) [(.t 11)] (some 100))), (none, (.fa (some 13) (.t 3) 4)), (none, (.fa (some 14) (.t 13) 1)), (none, (.st (.t 14) (.t 12) 1))]) (.seq (.ops [(none, (.ld (some 15) (.t 3) (.agg 6))), (none, (.st (.t 2) (.t 15) 6))]) .ret)))))))) := by kernel_rfl
theorem c50 : compF Try.prog ow Try.f50 = (some (68, ([(.c 2 (.agg 8)), (.t 3), (.t 4)], (.seq (.ops [(none, (.alloc 2 [(.int .i64 0), (.int .i64 0), (.str []), (.int .i64 0), (.sl .full 4 []), (.int .i64 0), (.int .i64 0), (.int .i64 0)])), (none, (.set 3 (.str []))), (none, (.set 4 (.int .i64 0)))]) (.seq (.ops [(none, (.cp 8 0)), (none, (.bld (some 9) [(.str []), (.bool false)] [(0, 1), (1, 1)] [(0, (.t 8))])), (none, (.box 10 (.t 9))), (none, (.mv 5 10))]) (.seq (.ops [(none, (.cp 11 5)), (none, (.call (some 12) (.k (.func 89 [] [])) [(.t 11)] (some 100))), (none, (.mv 6 12))]) (.seq (.seq (.ops [(none, (.cp 13 6)), (none, (.bin (some 14) .gtr (.t 13) (.k (.int .i64 600)) false false))]) (.cond (.t 14) (.ops [(none, (.cp 15 5)), (none, (.nil (some 16) (.t 15))), (none, (.fa (some 17) (.t 16) 1)), (none, (.st (.t 17) (.k (.bool true)) 1))]) .skip)) (.seq (.ops [(none, (.cp 18 5)), (none, (.cp 19 6)), (none, (.call (some 20) (.k (.func 94 [] [])) [(.t 18), (.t 19)] (some 100))), (none, (.bld (some 21) [(.str []), (.bool false)] [(0, 1), (1, 1)] [(0, (.t 20))])), (none, (.box 22 (.t 21))), (none, (.mv 7 22))]) (.seq (.ops [(none, (.cp 23 7)), (none, (.call (some 24) (.k (.func 95 [] [])) [(.t 23)] (some 100))), (none, (.cvt (some 25) (.t 24) (some .i64) false false)), (none, (.fa (some 26) (.t 2) 0)), (none, (.st (.t 26) (.t 25) 1))]) (.seq (.seq (.ops [(none, (.fa (some 27) (.t 2) 0)), (none, (.ld (some 28) (.t 27) (.one none)))]) (.block 0 (.seq (.seq (.ops [(none, (.bin (some 30) .eql (.t 28) (.k (.int .i64 1)) false false)), (none, (.mv 29 30))]) (.cond (.t 29) .skip (.ops [(none, (.bin (some 31) .eql (.t 28) (.k (.int .i64 3)) false false)), (none, (.mv 29 31))]))) (.cond (.t 29) (.ops [(none, (.cp 32 7)), (none, (.call (some 33) (.k (.func 96 [] [])) [(.t 32)] (some 100))), (none, (.fa (some 34) (.t 2) 1)), (none, (.st (.t 34) (.t 33) 6))]) (.seq (.ops [(none, (.bin (some 36) .eql (.t 28) (.k (.int .i64 2)) false false)), (none, (.mv 35 36))]) (.cond (.t 35) (.ops [(none, (.cp 37 7)), (none, (.call (some 38) (.k (.func 89 [] [])) [(.t 37)] (some 100))), (none, (.fa (some 39) (.t 2) 7)), (none, (.st (.t 39) (.t 38) 1))]) .skip)))))) (.seq (.seq (.ops [(none, (.cp 40 5)), (none, (.nil (some 41) (.t 40))), (none, (.fa (some 42) (.t 41) 1)), (none, (.ld (some 43) (.t 42) (.one none))), (none, (.cp 44 43)), ((some (44, false)), (.cp 45 7)), ((some (44, false)), (.nil (some 46) (.t 45))), ((some (44, false)), (.fa (some 47) (.t 46) 1)), ((some (44, false)), (.ld (some 48) (.t 47) (.one none))), (none, (.pick (some 49) (.t 44) (.k (.bool true)) (.t 48))), (none, (.cp 50 49)), ((some (50, false)), (.cp 51 7)), ((some (50, false)), (.nil (some 52) (.t 51))), ((some (50, false)), (.fa (some 53) (.t 52) 0)), ((some (50, false)), (.ld (some 54) (.t 53) (.one none))), ((some (50, false)), (.bin (some 55) .neq (.t 54) (.k (.str [])) false false)), (none, (.pick (some 56) (.t 50) (.k (.bool true)) (.t 55))), (none, (.cp 57 56)), ((some (57, false)), (.ld (some 58) (.t 2) (.agg 8))), ((some (57, false)), (.call (some 59) (.k (.func 93 [] [])) [(.t 58)] none)), ((some (57, false)), (.un (some 60) .not (.t 59))), (none, (.pick (some 61) (.t 57) (.k (.bool true)) (.t 60)))]) (.cond (.t 61) (.seq (.ops [(none, (.bld (some 62) [(.int .i64 0), (.int .i64 0), (.str []), (.int .i64 0), (.sl .full 4 []), (.int .i64 0), (.int .i64 0), (.int .i64 0)] [(0, 1), (1, 6), (7, 1)] [])), (none, (.st (.t 2) (.t 62) 8)), (none, (.set 3 (.str []))), (none, (.set 4 (.int .i64 4)))]) .ret) .skip)) (.seq (.opsT (.one none (.ld (some 63) (.t 2) (.agg 8)) (.one none (.cp 64 5) (.one none (.nil (some 65) (.t 64)) (.one none (.fa (some 66) (.t 65) 0) (.alt none (.ld (some 67) (.t 66) (.one none)) (.one none (.st (.t 2) (.t 63) 8) (.one none (.mv 3 67) (.one none (.set 4 (.int .i64 0)) .done))) (.alt none (.st (.t 2) (.t 63) 8) (.one none (.ld (some 67) (.t 66) (.one none)) (.one none (.mv 3 67) (.one none (.set 4 (.int .i64 0)) .done))) .nil))))))) .ret)))))))))))) := by kernel_rfl
attribute [local go_sem] strip_flS strip_flT isOwn_flS
def decF (r : Rd) : T × Int × Int × Rd := ((decW 5 r).1, (numP (decW 5 r).2).1, (numP (numP (decW 5 r).2).2).1, (numP (numP (decW 5 r).2).2).2)
theorem labL_avfs (n : Nat) (l : List T) : labL n (l.map T.avf) = true := by
  have := lab_avf n (.mk 0 [] 0 l)
  rw [avf_mk] at this
  simp [labOK, labL] at this ⊢
  exact this
theorem lab_facF (n : Nat) (t : T) (a b : Int) : labOK n (facF t a b) = true := by
  obtain ⟨tk, tn, tv, tl⟩ := t
  have := lab_avf n (.mk tk tn tv tl)
  rw [avf_mk] at this
  simp [labOK, labL, facF] at this ⊢
  exact this
theorem fn_fact (r : Rd) (lb : Nat) (h : Hp) (hl : lb < h.n) (hb : h.bk lb = rdB r) : Fn Try.prog 96 [.ptr lb 0] h (facF (decF r).1 (decF r).2.1 (decF r).2.2.1) (h.rd lb (decF r).2.2.2) := by
  have n0 : ¬ lb = h.n := by omega
  have n1 : ¬ lb = h.n + 1 := by omega
  have m0 : ¬ h.n = lb := by omega
  have m1 : ¬ h.n + 1 = lb := by omega
  have p0 : ¬ h.n = h.n + 1 := by omega
  have p1 : ¬ h.n + 1 = h.n := by omega
  refine fnC mixed Try.func96 c96 (by simp) ?_
  simp only [go_sem, Nat.reduceEqDiff, Nat.reduceAdd, Nat.reduceLeDiff, Nat.reduceLT, ↓reduceIte, reduceCtorEq, Int.reduceLT, Int.reduceToNat, Int.reduceEq, Int.reduceBEq, Int.reduceBNe, Nat.reduceBEq]
  refine ccall (fn_decW 5 r lb _ (by omega) (by simp; omega) (by simp [bk_apply, rdB, n0, hb])) (by simp only [go_sem, Nat.reduceEqDiff, Nat.reduceAdd, Nat.reduceLeDiff, Nat.reduceLT, ↓reduceIte, reduceCtorEq, Int.reduceLT, Int.reduceToNat, Int.reduceEq, Int.reduceBEq, Int.reduceBNe, Nat.reduceBEq]) ?_
  unfold decF
  rcases hd : decW 5 r with ⟨⟨tk, tn, tv, tl⟩, q⟩
  rw [avf_mk]
  simp only [go_sem, Nat.reduceEqDiff, Nat.reduceAdd, Nat.reduceLeDiff, Nat.reduceLT, ↓reduceIte, reduceCtorEq, Int.reduceLT, Int.reduceToNat, Int.reduceEq, Int.reduceBEq, Int.reduceBNe, Nat.reduceBEq, rd_def, n0, n1, m0, m1, p0, p1]
  refine ccall (fn_number q lb _ (by simp; omega) (by simp [bk_apply, rdB, n0, n1])) (by simp only [go_sem, Nat.reduceEqDiff, Nat.reduceAdd, Nat.reduceLeDiff, Nat.reduceLT, ↓reduceIte, reduceCtorEq, Int.reduceLT, Int.reduceToNat, Int.reduceEq, Int.reduceBEq, Int.reduceBNe, Nat.reduceBEq]) ?_
  simp only [go_sem, Nat.reduceEqDiff, Nat.reduceAdd, Nat.reduceLeDiff, Nat.reduceLT, ↓reduceIte, reduceCtorEq, Int.reduceLT, Int.reduceToNat, Int.reduceEq, Int.reduceBEq, Int.reduceBNe, Nat.reduceBEq, rd_def, n0, n1, m0, m1, p0, p1]
  refine ccall (fn_number (numP q).2 lb _ (by simp; omega) (by simp [bk_apply, rdB, n0, n1])) (by simp only [go_sem, Nat.reduceEqDiff, Nat.reduceAdd, Nat.reduceLeDiff, Nat.reduceLT, ↓reduceIte, reduceCtorEq, Int.reduceLT, Int.reduceToNat, Int.reduceEq, Int.reduceBEq, Int.reduceBNe, Nat.reduceBEq]) ?_
  simp only [go_sem, Nat.reduceEqDiff, Nat.reduceAdd, Nat.reduceLeDiff, Nat.reduceLT, ↓reduceIte, reduceCtorEq, Int.reduceLT, Int.reduceToNat, Int.reduceEq, Int.reduceBEq, Int.reduceBNe, Nat.reduceBEq, rd_def, n0, n1, m0, m1, p0, p1]
  exact ⟨rfl, lab_facF _ _ _ _, shrink_rd (fun l hl hne => by simp [bk_apply, hne, show l ≠ h.n by omega, show l ≠ h.n + 1 by omega]) (by simp [bk_apply, rdB, n0, n1]) (by omega)⟩
def body (k : Int) (t : T) (a b n : Int) : List Int := if k = 2 then 2 :: vb (zz n) else k :: (enc t ++ (vb (zz a) ++ vb (zz b)))
def bodyL (k : Int) (t : T) (a b n : Int) : Int := ((body k t a b n).length : Int)
def frS (k : Int) (t : T) (a b n : Int) : List UInt8 := vbs (zz (bodyL k t a b n)) ++ u8s (body k t a b n)
theorem vb5 {n : Int} (h0 : -1073741824 ≤ n) (h1 : n ≤ 1073741824) : (vb (zz n)).length ≤ 5 := by
  have h5 : (128 : Nat) ^ 5 = 34359738368 := by decide
  have h1 := zz_le (n := n) (by rw [okN_iff]; omega)
  exact vb_le (zz n) 5 (by omega) (by omega)
theorem okFr_facts {k : Int} {t : T} {a b n : Int} (h : okFr k t a b n = true) : (k = 2 ∧ noneB t a b = true ∧ okN n = true) ∨ ((k = 1 ∨ k = 3) ∧ n = 0 ∧ okFa t a b = true ∧ mayB t = true ∧ (-1073741824 ≤ a ∧ a ≤ b ∧ b ≤ 1073741824)) := by
  unfold okFr at h
  split at h
  · rename_i hk
    simp only [Bool.and_eq_true, beq_iff_eq] at h
    have h2 := h.1
    unfold okFa spanB at h2
    simp only [Bool.and_eq_true, decide_eq_true_eq] at h2
    exact .inr ⟨hk, h.2, h.1, h2.2.1, h2.2.2.2⟩
  · split at h
    · rename_i hk
      simp only [Bool.and_eq_true] at h
      exact .inl ⟨hk, h.1, h.2⟩
    · cases h
theorem bodyL_le {k : Int} {t : T} {a b n : Int} (h : okFr k t a b n = true) : 1 ≤ bodyL k t a b n ∧ bodyL k t a b n ≤ 467 := by
  rcases okFr_facts h with ⟨rfl, h1, h2⟩ | ⟨h1, rfl, h2, h3, h4⟩
  · rw [okN_iff] at h2
    have := vb5 h2.1 h2.2
    unfold bodyL body; rw [if_pos rfl]; simp only [List.length_cons]; omega
  · have := vb5 (n := a) (by omega) (by omega)
    have := vb5 (n := b) (by omega) (by omega)
    have := may_len h3
    unfold bodyL body; rw [if_neg (by omega)]; simp only [List.length_cons, List.length_append]; omega
theorem fn_wFrame (k : Int) (t : T) (a b n : Int) (ht : t.ok) : PFn Try.prog 49 [frA k t a b n] (.tup (if okFr k t a b n = true then [.str (frS k t a b n), .int .i64 0] else [.str [], .int .i64 1])) := by
  intro h
  have hM := fn_wMay k t a b n ht
  have hF := okFr_facts (k := k) (t := t) (a := a) (b := b) (n := n)
  have hL := bodyL_le (k := k) (t := t) (a := a) (b := b) (n := n)
  generalize hm : okFr k t a b n = m at *
  obtain ⟨tk, tn, tv, tl⟩ := t
  unfold frA at hM ⊢
  simp only at hM ⊢
  refine fnC mixed Try.func49 c49 (by simp) ?_
  simp only [go_sem, Nat.reduceEqDiff, Nat.reduceAdd, Nat.reduceLeDiff, Nat.reduceLT, ↓reduceIte, reduceCtorEq, Int.reduceLT, Int.reduceToNat, Int.reduceEq, Int.reduceBEq, Int.reduceBNe, Nat.reduceBEq]
  refine pcall hM (by simp only [go_sem, Nat.reduceEqDiff, Nat.reduceAdd, Nat.reduceLeDiff, Nat.reduceLT, ↓reduceIte, reduceCtorEq, Int.reduceLT, Int.reduceToNat, Int.reduceEq, Int.reduceBEq, Int.reduceBNe, Nat.reduceBEq]) ?_
  cases m with
  | false => simp only [go_sem, Nat.reduceEqDiff, Nat.reduceAdd, Nat.reduceLeDiff, Nat.reduceLT, ↓reduceIte, reduceCtorEq, Int.reduceLT, Int.reduceToNat, Int.reduceEq, Int.reduceBEq, Int.reduceBNe, Nat.reduceBEq]
  | true =>
    obtain ⟨hL1, hL2⟩ := hL rfl
    rcases hF rfl with ⟨rfl, h1, h2⟩ | ⟨h1, rfl, h2, h3, h4⟩
    · have w2 : IntKind.u8.wrap 2 = 2 := by decide
      rw [okN_iff] at h2
      simp only [go_sem, Nat.reduceEqDiff, Nat.reduceAdd, Nat.reduceLeDiff, Nat.reduceLT, ↓reduceIte, reduceCtorEq, Int.reduceLT, Int.reduceToNat, Int.reduceEq, Int.reduceBEq, Int.reduceBNe, Nat.reduceBEq, w2]
      have hp := fn_put .own (by simp) [2] n (by simp) (by omega) (by omega)
      have hB : [2] ++ vb (zz n) = body 2 (.mk tk tn tv tl) a b n := by unfold body; rw [if_pos rfl]; rfl
      rw [hB] at hp
      simp only [List.map] at hp
      unfold frS
      unfold bodyL at hL1 hL2 ⊢
      generalize body 2 (.mk tk tn tv tl) a b n = B at *
      refine pcall hp (by simp only [go_sem, Nat.reduceEqDiff, Nat.reduceAdd, Nat.reduceLeDiff, Nat.reduceLT, ↓reduceIte, reduceCtorEq, Int.reduceLT, Int.reduceToNat, Int.reduceEq, Int.reduceBEq, Int.reduceBNe, Nat.reduceBEq]) ?_
      have ht1 := fn_put .full (by simp) [] (B.length : Int) (by simp) (by omega) (by omega)
      have q3 := vb5 (n := (B.length : Int)) (by omega) (by omega)
      simp only [List.map_nil, List.nil_append] at ht1
      simp only [go_sem, Nat.reduceEqDiff, Nat.reduceAdd, Nat.reduceLeDiff, Nat.reduceLT, ↓reduceIte, reduceCtorEq, Int.reduceLT, Int.reduceToNat, Int.reduceEq, Int.reduceBEq, Int.reduceBNe, Nat.reduceBEq, List.length_map]
      refine pcall ht1 (by simp only [go_sem, Nat.reduceEqDiff, Nat.reduceAdd, Nat.reduceLeDiff, Nat.reduceLT, ↓reduceIte, reduceCtorEq, Int.reduceLT, Int.reduceToNat, Int.reduceEq, Int.reduceBEq, Int.reduceBNe, Nat.reduceBEq]) ?_
      have hA : (vb (zz (B.length : Int))).length + B.length ≤ 140737488355328 := by omega
      have hA2 : (vb (zz (B.length : Int))).length + B.length ≤ 9223372036854775807 := by omega
      have hb := bytesOf_u8 (vb (zz (B.length : Int)) ++ B)
      rw [List.map_append] at hb
      simp only [go_sem, Nat.reduceEqDiff, Nat.reduceAdd, Nat.reduceLeDiff, Nat.reduceLT, ↓reduceIte, reduceCtorEq, Int.reduceLT, Int.reduceToNat, Int.reduceEq, Int.reduceBEq, Int.reduceBNe, Nat.reduceBEq, hA, hA2, hb, List.length_append, List.length_map]
      rw [u8_app]; rfl
    · have wk : IntKind.u8.wrap k = k := w8 (by omega) (by omega)
      have k2 : (k == 2) = false := by simp; omega
      obtain ⟨g1, g2, _⟩ := may_len h3
      have q1 := vb5 (n := a) (by omega) (by omega)
      have q2 := vb5 (n := b) (by omega) (by omega)
      have hp1 := fn_spelt (.mk tk tn tv tl) ht g1 .own (by simp) [k] (by simp; omega)
      have hp2 := fn_put .own (by simp) ([k] ++ enc (.mk tk tn tv tl)) a (by simp; omega) (by omega) (by omega)
      have hp3 := fn_put .own (by simp) ([k] ++ enc (.mk tk tn tv tl) ++ vb (zz a)) b (by simp; omega) (by omega) (by omega)
      have hB : [k] ++ enc (.mk tk tn tv tl) ++ vb (zz a) ++ vb (zz b) = body k (.mk tk tn tv tl) a b 0 := by unfold body; rw [if_neg (by omega)]; simp
      rw [hB] at hp3
      rw [av_mk] at hp1
      unfold frS
      unfold bodyL at hL1 hL2 ⊢
      generalize body k (.mk tk tn tv tl) a b 0 = B at *
      generalize [k] ++ enc (.mk tk tn tv tl) ++ vb (zz a) = B2 at *
      generalize [k] ++ enc (.mk tk tn tv tl) = B1 at *
      rw [show List.map (AV.int .u8) [k] = [.int .u8 k] from rfl] at hp1
      simp only [go_sem, Nat.reduceEqDiff, Nat.reduceAdd, Nat.reduceLeDiff, Nat.reduceLT, ↓reduceIte, reduceCtorEq, Int.reduceLT, Int.reduceToNat, Int.reduceEq, Int.reduceBEq, Int.reduceBNe, Nat.reduceBEq, wk, k2]
      refine pcallD hp1 (by simp only [go_sem, Nat.reduceEqDiff, Nat.reduceAdd, Nat.reduceLeDiff, Nat.reduceLT, ↓reduceIte, reduceCtorEq, Int.reduceLT, Int.reduceToNat, Int.reduceEq, Int.reduceBEq, Int.reduceBNe, Nat.reduceBEq]) ?_
      simp only [go_sem, Nat.reduceEqDiff, Nat.reduceAdd, Nat.reduceLeDiff, Nat.reduceLT, ↓reduceIte, reduceCtorEq, Int.reduceLT, Int.reduceToNat, Int.reduceEq, Int.reduceBEq, Int.reduceBNe, Nat.reduceBEq]
      refine pcallD hp2 (by simp only [go_sem, Nat.reduceEqDiff, Nat.reduceAdd, Nat.reduceLeDiff, Nat.reduceLT, ↓reduceIte, reduceCtorEq, Int.reduceLT, Int.reduceToNat, Int.reduceEq, Int.reduceBEq, Int.reduceBNe, Nat.reduceBEq]) ?_
      simp only [go_sem, Nat.reduceEqDiff, Nat.reduceAdd, Nat.reduceLeDiff, Nat.reduceLT, ↓reduceIte, reduceCtorEq, Int.reduceLT, Int.reduceToNat, Int.reduceEq, Int.reduceBEq, Int.reduceBNe, Nat.reduceBEq]
      refine pcallD hp3 (by simp only [go_sem, Nat.reduceEqDiff, Nat.reduceAdd, Nat.reduceLeDiff, Nat.reduceLT, ↓reduceIte, reduceCtorEq, Int.reduceLT, Int.reduceToNat, Int.reduceEq, Int.reduceBEq, Int.reduceBNe, Nat.reduceBEq]) ?_
      have ht1 := fn_put .full (by simp) [] (B.length : Int) (by simp) (by omega) (by omega)
      have q3 := vb5 (n := (B.length : Int)) (by omega) (by omega)
      simp only [List.map_nil, List.nil_append] at ht1
      simp only [go_sem, Nat.reduceEqDiff, Nat.reduceAdd, Nat.reduceLeDiff, Nat.reduceLT, ↓reduceIte, reduceCtorEq, Int.reduceLT, Int.reduceToNat, Int.reduceEq, Int.reduceBEq, Int.reduceBNe, Nat.reduceBEq, List.length_map]
      refine pcall ht1 (by simp only [go_sem, Nat.reduceEqDiff, Nat.reduceAdd, Nat.reduceLeDiff, Nat.reduceLT, ↓reduceIte, reduceCtorEq, Int.reduceLT, Int.reduceToNat, Int.reduceEq, Int.reduceBEq, Int.reduceBNe, Nat.reduceBEq]) ?_
      have hA : (vb (zz (B.length : Int))).length + B.length ≤ 140737488355328 := by omega
      have hA2 : (vb (zz (B.length : Int))).length + B.length ≤ 9223372036854775807 := by omega
      have hb := bytesOf_u8 (vb (zz (B.length : Int)) ++ B)
      rw [List.map_append] at hb
      simp only [go_sem, Nat.reduceEqDiff, Nat.reduceAdd, Nat.reduceLeDiff, Nat.reduceLT, ↓reduceIte, reduceCtorEq, Int.reduceLT, Int.reduceToNat, Int.reduceEq, Int.reduceBEq, Int.reduceBNe, Nat.reduceBEq, hA, hA2, hb, List.length_append, List.length_map]
      rw [u8_app]; rfl
/-- what a frame's bytes give: kind, fact, tick -/
def decK (x : Rd) : Int × T × Int × Int × Int × Rd :=
  if (oneR x).1 = 1 ∨ (oneR x).1 = 3 then ((oneR x).1, (decF (oneR x).2).1, (decF (oneR x).2).2.1, (decF (oneR x).2).2.2.1, 0, (decF (oneR x).2).2.2.2)
  else if (oneR x).1 = 2 then (2, .mk 0 [] 0 [], 0, 0, (numP (oneR x).2).1, (numP (oneR x).2).2)
  else ((oneR x).1, .mk 0 [] 0 [], 0, 0, 0, (oneR x).2)
/-- the frame's own bytes and what is behind them -/
def lenR (s : List UInt8) : List UInt8 × Rd := takeR (if (numP (s, false)).1 > 600 then ((numP (s, false)).2.1, true) else (numP (s, false)).2) (numP (s, false)).1
def okTk (s : List UInt8) : Bool := !(lenR s).2.2 && (!(decK ((lenR s).1, false)).2.2.2.2.2.2 && ((decK ((lenR s).1, false)).2.2.2.2.2.1 == [] && okFr (decK ((lenR s).1, false)).1 (decK ((lenR s).1, false)).2.1 (decK ((lenR s).1, false)).2.2.1 (decK ((lenR s).1, false)).2.2.2.1 (decK ((lenR s).1, false)).2.2.2.2.1))
def frTk (s : List UInt8) : AV := frF (decK ((lenR s).1, false)).1 (decK ((lenR s).1, false)).2.1 (decK ((lenR s).1, false)).2.2.1 (decK ((lenR s).1, false)).2.2.2.1 (decK ((lenR s).1, false)).2.2.2.2.1
def fr0 : AV := .agg [.int .i64 0, .int .i64 0, .str [], .int .i64 0, .sl .full 4 [], .int .i64 0, .int .i64 0, .int .i64 0]
theorem fn_wMayF (k : Int) (t : T) (a b n : Int) (ht : t.ok) : PFn Try.prog 93 [frF k t a b n] (.bool (okFr k t a b n)) := by
  have h := fn_wMay k t a b n ht
  refine pfn_fk ?_
  simp only [List.map_cons, List.map_nil, fk_frF]
  exact h
set_option maxHeartbeats 1600000 in
theorem fn_wTakeF (s : List UInt8) : PFn Try.prog 50 [.str s] (.tup (if okTk s = true then [frTk s, .str (lenR s).2.1, .int .i64 0] else [fr0, .str [], .int .i64 4])) := by
  intro h
  have n1 : ¬ (h.n = h.n + 1) := by omega
  have n2 : ¬ (h.n + 1 = h.n) := by omega
  have n3 : ¬ (h.n = h.n + 2) := by omega
  have n4 : ¬ (h.n + 2 = h.n) := by omega
  have n5 : ¬ (h.n + 1 = h.n + 2) := by omega
  have n6 : ¬ (h.n + 2 = h.n + 1) := by omega
  refine fnC mixed Try.func50 c50 (by simp) ?_
  simp only [go_sem, Nat.reduceEqDiff, Nat.reduceAdd, Nat.reduceLeDiff, Nat.reduceLT, ↓reduceIte, reduceCtorEq, Int.reduceLT, Int.reduceToNat, Int.reduceEq, Int.reduceBEq, Int.reduceBNe, Nat.reduceBEq, n1, n2]
  refine ccall (fn_number (s, false) (h.n + 1) _ (by simp) (by simp [bk_apply, rdB])) (by simp only [go_sem, Nat.reduceEqDiff, Nat.reduceAdd, Nat.reduceLeDiff, Nat.reduceLT, ↓reduceIte, reduceCtorEq, Int.reduceLT, Int.reduceToNat, Int.reduceEq, Int.reduceBEq, Int.reduceBNe, Nat.reduceBEq]) ?_
  by_cases c6 : (numP (s, false)).1 > 600
  · have d6 : decide ((numP (s, false)).1 > 600) = true := decide_eq_true c6
    have hq : lenR s = takeR ((numP (s, false)).2.1, true) (numP (s, false)).1 := by unfold lenR; rw [if_pos c6]
    simp only [go_sem, Nat.reduceEqDiff, Nat.reduceAdd, Nat.reduceLeDiff, Nat.reduceLT, ↓reduceIte, reduceCtorEq, Int.reduceLT, Int.reduceToNat, Int.reduceEq, Int.reduceBEq, Int.reduceBNe, Nat.reduceBEq, rd_def, n1, n2, d6]
    refine ccall (fn_take ((numP (s, false)).2.1, true) (h.n + 1) (numP (s, false)).1 _ (by simp) (by simp [bk_apply, rdB, n1, n2])) (by simp only [go_sem, Nat.reduceEqDiff, Nat.reduceAdd, Nat.reduceLeDiff, Nat.reduceLT, ↓reduceIte, reduceCtorEq, Int.reduceLT, Int.reduceToNat, Int.reduceEq, Int.reduceBEq, Int.reduceBNe, Nat.reduceBEq]) ?_
    rw [← hq]
    unfold okTk frTk
    obtain ⟨y, s3, b3⟩ := lenR s
    simp only [go_sem, Nat.reduceEqDiff, Nat.reduceAdd, Nat.reduceLeDiff, Nat.reduceLT, ↓reduceIte, reduceCtorEq, Int.reduceLT, Int.reduceToNat, Int.reduceEq, Int.reduceBEq, Int.reduceBNe, Nat.reduceBEq, rd_def, n1, n2, n3, n4, n5, n6]
    have hc := oneR_lt (y, false)
    have hcw := wn hc
    have hone : oneR (y, false) = ((oneR (y, false)).1, (oneR (y, false)).2) := rfl
    refine ccall (fn_one (y, false) (h.n + 2) _ (by simp) (by simp [bk_apply, rdB])) (by simp only [go_sem, Nat.reduceEqDiff, Nat.reduceAdd, Nat.reduceLeDiff, Nat.reduceLT, ↓reduceIte, reduceCtorEq, Int.reduceLT, Int.reduceToNat, Int.reduceEq, Int.reduceBEq, Int.reduceBNe, Nat.reduceBEq]) ?_
    unfold decK
    rcases ho : oneR (y, false) with ⟨c, x1⟩
    rw [ho] at hc hcw
    simp only at hc hcw
    simp only [go_sem, Nat.reduceEqDiff, Nat.reduceAdd, Nat.reduceLeDiff, Nat.reduceLT, ↓reduceIte, reduceCtorEq, Int.reduceLT, Int.reduceToNat, Int.reduceEq, Int.reduceBEq, Int.reduceBNe, Nat.reduceBEq, rd_def, n1, n2, n3, n4, n5, n6, hcw]
    by_cases k13 : c = 1 ∨ c = 3
    · simp only [if_pos k13]
      by_cases k1 : c = 1
      · have e1 : ((c : Int) == 1) = true := by rw [k1]; rfl
        simp only [go_sem, Nat.reduceEqDiff, Nat.reduceAdd, Nat.reduceLeDiff, Nat.reduceLT, ↓reduceIte, reduceCtorEq, Int.reduceLT, Int.reduceToNat, Int.reduceEq, Int.reduceBEq, Int.reduceBNe, Nat.reduceBEq, rd_def, n1, n2, n3, n4, n5, n6, e1]
        refine ccall (fn_fact x1 (h.n + 2) _ (by simp) (by simp [bk_apply, rdB])) (by simp only [go_sem, Nat.reduceEqDiff, Nat.reduceAdd, Nat.reduceLeDiff, Nat.reduceLT, ↓reduceIte, reduceCtorEq, Int.reduceLT, Int.reduceToNat, Int.reduceEq, Int.reduceBEq, Int.reduceBNe, Nat.reduceBEq]) ?_
        rcases hd : decF x1 with ⟨⟨tk, tn, tv, tl⟩, a, b, xs, xb⟩
        unfold facF
        have htk : (T.mk tk tn tv tl).ok := by have h5 := decW_ok 5 x1; rw [show (decW 5 x1).1 = (decF x1).1 from rfl, hd] at h5; exact h5
        have hM := fn_wMayF (c : Int) (.mk tk tn tv tl) a b 0 htk
        generalize okFr (c : Int) (.mk tk tn tv tl) a b 0 = m at *
        unfold frF at hM ⊢
        simp only at hM
        simp only [go_sem, Nat.reduceEqDiff, Nat.reduceAdd, Nat.reduceLeDiff, Nat.reduceLT, ↓reduceIte, reduceCtorEq, Int.reduceLT, Int.reduceToNat, Int.reduceEq, Int.reduceBEq, Int.reduceBNe, Nat.reduceBEq, rd_def, n1, n2, n3, n4, n5, n6]
        cases b3 with
        | true =>
          simp only [go_sem, Nat.reduceEqDiff, Nat.reduceAdd, Nat.reduceLeDiff, Nat.reduceLT, ↓reduceIte, reduceCtorEq, Int.reduceLT, Int.reduceToNat, Int.reduceEq, Int.reduceBEq, Int.reduceBNe, Nat.reduceBEq, rd_def, n1, n2, n3, n4, n5, n6]
          exact ⟨rfl, rfl⟩
        | false =>
          cases xb with
          | true =>
            simp only [go_sem, Nat.reduceEqDiff, Nat.reduceAdd, Nat.reduceLeDiff, Nat.reduceLT, ↓reduceIte, reduceCtorEq, Int.reduceLT, Int.reduceToNat, Int.reduceEq, Int.reduceBEq, Int.reduceBNe, Nat.reduceBEq, rd_def, n1, n2, n3, n4, n5, n6]
            exact ⟨rfl, rfl⟩
          | false =>
            cases he : (xs == []) with
            | false =>
              simp only [go_sem, Nat.reduceEqDiff, Nat.reduceAdd, Nat.reduceLeDiff, Nat.reduceLT, ↓reduceIte, reduceCtorEq, Int.reduceLT, Int.reduceToNat, Int.reduceEq, Int.reduceBEq, Int.reduceBNe, Nat.reduceBEq, rd_def, n1, n2, n3, n4, n5, n6, he]
              exact ⟨rfl, rfl⟩
            | true =>
              simp only [go_sem, Nat.reduceEqDiff, Nat.reduceAdd, Nat.reduceLeDiff, Nat.reduceLT, ↓reduceIte, reduceCtorEq, Int.reduceLT, Int.reduceToNat, Int.reduceEq, Int.reduceBEq, Int.reduceBNe, Nat.reduceBEq, rd_def, n1, n2, n3, n4, n5, n6, he]
              refine pcall hM (by simp only [go_sem, Nat.reduceEqDiff, Nat.reduceAdd, Nat.reduceLeDiff, Nat.reduceLT, ↓reduceIte, reduceCtorEq, Int.reduceLT, Int.reduceToNat, Int.reduceEq, Int.reduceBEq, Int.reduceBNe, Nat.reduceBEq]) ?_
              cases m with
              | false =>
                simp only [go_sem, Nat.reduceEqDiff, Nat.reduceAdd, Nat.reduceLeDiff, Nat.reduceLT, ↓reduceIte, reduceCtorEq, Int.reduceLT, Int.reduceToNat, Int.reduceEq, Int.reduceBEq, Int.reduceBNe, Nat.reduceBEq, rd_def, n1, n2, n3, n4, n5, n6]
                exact ⟨rfl, rfl⟩
              | true =>
                simp only [go_sem, Nat.reduceEqDiff, Nat.reduceAdd, Nat.reduceLeDiff, Nat.reduceLT, ↓reduceIte, reduceCtorEq, Int.reduceLT, Int.reduceToNat, Int.reduceEq, Int.reduceBEq, Int.reduceBNe, Nat.reduceBEq, rd_def, n1, n2, n3, n4, n5, n6]
                all_goals exact ⟨labL_avfs _ _, labL_avfs _ _⟩
      · have e1 : ((c : Int) == 1) = false := by simp; omega
        have e3 : ((c : Int) == 3) = true := by rw [show c = 3 by omega]; rfl
        simp only [go_sem, Nat.reduceEqDiff, Nat.reduceAdd, Nat.reduceLeDiff, Nat.reduceLT, ↓reduceIte, reduceCtorEq, Int.reduceLT, Int.reduceToNat, Int.reduceEq, Int.reduceBEq, Int.reduceBNe, Nat.reduceBEq, rd_def, n1, n2, n3, n4, n5, n6, e1, e3]
        refine ccall (fn_fact x1 (h.n + 2) _ (by simp) (by simp [bk_apply, rdB])) (by simp only [go_sem, Nat.reduceEqDiff, Nat.reduceAdd, Nat.reduceLeDiff, Nat.reduceLT, ↓reduceIte, reduceCtorEq, Int.reduceLT, Int.reduceToNat, Int.reduceEq, Int.reduceBEq, Int.reduceBNe, Nat.reduceBEq]) ?_
        rcases hd : decF x1 with ⟨⟨tk, tn, tv, tl⟩, a, b, xs, xb⟩
        unfold facF
        have htk : (T.mk tk tn tv tl).ok := by have h5 := decW_ok 5 x1; rw [show (decW 5 x1).1 = (decF x1).1 from rfl, hd] at h5; exact h5
        have hM := fn_wMayF (c : Int) (.mk tk tn tv tl) a b 0 htk
        generalize okFr (c : Int) (.mk tk tn tv tl) a b 0 = m at *
        unfold frF at hM ⊢
        simp only at hM
        simp only [go_sem, Nat.reduceEqDiff, Nat.reduceAdd, Nat.reduceLeDiff, Nat.reduceLT, ↓reduceIte, reduceCtorEq, Int.reduceLT, Int.reduceToNat, Int.reduceEq, Int.reduceBEq, Int.reduceBNe, Nat.reduceBEq, rd_def, n1, n2, n3, n4, n5, n6]
        cases b3 with
        | true =>
          simp only [go_sem, Nat.reduceEqDiff, Nat.reduceAdd, Nat.reduceLeDiff, Nat.reduceLT, ↓reduceIte, reduceCtorEq, Int.reduceLT, Int.reduceToNat, Int.reduceEq, Int.reduceBEq, Int.reduceBNe, Nat.reduceBEq, rd_def, n1, n2, n3, n4, n5, n6]
          exact ⟨rfl, rfl⟩
        | false =>
          cases xb with
          | true =>
            simp only [go_sem, Nat.reduceEqDiff, Nat.reduceAdd, Nat.reduceLeDiff, Nat.reduceLT, ↓reduceIte, reduceCtorEq, Int.reduceLT, Int.reduceToNat, Int.reduceEq, Int.reduceBEq, Int.reduceBNe, Nat.reduceBEq, rd_def, n1, n2, n3, n4, n5, n6]
            exact ⟨rfl, rfl⟩
          | false =>
            cases he : (xs == []) with
            | false =>
              simp only [go_sem, Nat.reduceEqDiff, Nat.reduceAdd, Nat.reduceLeDiff, Nat.reduceLT, ↓reduceIte, reduceCtorEq, Int.reduceLT, Int.reduceToNat, Int.reduceEq, Int.reduceBEq, Int.reduceBNe, Nat.reduceBEq, rd_def, n1, n2, n3, n4, n5, n6, he]
              exact ⟨rfl, rfl⟩
            | true =>
              simp only [go_sem, Nat.reduceEqDiff, Nat.reduceAdd, Nat.reduceLeDiff, Nat.reduceLT, ↓reduceIte, reduceCtorEq, Int.reduceLT, Int.reduceToNat, Int.reduceEq, Int.reduceBEq, Int.reduceBNe, Nat.reduceBEq, rd_def, n1, n2, n3, n4, n5, n6, he]
              refine pcall hM (by simp only [go_sem, Nat.reduceEqDiff, Nat.reduceAdd, Nat.reduceLeDiff, Nat.reduceLT, ↓reduceIte, reduceCtorEq, Int.reduceLT, Int.reduceToNat, Int.reduceEq, Int.reduceBEq, Int.reduceBNe, Nat.reduceBEq]) ?_
              cases m with
              | false =>
                simp only [go_sem, Nat.reduceEqDiff, Nat.reduceAdd, Nat.reduceLeDiff, Nat.reduceLT, ↓reduceIte, reduceCtorEq, Int.reduceLT, Int.reduceToNat, Int.reduceEq, Int.reduceBEq, Int.reduceBNe, Nat.reduceBEq, rd_def, n1, n2, n3, n4, n5, n6]
                exact ⟨rfl, rfl⟩
              | true =>
                simp only [go_sem, Nat.reduceEqDiff, Nat.reduceAdd, Nat.reduceLeDiff, Nat.reduceLT, ↓reduceIte, reduceCtorEq, Int.reduceLT, Int.reduceToNat, Int.reduceEq, Int.reduceBEq, Int.reduceBNe, Nat.reduceBEq, rd_def, n1, n2, n3, n4, n5, n6]
                all_goals exact ⟨labL_avfs _ _, labL_avfs _ _⟩
    · simp only [if_neg k13]
      have e1 : ((c : Int) == 1) = false := by simp; omega
      have e3 : ((c : Int) == 3) = false := by simp; omega
      by_cases k2 : c = 2
      · simp only [if_pos k2]
        have e2 : ((c : Int) == 2) = true := by rw [k2]; rfl
        have kc : (c : Int) = 2 := by rw [k2]; rfl
        simp only [go_sem, Nat.reduceEqDiff, Nat.reduceAdd, Nat.reduceLeDiff, Nat.reduceLT, ↓reduceIte, reduceCtorEq, Int.reduceLT, Int.reduceToNat, Int.reduceEq, Int.reduceBEq, Int.reduceBNe, Nat.reduceBEq, rd_def, n1, n2, n3, n4, n5, n6, e1, e3, e2]
        refine ccall (fn_number x1 (h.n + 2) _ (by simp) (by simp [bk_apply, rdB])) (by simp only [go_sem, Nat.reduceEqDiff, Nat.reduceAdd, Nat.reduceLeDiff, Nat.reduceLT, ↓reduceIte, reduceCtorEq, Int.reduceLT, Int.reduceToNat, Int.reduceEq, Int.reduceBEq, Int.reduceBNe, Nat.reduceBEq]) ?_
        rcases hd : numP x1 with ⟨nn, xs, xb⟩
        have htk : (T.mk 0 [] 0 []).ok := by rw [ok_mk]; simp
        have hM := fn_wMayF 2 (.mk 0 [] 0 []) 0 0 nn htk
        generalize okFr 2 (.mk 0 [] 0 []) 0 0 nn = m at *
        unfold frF flS at hM ⊢
        simp only [List.map_nil] at hM ⊢
        simp only [go_sem, Nat.reduceEqDiff, Nat.reduceAdd, Nat.reduceLeDiff, Nat.reduceLT, ↓reduceIte, reduceCtorEq, Int.reduceLT, Int.reduceToNat, Int.reduceEq, Int.reduceBEq, Int.reduceBNe, Nat.reduceBEq, rd_def, n1, n2, n3, n4, n5, n6, kc]
        cases b3 with
        | true =>
          simp only [go_sem, Nat.reduceEqDiff, Nat.reduceAdd, Nat.reduceLeDiff, Nat.reduceLT, ↓reduceIte, reduceCtorEq, Int.reduceLT, Int.reduceToNat, Int.reduceEq, Int.reduceBEq, Int.reduceBNe, Nat.reduceBEq, rd_def, n1, n2, n3, n4, n5, n6]
          exact ⟨rfl, rfl⟩
        | false =>
          cases xb with
          | true =>
            simp only [go_sem, Nat.reduceEqDiff, Nat.reduceAdd, Nat.reduceLeDiff, Nat.reduceLT, ↓reduceIte, reduceCtorEq, Int.reduceLT, Int.reduceToNat, Int.reduceEq, Int.reduceBEq, Int.reduceBNe, Nat.reduceBEq, rd_def, n1, n2, n3, n4, n5, n6]
            exact ⟨rfl, rfl⟩
          | false =>
            cases he : (xs == []) with
            | false =>
              simp only [go_sem, Nat.reduceEqDiff, Nat.reduceAdd, Nat.reduceLeDiff, Nat.reduceLT, ↓reduceIte, reduceCtorEq, Int.reduceLT, Int.reduceToNat, Int.reduceEq, Int.reduceBEq, Int.reduceBNe, Nat.reduceBEq, rd_def, n1, n2, n3, n4, n5, n6, he]
              exact ⟨rfl, rfl⟩
            | true =>
              simp only [go_sem, Nat.reduceEqDiff, Nat.reduceAdd, Nat.reduceLeDiff, Nat.reduceLT, ↓reduceIte, reduceCtorEq, Int.reduceLT, Int.reduceToNat, Int.reduceEq, Int.reduceBEq, Int.reduceBNe, Nat.reduceBEq, rd_def, n1, n2, n3, n4, n5, n6, he]
              refine pcall hM (by simp only [go_sem, Nat.reduceEqDiff, Nat.reduceAdd, Nat.reduceLeDiff, Nat.reduceLT, ↓reduceIte, reduceCtorEq, Int.reduceLT, Int.reduceToNat, Int.reduceEq, Int.reduceBEq, Int.reduceBNe, Nat.reduceBEq]) ?_
              cases m with
              | false =>
                simp only [go_sem, Nat.reduceEqDiff, Nat.reduceAdd, Nat.reduceLeDiff, Nat.reduceLT, ↓reduceIte, reduceCtorEq, Int.reduceLT, Int.reduceToNat, Int.reduceEq, Int.reduceBEq, Int.reduceBNe, Nat.reduceBEq, rd_def, n1, n2, n3, n4, n5, n6]
                exact ⟨rfl, rfl⟩
              | true =>
                simp only [go_sem, Nat.reduceEqDiff, Nat.reduceAdd, Nat.reduceLeDiff, Nat.reduceLT, ↓reduceIte, reduceCtorEq, Int.reduceLT, Int.reduceToNat, Int.reduceEq, Int.reduceBEq, Int.reduceBNe, Nat.reduceBEq, rd_def, n1, n2, n3, n4, n5, n6]
                all_goals exact ⟨labL_avfs _ _, labL_avfs _ _⟩
      · simp only [if_neg k2]
        have e2 : ((c : Int) == 2) = false := by simp; omega
        obtain ⟨xs, xb⟩ := x1
        have htk : (T.mk 0 [] 0 []).ok := by rw [ok_mk]; simp
        have hM := fn_wMayF (c : Int) (.mk 0 [] 0 []) 0 0 0 htk
        generalize okFr (c : Int) (.mk 0 [] 0 []) 0 0 0 = m at *
        unfold frF flS at hM ⊢
        simp only [List.map_nil] at hM ⊢
        simp only [go_sem, Nat.reduceEqDiff, Nat.reduceAdd, Nat.reduceLeDiff, Nat.reduceLT, ↓reduceIte, reduceCtorEq, Int.reduceLT, Int.reduceToNat, Int.reduceEq, Int.reduceBEq, Int.reduceBNe, Nat.reduceBEq, rd_def, n1, n2, n3, n4, n5, n6, e1, e3, e2]
        cases b3 with
        | true =>
          simp only [go_sem, Nat.reduceEqDiff, Nat.reduceAdd, Nat.reduceLeDiff, Nat.reduceLT, ↓reduceIte, reduceCtorEq, Int.reduceLT, Int.reduceToNat, Int.reduceEq, Int.reduceBEq, Int.reduceBNe, Nat.reduceBEq, rd_def, n1, n2, n3, n4, n5, n6]
          exact ⟨rfl, rfl⟩
        | false =>
          cases xb with
          | true =>
            simp only [go_sem, Nat.reduceEqDiff, Nat.reduceAdd, Nat.reduceLeDiff, Nat.reduceLT, ↓reduceIte, reduceCtorEq, Int.reduceLT, Int.reduceToNat, Int.reduceEq, Int.reduceBEq, Int.reduceBNe, Nat.reduceBEq, rd_def, n1, n2, n3, n4, n5, n6]
            exact ⟨rfl, rfl⟩
          | false =>
            cases he : (xs == []) with
            | false =>
              simp only [go_sem, Nat.reduceEqDiff, Nat.reduceAdd, Nat.reduceLeDiff, Nat.reduceLT, ↓reduceIte, reduceCtorEq, Int.reduceLT, Int.reduceToNat, Int.reduceEq, Int.reduceBEq, Int.reduceBNe, Nat.reduceBEq, rd_def, n1, n2, n3, n4, n5, n6, he]
              exact ⟨rfl, rfl⟩
            | true =>
              simp only [go_sem, Nat.reduceEqDiff, Nat.reduceAdd, Nat.reduceLeDiff, Nat.reduceLT, ↓reduceIte, reduceCtorEq, Int.reduceLT, Int.reduceToNat, Int.reduceEq, Int.reduceBEq, Int.reduceBNe, Nat.reduceBEq, rd_def, n1, n2, n3, n4, n5, n6, he]
              refine pcall hM (by simp only [go_sem, Nat.reduceEqDiff, Nat.reduceAdd, Nat.reduceLeDiff, Nat.reduceLT, ↓reduceIte, reduceCtorEq, Int.reduceLT, Int.reduceToNat, Int.reduceEq, Int.reduceBEq, Int.reduceBNe, Nat.reduceBEq]) ?_
              cases m with
              | false =>
                simp only [go_sem, Nat.reduceEqDiff, Nat.reduceAdd, Nat.reduceLeDiff, Nat.reduceLT, ↓reduceIte, reduceCtorEq, Int.reduceLT, Int.reduceToNat, Int.reduceEq, Int.reduceBEq, Int.reduceBNe, Nat.reduceBEq, rd_def, n1, n2, n3, n4, n5, n6]
                exact ⟨rfl, rfl⟩
              | true =>
                simp only [go_sem, Nat.reduceEqDiff, Nat.reduceAdd, Nat.reduceLeDiff, Nat.reduceLT, ↓reduceIte, reduceCtorEq, Int.reduceLT, Int.reduceToNat, Int.reduceEq, Int.reduceBEq, Int.reduceBNe, Nat.reduceBEq, rd_def, n1, n2, n3, n4, n5, n6]
                all_goals exact ⟨labL_avfs _ _, labL_avfs _ _⟩
  · have d6 : decide ((numP (s, false)).1 > 600) = false := decide_eq_false c6
    have hq : lenR s = takeR (numP (s, false)).2 (numP (s, false)).1 := by unfold lenR; rw [if_neg c6]
    simp only [go_sem, Nat.reduceEqDiff, Nat.reduceAdd, Nat.reduceLeDiff, Nat.reduceLT, ↓reduceIte, reduceCtorEq, Int.reduceLT, Int.reduceToNat, Int.reduceEq, Int.reduceBEq, Int.reduceBNe, Nat.reduceBEq, rd_def, n1, n2, d6]
    refine ccall (fn_take (numP (s, false)).2 (h.n + 1) (numP (s, false)).1 _ (by simp) (by simp [bk_apply, rdB, n1, n2])) (by simp only [go_sem, Nat.reduceEqDiff, Nat.reduceAdd, Nat.reduceLeDiff, Nat.reduceLT, ↓reduceIte, reduceCtorEq, Int.reduceLT, Int.reduceToNat, Int.reduceEq, Int.reduceBEq, Int.reduceBNe, Nat.reduceBEq]) ?_
    rw [← hq]
    unfold okTk frTk
    obtain ⟨y, s3, b3⟩ := lenR s
    simp only [go_sem, Nat.reduceEqDiff, Nat.reduceAdd, Nat.reduceLeDiff, Nat.reduceLT, ↓reduceIte, reduceCtorEq, Int.reduceLT, Int.reduceToNat, Int.reduceEq, Int.reduceBEq, Int.reduceBNe, Nat.reduceBEq, rd_def, n1, n2, n3, n4, n5, n6]
    have hc := oneR_lt (y, false)
    have hcw := wn hc
    have hone : oneR (y, false) = ((oneR (y, false)).1, (oneR (y, false)).2) := rfl
    refine ccall (fn_one (y, false) (h.n + 2) _ (by simp) (by simp [bk_apply, rdB])) (by simp only [go_sem, Nat.reduceEqDiff, Nat.reduceAdd, Nat.reduceLeDiff, Nat.reduceLT, ↓reduceIte, reduceCtorEq, Int.reduceLT, Int.reduceToNat, Int.reduceEq, Int.reduceBEq, Int.reduceBNe, Nat.reduceBEq]) ?_
    unfold decK
    rcases ho : oneR (y, false) with ⟨c, x1⟩
    rw [ho] at hc hcw
    simp only at hc hcw
    simp only [go_sem, Nat.reduceEqDiff, Nat.reduceAdd, Nat.reduceLeDiff, Nat.reduceLT, ↓reduceIte, reduceCtorEq, Int.reduceLT, Int.reduceToNat, Int.reduceEq, Int.reduceBEq, Int.reduceBNe, Nat.reduceBEq, rd_def, n1, n2, n3, n4, n5, n6, hcw]
    by_cases k13 : c = 1 ∨ c = 3
    · simp only [if_pos k13]
      by_cases k1 : c = 1
      · have e1 : ((c : Int) == 1) = true := by rw [k1]; rfl
        simp only [go_sem, Nat.reduceEqDiff, Nat.reduceAdd, Nat.reduceLeDiff, Nat.reduceLT, ↓reduceIte, reduceCtorEq, Int.reduceLT, Int.reduceToNat, Int.reduceEq, Int.reduceBEq, Int.reduceBNe, Nat.reduceBEq, rd_def, n1, n2, n3, n4, n5, n6, e1]
        refine ccall (fn_fact x1 (h.n + 2) _ (by simp) (by simp [bk_apply, rdB])) (by simp only [go_sem, Nat.reduceEqDiff, Nat.reduceAdd, Nat.reduceLeDiff, Nat.reduceLT, ↓reduceIte, reduceCtorEq, Int.reduceLT, Int.reduceToNat, Int.reduceEq, Int.reduceBEq, Int.reduceBNe, Nat.reduceBEq]) ?_
        rcases hd : decF x1 with ⟨⟨tk, tn, tv, tl⟩, a, b, xs, xb⟩
        unfold facF
        have htk : (T.mk tk tn tv tl).ok := by have h5 := decW_ok 5 x1; rw [show (decW 5 x1).1 = (decF x1).1 from rfl, hd] at h5; exact h5
        have hM := fn_wMayF (c : Int) (.mk tk tn tv tl) a b 0 htk
        generalize okFr (c : Int) (.mk tk tn tv tl) a b 0 = m at *
        unfold frF at hM ⊢
        simp only at hM
        simp only [go_sem, Nat.reduceEqDiff, Nat.reduceAdd, Nat.reduceLeDiff, Nat.reduceLT, ↓reduceIte, reduceCtorEq, Int.reduceLT, Int.reduceToNat, Int.reduceEq, Int.reduceBEq, Int.reduceBNe, Nat.reduceBEq, rd_def, n1, n2, n3, n4, n5, n6]
        cases b3 with
        | true =>
          simp only [go_sem, Nat.reduceEqDiff, Nat.reduceAdd, Nat.reduceLeDiff, Nat.reduceLT, ↓reduceIte, reduceCtorEq, Int.reduceLT, Int.reduceToNat, Int.reduceEq, Int.reduceBEq, Int.reduceBNe, Nat.reduceBEq, rd_def, n1, n2, n3, n4, n5, n6]
          exact ⟨rfl, rfl⟩
        | false =>
          cases xb with
          | true =>
            simp only [go_sem, Nat.reduceEqDiff, Nat.reduceAdd, Nat.reduceLeDiff, Nat.reduceLT, ↓reduceIte, reduceCtorEq, Int.reduceLT, Int.reduceToNat, Int.reduceEq, Int.reduceBEq, Int.reduceBNe, Nat.reduceBEq, rd_def, n1, n2, n3, n4, n5, n6]
            exact ⟨rfl, rfl⟩
          | false =>
            cases he : (xs == []) with
            | false =>
              simp only [go_sem, Nat.reduceEqDiff, Nat.reduceAdd, Nat.reduceLeDiff, Nat.reduceLT, ↓reduceIte, reduceCtorEq, Int.reduceLT, Int.reduceToNat, Int.reduceEq, Int.reduceBEq, Int.reduceBNe, Nat.reduceBEq, rd_def, n1, n2, n3, n4, n5, n6, he]
              exact ⟨rfl, rfl⟩
            | true =>
              simp only [go_sem, Nat.reduceEqDiff, Nat.reduceAdd, Nat.reduceLeDiff, Nat.reduceLT, ↓reduceIte, reduceCtorEq, Int.reduceLT, Int.reduceToNat, Int.reduceEq, Int.reduceBEq, Int.reduceBNe, Nat.reduceBEq, rd_def, n1, n2, n3, n4, n5, n6, he]
              refine pcall hM (by simp only [go_sem, Nat.reduceEqDiff, Nat.reduceAdd, Nat.reduceLeDiff, Nat.reduceLT, ↓reduceIte, reduceCtorEq, Int.reduceLT, Int.reduceToNat, Int.reduceEq, Int.reduceBEq, Int.reduceBNe, Nat.reduceBEq]) ?_
              cases m with
              | false =>
                simp only [go_sem, Nat.reduceEqDiff, Nat.reduceAdd, Nat.reduceLeDiff, Nat.reduceLT, ↓reduceIte, reduceCtorEq, Int.reduceLT, Int.reduceToNat, Int.reduceEq, Int.reduceBEq, Int.reduceBNe, Nat.reduceBEq, rd_def, n1, n2, n3, n4, n5, n6]
                exact ⟨rfl, rfl⟩
              | true =>
                simp only [go_sem, Nat.reduceEqDiff, Nat.reduceAdd, Nat.reduceLeDiff, Nat.reduceLT, ↓reduceIte, reduceCtorEq, Int.reduceLT, Int.reduceToNat, Int.reduceEq, Int.reduceBEq, Int.reduceBNe, Nat.reduceBEq, rd_def, n1, n2, n3, n4, n5, n6]
                all_goals exact ⟨labL_avfs _ _, labL_avfs _ _⟩
      · have e1 : ((c : Int) == 1) = false := by simp; omega
        have e3 : ((c : Int) == 3) = true := by rw [show c = 3 by omega]; rfl
        simp only [go_sem, Nat.reduceEqDiff, Nat.reduceAdd, Nat.reduceLeDiff, Nat.reduceLT, ↓reduceIte, reduceCtorEq, Int.reduceLT, Int.reduceToNat, Int.reduceEq, Int.reduceBEq, Int.reduceBNe, Nat.reduceBEq, rd_def, n1, n2, n3, n4, n5, n6, e1, e3]
        refine ccall (fn_fact x1 (h.n + 2) _ (by simp) (by simp [bk_apply, rdB])) (by simp only [go_sem, Nat.reduceEqDiff, Nat.reduceAdd, Nat.reduceLeDiff, Nat.reduceLT, ↓reduceIte, reduceCtorEq, Int.reduceLT, Int.reduceToNat, Int.reduceEq, Int.reduceBEq, Int.reduceBNe, Nat.reduceBEq]) ?_
        rcases hd : decF x1 with ⟨⟨tk, tn, tv, tl⟩, a, b, xs, xb⟩
        unfold facF
        have htk : (T.mk tk tn tv tl).ok := by have h5 := decW_ok 5 x1; rw [show (decW 5 x1).1 = (decF x1).1 from rfl, hd] at h5; exact h5
        have hM := fn_wMayF (c : Int) (.mk tk tn tv tl) a b 0 htk
        generalize okFr (c : Int) (.mk tk tn tv tl) a b 0 = m at *
        unfold frF at hM ⊢
        simp only at hM
        simp only [go_sem, Nat.reduceEqDiff, Nat.reduceAdd, Nat.reduceLeDiff, Nat.reduceLT, ↓reduceIte, reduceCtorEq, Int.reduceLT, Int.reduceToNat, Int.reduceEq, Int.reduceBEq, Int.reduceBNe, Nat.reduceBEq, rd_def, n1, n2, n3, n4, n5, n6]
        cases b3 with
        | true =>
          simp only [go_sem, Nat.reduceEqDiff, Nat.reduceAdd, Nat.reduceLeDiff, Nat.reduceLT, ↓reduceIte, reduceCtorEq, Int.reduceLT, Int.reduceToNat, Int.reduceEq, Int.reduceBEq, Int.reduceBNe, Nat.reduceBEq, rd_def, n1, n2, n3, n4, n5, n6]
          exact ⟨rfl, rfl⟩
        | false =>
          cases xb with
          | true =>
            simp only [go_sem, Nat.reduceEqDiff, Nat.reduceAdd, Nat.reduceLeDiff, Nat.reduceLT, ↓reduceIte, reduceCtorEq, Int.reduceLT, Int.reduceToNat, Int.reduceEq, Int.reduceBEq, Int.reduceBNe, Nat.reduceBEq, rd_def, n1, n2, n3, n4, n5, n6]
            exact ⟨rfl, rfl⟩
          | false =>
            cases he : (xs == []) with
            | false =>
              simp only [go_sem, Nat.reduceEqDiff, Nat.reduceAdd, Nat.reduceLeDiff, Nat.reduceLT, ↓reduceIte, reduceCtorEq, Int.reduceLT, Int.reduceToNat, Int.reduceEq, Int.reduceBEq, Int.reduceBNe, Nat.reduceBEq, rd_def, n1, n2, n3, n4, n5, n6, he]
              exact ⟨rfl, rfl⟩
            | true =>
              simp only [go_sem, Nat.reduceEqDiff, Nat.reduceAdd, Nat.reduceLeDiff, Nat.reduceLT, ↓reduceIte, reduceCtorEq, Int.reduceLT, Int.reduceToNat, Int.reduceEq, Int.reduceBEq, Int.reduceBNe, Nat.reduceBEq, rd_def, n1, n2, n3, n4, n5, n6, he]
              refine pcall hM (by simp only [go_sem, Nat.reduceEqDiff, Nat.reduceAdd, Nat.reduceLeDiff, Nat.reduceLT, ↓reduceIte, reduceCtorEq, Int.reduceLT, Int.reduceToNat, Int.reduceEq, Int.reduceBEq, Int.reduceBNe, Nat.reduceBEq]) ?_
              cases m with
              | false =>
                simp only [go_sem, Nat.reduceEqDiff, Nat.reduceAdd, Nat.reduceLeDiff, Nat.reduceLT, ↓reduceIte, reduceCtorEq, Int.reduceLT, Int.reduceToNat, Int.reduceEq, Int.reduceBEq, Int.reduceBNe, Nat.reduceBEq, rd_def, n1, n2, n3, n4, n5, n6]
                exact ⟨rfl, rfl⟩
              | true =>
                simp only [go_sem, Nat.reduceEqDiff, Nat.reduceAdd, Nat.reduceLeDiff, Nat.reduceLT, ↓reduceIte, reduceCtorEq, Int.reduceLT, Int.reduceToNat, Int.reduceEq, Int.reduceBEq, Int.reduceBNe, Nat.reduceBEq, rd_def, n1, n2, n3, n4, n5, n6]
                all_goals exact ⟨labL_avfs _ _, labL_avfs _ _⟩
    · simp only [if_neg k13]
      have e1 : ((c : Int) == 1) = false := by simp; omega
      have e3 : ((c : Int) == 3) = false := by simp; omega
      by_cases k2 : c = 2
      · simp only [if_pos k2]
        have e2 : ((c : Int) == 2) = true := by rw [k2]; rfl
        have kc : (c : Int) = 2 := by rw [k2]; rfl
        simp only [go_sem, Nat.reduceEqDiff, Nat.reduceAdd, Nat.reduceLeDiff, Nat.reduceLT, ↓reduceIte, reduceCtorEq, Int.reduceLT, Int.reduceToNat, Int.reduceEq, Int.reduceBEq, Int.reduceBNe, Nat.reduceBEq, rd_def, n1, n2, n3, n4, n5, n6, e1, e3, e2]
        refine ccall (fn_number x1 (h.n + 2) _ (by simp) (by simp [bk_apply, rdB])) (by simp only [go_sem, Nat.reduceEqDiff, Nat.reduceAdd, Nat.reduceLeDiff, Nat.reduceLT, ↓reduceIte, reduceCtorEq, Int.reduceLT, Int.reduceToNat, Int.reduceEq, Int.reduceBEq, Int.reduceBNe, Nat.reduceBEq]) ?_
        rcases hd : numP x1 with ⟨nn, xs, xb⟩
        have htk : (T.mk 0 [] 0 []).ok := by rw [ok_mk]; simp
        have hM := fn_wMayF 2 (.mk 0 [] 0 []) 0 0 nn htk
        generalize okFr 2 (.mk 0 [] 0 []) 0 0 nn = m at *
        unfold frF flS at hM ⊢
        simp only [List.map_nil] at hM ⊢
        simp only [go_sem, Nat.reduceEqDiff, Nat.reduceAdd, Nat.reduceLeDiff, Nat.reduceLT, ↓reduceIte, reduceCtorEq, Int.reduceLT, Int.reduceToNat, Int.reduceEq, Int.reduceBEq, Int.reduceBNe, Nat.reduceBEq, rd_def, n1, n2, n3, n4, n5, n6, kc]
        cases b3 with
        | true =>
          simp only [go_sem, Nat.reduceEqDiff, Nat.reduceAdd, Nat.reduceLeDiff, Nat.reduceLT, ↓reduceIte, reduceCtorEq, Int.reduceLT, Int.reduceToNat, Int.reduceEq, Int.reduceBEq, Int.reduceBNe, Nat.reduceBEq, rd_def, n1, n2, n3, n4, n5, n6]
          exact ⟨rfl, rfl⟩
        | false =>
          cases xb with
          | true =>
            simp only [go_sem, Nat.reduceEqDiff, Nat.reduceAdd, Nat.reduceLeDiff, Nat.reduceLT, ↓reduceIte, reduceCtorEq, Int.reduceLT, Int.reduceToNat, Int.reduceEq, Int.reduceBEq, Int.reduceBNe, Nat.reduceBEq, rd_def, n1, n2, n3, n4, n5, n6]
            exact ⟨rfl, rfl⟩
          | false =>
            cases he : (xs == []) with
            | false =>
              simp only [go_sem, Nat.reduceEqDiff, Nat.reduceAdd, Nat.reduceLeDiff, Nat.reduceLT, ↓reduceIte, reduceCtorEq, Int.reduceLT, Int.reduceToNat, Int.reduceEq, Int.reduceBEq, Int.reduceBNe, Nat.reduceBEq, rd_def, n1, n2, n3, n4, n5, n6, he]
              exact ⟨rfl, rfl⟩
            | true =>
              simp only [go_sem, Nat.reduceEqDiff, Nat.reduceAdd, Nat.reduceLeDiff, Nat.reduceLT, ↓reduceIte, reduceCtorEq, Int.reduceLT, Int.reduceToNat, Int.reduceEq, Int.reduceBEq, Int.reduceBNe, Nat.reduceBEq, rd_def, n1, n2, n3, n4, n5, n6, he]
              refine pcall hM (by simp only [go_sem, Nat.reduceEqDiff, Nat.reduceAdd, Nat.reduceLeDiff, Nat.reduceLT, ↓reduceIte, reduceCtorEq, Int.reduceLT, Int.reduceToNat, Int.reduceEq, Int.reduceBEq, Int.reduceBNe, Nat.reduceBEq]) ?_
              cases m with
              | false =>
                simp only [go_sem, Nat.reduceEqDiff, Nat.reduceAdd, Nat.reduceLeDiff, Nat.reduceLT, ↓reduceIte, reduceCtorEq, Int.reduceLT, Int.reduceToNat, Int.reduceEq, Int.reduceBEq, Int.reduceBNe, Nat.reduceBEq, rd_def, n1, n2, n3, n4, n5, n6]
                exact ⟨rfl, rfl⟩
              | true =>
                simp only [go_sem, Nat.reduceEqDiff, Nat.reduceAdd, Nat.reduceLeDiff, Nat.reduceLT, ↓reduceIte, reduceCtorEq, Int.reduceLT, Int.reduceToNat, Int.reduceEq, Int.reduceBEq, Int.reduceBNe, Nat.reduceBEq, rd_def, n1, n2, n3, n4, n5, n6]
                all_goals exact ⟨labL_avfs _ _, labL_avfs _ _⟩
      · simp only [if_neg k2]
        have e2 : ((c : Int) == 2) = false := by simp; omega
        obtain ⟨xs, xb⟩ := x1
        have htk : (T.mk 0 [] 0 []).ok := by rw [ok_mk]; simp
        have hM := fn_wMayF (c : Int) (.mk 0 [] 0 []) 0 0 0 htk
        generalize okFr (c : Int) (.mk 0 [] 0 []) 0 0 0 = m at *
        unfold frF flS at hM ⊢
        simp only [List.map_nil] at hM ⊢
        simp only [go_sem, Nat.reduceEqDiff, Nat.reduceAdd, Nat.reduceLeDiff, Nat.reduceLT, ↓reduceIte, reduceCtorEq, Int.reduceLT, Int.reduceToNat, Int.reduceEq, Int.reduceBEq, Int.reduceBNe, Nat.reduceBEq, rd_def, n1, n2, n3, n4, n5, n6, e1, e3, e2]
        cases b3 with
        | true =>
          simp only [go_sem, Nat.reduceEqDiff, Nat.reduceAdd, Nat.reduceLeDiff, Nat.reduceLT, ↓reduceIte, reduceCtorEq, Int.reduceLT, Int.reduceToNat, Int.reduceEq, Int.reduceBEq, Int.reduceBNe, Nat.reduceBEq, rd_def, n1, n2, n3, n4, n5, n6]
          exact ⟨rfl, rfl⟩
        | false =>
          cases xb with
          | true =>
            simp only [go_sem, Nat.reduceEqDiff, Nat.reduceAdd, Nat.reduceLeDiff, Nat.reduceLT, ↓reduceIte, reduceCtorEq, Int.reduceLT, Int.reduceToNat, Int.reduceEq, Int.reduceBEq, Int.reduceBNe, Nat.reduceBEq, rd_def, n1, n2, n3, n4, n5, n6]
            exact ⟨rfl, rfl⟩
          | false =>
            cases he : (xs == []) with
            | false =>
              simp only [go_sem, Nat.reduceEqDiff, Nat.reduceAdd, Nat.reduceLeDiff, Nat.reduceLT, ↓reduceIte, reduceCtorEq, Int.reduceLT, Int.reduceToNat, Int.reduceEq, Int.reduceBEq, Int.reduceBNe, Nat.reduceBEq, rd_def, n1, n2, n3, n4, n5, n6, he]
              exact ⟨rfl, rfl⟩
            | true =>
              simp only [go_sem, Nat.reduceEqDiff, Nat.reduceAdd, Nat.reduceLeDiff, Nat.reduceLT, ↓reduceIte, reduceCtorEq, Int.reduceLT, Int.reduceToNat, Int.reduceEq, Int.reduceBEq, Int.reduceBNe, Nat.reduceBEq, rd_def, n1, n2, n3, n4, n5, n6, he]
              refine pcall hM (by simp only [go_sem, Nat.reduceEqDiff, Nat.reduceAdd, Nat.reduceLeDiff, Nat.reduceLT, ↓reduceIte, reduceCtorEq, Int.reduceLT, Int.reduceToNat, Int.reduceEq, Int.reduceBEq, Int.reduceBNe, Nat.reduceBEq]) ?_
              cases m with
              | false =>
                simp only [go_sem, Nat.reduceEqDiff, Nat.reduceAdd, Nat.reduceLeDiff, Nat.reduceLT, ↓reduceIte, reduceCtorEq, Int.reduceLT, Int.reduceToNat, Int.reduceEq, Int.reduceBEq, Int.reduceBNe, Nat.reduceBEq, rd_def, n1, n2, n3, n4, n5, n6]
                exact ⟨rfl, rfl⟩
              | true =>
                simp only [go_sem, Nat.reduceEqDiff, Nat.reduceAdd, Nat.reduceLeDiff, Nat.reduceLT, ↓reduceIte, reduceCtorEq, Int.reduceLT, Int.reduceToNat, Int.reduceEq, Int.reduceBEq, Int.reduceBNe, Nat.reduceBEq, rd_def, n1, n2, n3, n4, n5, n6]
                all_goals exact ⟨labL_avfs _ _, labL_avfs _ _⟩
end Go.Proofs.Ythaoooohomfkcaa.Ab
