/- Rows of frames taken; frames copied and compared. No condition. WireFrames' walk: the law. No condition. -/
import Derived.Test.YthaoooohomfkcaaWiA
import Derived.Test.YthaoooohomfkcaaWu0
namespace Go.Proofs.Ythaoooohomfkcaa.Ab
set_option linter.unusedVariables false
set_option linter.unusedSimpArgs false
set_option maxRecDepth 10000
attribute [local go_sem] Nat.zero_le Bool.not_true Bool.not_false Bool.false_eq_true if_false if_true forall_const true_and and_true List.map Option.map Bool.and_self Bool.and_true Bool.true_and Bool.false_and Bool.and_false List.getElem?_cons_zero List.getElem?_nil List.getElem?_cons_succ Int.natCast_nonneg Int.toNat_natCast List.length_map List.length_cons List.length_nil Nat.zero_add Nat.le_refl List.drop_zero List.drop_succ_cons List.take_succ_cons List.take_zero List.take_nil ne_eq not_true_eq_false not_false_eq_true upd_same Nat.add_assoc Nat.left_eq_add Nat.add_eq_left Nat.add_left_cancel_iff Nat.succ_ne_self Nat.one_ne_zero Nat.add_zero Nat.le_add_right ite_self List.set_cons_zero List.set_cons_succ List.all_cons List.all_nil bne_self_eq_false List.isEmpty_cons Int.cast_ofNat_Int Nat.mul_one List.nil_append or_self or_true true_or List.cons_append List.append_nil Option.none_beq_some Option.some_beq_some beq_self_eq_true
theorem c57 : compF Try.prog ow Try.f57 = (some (26, ([(.t 2), (.t 3)], (.seq (.ops [(none, (.set 2 (.sl .full 8 []))), (none, (.set 3 (.int .i64 0)))]) (.seq (.ops [(none, (.set 4 (.sl .full 8 [])))]) (.seq (.block 0 (.loop (.seq (.seq (.ops [(none, (.cp 8 0)), (none, (.bin (some 9) .neq (.t 8) (.k (.str [])) false false))]) (.cond (.t 9) .skip (.exit 0))) (.block 1 (.seq (.ops [(none, (.cp 11 0)), (none, (.call (some 12) (.k (.func 50 [] [])) [(.t 11)] none)), (none, (.cp 10 12)), (none, (.ext (some 13) (.t 10) 0)), (none, (.ext (some 14) (.t 10) 1)), (none, (.ext (some 15) (.t 10) 2)), (none, (.alloc 5 [(.int .i64 0), (.int .i64 0), (.str []), (.int .i64 0), (.sl .full 4 []), (.int .i64 0), (.int .i64 0), (.int .i64 0)])), (none, (.st (.t 5) (.t 13) 8)), (none, (.mv 6 14)), (none, (.mv 7 15))]) (.seq (.seq (.ops [(none, (.cp 16 7)), (none, (.bin (some 17) .neq (.t 16) (.k (.int .i64 0)) false false))]) (.cond (.t 17) (.seq (.ops [(none, (.mv 18 4)), (none, (.mv 19 7)), (none, (.mv 2 18)), (none, (.mv 3 19))]) .ret) .skip)) (.ops [(none, (.mv 20 4)), (none, (.ld (some 21) (.t 5) (.agg 8))), (none, (.bs 22 8 [(.t 21)])), (none, (.app 23 (.t 20) (.t 22) 8 88 true true)), (none, (.mv 24 6)), (none, (.mv 4 23)), (none, (.mv 0 24))]))))))) (.seq (.ops [(none, (.mv 25 4)), (none, (.mv 2 25)), (none, (.set 3 (.int .i64 0)))]) .ret))))))) := by kernel_rfl
theorem c58 : compF Try.prog ow Try.f58 = (some (26, ([(.t 2), (.t 3)], (.seq (.ops [(none, (.set 2 (.sl .full 8 []))), (none, (.set 3 (.bool false)))]) (.seq (.ops [(none, (.set 4 (.sl .full 8 [])))]) (.seq (.block 0 (.loop (.seq (.seq (.ops [(none, (.cp 8 0)), (none, (.len (some 9) (.t 8) true false)), (none, (.bin (some 10) .gtr (.t 9) (.k (.int .i64 0)) false false))]) (.cond (.t 10) .skip (.exit 0))) (.block 1 (.seq (.ops [(none, (.cp 12 0)), (none, (.call (some 13) (.k (.func 56 [] [])) [(.t 12)] none)), (none, (.cp 11 13)), (none, (.ext (some 14) (.t 11) 0)), (none, (.ext (some 15) (.t 11) 1)), (none, (.ext (some 16) (.t 11) 2)), (none, (.alloc 5 [(.int .i64 0), (.int .i64 0), (.str []), (.int .i64 0), (.sl .full 4 []), (.int .i64 0), (.int .i64 0), (.int .i64 0)])), (none, (.st (.t 5) (.t 14) 8)), (none, (.mv 6 15)), (none, (.mv 7 16))]) (.seq (.seq (.ops [(none, (.cp 17 7)), (none, (.un (some 18) .not (.t 17)))]) (.cond (.t 18) (.seq (.ops [(none, (.mv 19 4)), (none, (.mv 2 19)), (none, (.set 3 (.bool false)))]) .ret) .skip)) (.seq (.ops [(none, (.mv 20 4)), (none, (.ld (some 21) (.t 5) (.agg 8))), (none, (.bs 22 8 [(.t 21)])), (none, (.app 23 (.t 20) (.t 22) 8 88 true true)), (none, (.mv 4 23))]) (.ops [(none, (.mv 24 6)), (none, (.mv 0 24))])))))))) (.seq (.ops [(none, (.mv 25 4)), (none, (.mv 2 25)), (none, (.set 3 (.bool true)))]) .ret))))))) := by kernel_rfl
theorem c59 : compF Try.prog ow Try.f59 = (some (27, ([(.t 4)], (.seq (.ops [(none, (.set 4 (.bool false)))]) (.seq (.seq (.ops [(none, (.cp 6 0)), (none, (.len (some 7) (.t 6) false true)), (none, (.cp 8 1)), (none, (.len (some 9) (.t 8) false true)), (none, (.bin (some 10) .neq (.t 7) (.t 9) false false))]) (.cond (.t 10) (.seq (.ops [(none, (.set 4 (.bool false)))]) .ret) .skip)) (.seq (.seq (.ops [(none, (.set 5 (.int .i64 0)))]) (.block 0 (.loop (.seq (.seq (.ops [(none, (.cp 11 5)), (none, (.cp 12 0)), (none, (.len (some 13) (.t 12) false true)), (none, (.bin (some 14) .lss (.t 11) (.t 13) false false))]) (.cond (.t 14) .skip (.exit 0))) (.seq (.block 1 (.seq (.opsD [(none, (.cp 17 0)), (none, (.cp 18 5)), (none, (.ia (some 19) (.t 17) (.t 18) (some 8) none)), (none, (.ld (some 20) (.t 19) (.agg 8))), (none, (.cp 21 1)), (none, (.cp 22 5)), (none, (.ia (some 23) (.t 21) (.t 22) (some 8) none)), (none, (.ld (some 24) (.t 23) (.agg 8))), (none, (.call (some 25) (.k (.func 52 [] [])) [(.t 20), (.t 24)] none)), (none, (.un (some 26) .not (.t 25)))]) (.cond (.t 26) (.seq (.ops [(none, (.set 4 (.bool false)))]) .ret) .skip))) (.ops [(none, (.cp 15 5)), (none, (.bin (some 16) .add (.t 15) (.k (.int .i64 1)) false false)), (none, (.mv 5 16))])))))) (.seq (.ops [(none, (.set 4 (.bool true)))]) .ret))))))) := by kernel_rfl
theorem c55 : compF Try.prog ow Try.f55 = (some (10, ([(.c 2 (.agg 8))], (.seq (.ops [(none, (.box 1 (.t 0))), (none, (.alloc 2 [(.int .i64 0), (.int .i64 0), (.str []), (.int .i64 0), (.sl .full 4 []), (.int .i64 0), (.int .i64 0), (.int .i64 0)]))]) (.seq (.ops [(none, (.ld (some 4) (.t 1) (.agg 8))), (none, (.alloc 3 [(.int .i64 0), (.int .i64 0), (.str []), (.int .i64 0), (.sl .full 4 []), (.int .i64 0), (.int .i64 0), (.int .i64 0)])), (none, (.st (.t 3) (.t 4) 8))]) (.seq (.ops [(none, (.fa (some 5) (.t 1) 1)), (none, (.ld (some 6) (.t 5) (.agg 6))), (none, (.call (some 7) (.k (.func 99 [] [])) [(.t 6)] none)), (none, (.fa (some 8) (.t 3) 1)), (none, (.st (.t 8) (.t 7) 6))]) (.seq (.ops [(none, (.ld (some 9) (.t 3) (.agg 8))), (none, (.st (.t 2) (.t 9) 8))]) .ret))))))) := by kernel_rfl
theorem c99 : compF Try.prog ow Try.f99 = (some (10, ([(.c 2 (.agg 6))], (.seq (.ops [(none, (.box 1 (.t 0))), (none, (.alloc 2 [(.int .i64 0), (.str []), (.int .i64 0), (.sl .full 4 []), (.int .i64 0), (.int .i64 0)]))]) (.seq (.ops [(none, (.ld (some 4) (.t 1) (.agg 6))), (none, (.alloc 3 [(.int .i64 0), (.str []), (.int .i64 0), (.sl .full 4 []), (.int .i64 0), (.int .i64 0)])), (none, (.st (.t 3) (.t 4) 6))]) (.seq (.ops [(none, (.fa (some 5) (.t 1) 0)), (none, (.ld (some 6) (.t 5) (.agg 4))), (none, (.call (some 7) (.k (.func 17 [] [])) [(.t 6)] none)), (none, (.fa (some 8) (.t 3) 0)), (none, (.st (.t 8) (.t 7) 4))]) (.seq (.ops [(none, (.ld (some 9) (.t 3) (.agg 6))), (none, (.st (.t 2) (.t 9) 6))]) .ret))))))) := by kernel_rfl
theorem c17 : compF Try.prog ow Try.f17 = (some (10, ([(.c 2 (.agg 4))], (.seq (.ops [(none, (.box 1 (.t 0))), (none, (.alloc 2 [(.int .i64 0), (.str []), (.int .i64 0), (.sl .full 4 [])]))]) (.seq (.ops [(none, (.ld (some 4) (.t 1) (.agg 4))), (none, (.alloc 3 [(.int .i64 0), (.str []), (.int .i64 0), (.sl .full 4 [])])), (none, (.st (.t 3) (.t 4) 4))]) (.seq (.ops [(none, (.fa (some 5) (.t 1) 3)), (none, (.ld (some 6) (.t 5) (.one (some 4)))), (none, (.call (some 7) (.k (.func 65 [] [])) [(.t 6)] none)), (none, (.fa (some 8) (.t 3) 3)), (none, (.st (.t 8) (.t 7) 1))]) (.seq (.ops [(none, (.ld (some 9) (.t 3) (.agg 4))), (none, (.st (.t 2) (.t 9) 4))]) .ret))))))) := by kernel_rfl
theorem c65 : compF Try.prog ow Try.f65 = (some (20, ([(.t 2)], (.seq (.ops [(none, (.set 2 (.sl .full 4 [])))]) (.seq (.ops [(none, (.set 3 (.sl .full 4 [])))]) (.seq (.seq (.ops [(none, (.set 4 (.int .i64 0)))]) (.block 0 (.loop (.seq (.seq (.ops [(none, (.cp 5 4)), (none, (.cp 6 0)), (none, (.len (some 7) (.t 6) false true)), (none, (.bin (some 8) .lss (.t 5) (.t 7) false false))]) (.cond (.t 8) .skip (.exit 0))) (.seq (.block 1 (.ops [(none, (.mv 11 3)), (none, (.cp 12 0)), (none, (.cp 13 4)), (none, (.ia (some 14) (.t 12) (.t 13) (some 4) none)), (none, (.ld (some 15) (.t 14) (.agg 4))), (none, (.call (some 16) (.k (.func 17 [] [])) [(.t 15)] none)), (none, (.bs 17 4 [(.t 16)])), (none, (.app 18 (.t 11) (.t 17) 4 56 true true)), (none, (.mv 3 18))])) (.ops [(none, (.cp 9 4)), (none, (.bin (some 10) .add (.t 9) (.k (.int .i64 1)) false false)), (none, (.mv 4 10))])))))) (.seq (.ops [(none, (.mv 19 3)), (none, (.mv 2 19))]) .ret))))))) := by kernel_rfl
attribute [local go_sem] strip_flS strip_flT isOwn_flS avf_agg strip_avf isOwn_avf avf_len avf_take avf_okc avf_put avf_cstrip
def Fr.avF (f : Fr) : AV := frF f.k f.t f.a f.b f.n
def frT (s : List UInt8) : Fr := ⟨(decK ((lenR s).1, false)).1, (decK ((lenR s).1, false)).2.1, (decK ((lenR s).1, false)).2.2.1, (decK ((lenR s).1, false)).2.2.2.1, (decK ((lenR s).1, false)).2.2.2.2.1⟩
theorem frTk_eq (s : List UInt8) : frTk s = (frT s).avF := rfl
/-- The frames that bytes hold, one behind the other; false: one is none. -/
def allL : Nat → List UInt8 → List Fr × Bool
  | 0, s => ([], true)
  | n + 1, s => if s = [] then ([], true) else if okTk s = true then (frT s :: (allL n (lenR s).2.1).1, (allL n (lenR s).2.1).2) else ([], false)
theorem allL_nil : ∀ n, allL n [] = ([], true)
  | 0 => rfl
  | n + 1 => by rw [allL, if_pos rfl]
theorem okTk_short {s : List UInt8} (h : okTk s = true) : (lenR s).2.1.length < s.length := by
  obtain ⟨k, t, a, b, n, h1, _, _, h4⟩ := okTk_inv h
  have hb := bodyL_le h1
  have hv : 0 < (vbs (zz (bodyL k t a b n))).length := by
    unfold vbs; rw [u8_len, vb]; split <;> simp
  have := congrArg List.length h4
  unfold frS at this
  simp only [List.length_append] at this
  omega
theorem decK_ok (x : Rd) : (decK x).2.1.ok := by
  unfold decK
  split
  · exact decW_ok _ _
  split
  · rw [ok_mk]; simp
  · rw [ok_mk]; simp
theorem allL_ok : ∀ (n : Nat) (s : List UInt8), ∀ f ∈ (allL n s).1, f.t.ok
  | 0, s, f, h => by simp [allL] at h
  | n + 1, s, f, h => by
    rw [allL] at h
    split at h
    · simp at h
    split at h
    · simp only [List.mem_cons] at h
      rcases h with rfl | h
      · exact decK_ok _
      · exact allL_ok n _ f h
    · simp at h
theorem allL_len : ∀ (n : Nat) (s : List UInt8), (allL n s).1.length ≤ n
  | 0, s => by simp [allL]
  | n + 1, s => by
    rw [allL]
    split
    · simp
    split
    · have := allL_len n (lenR s).2.1; simp; omega
    · simp
def flF : List Fr → Fl | [] => .full | _ => .own
def flG : List Fr → Fl | [] => .full | _ => .sh
theorem flF_snoc (l : List Fr) (x : Fr) : flF (l ++ [x]) = .own := by cases l <;> rfl
theorem lab_avF (n : Nat) (l : List Fr) : labL n (l.map Fr.avF) = true := by
  refine labL_all.2 fun c hc => ?_
  obtain ⟨f, _, rfl⟩ := List.mem_map.1 hc
  obtain ⟨k, t, a, b, n'⟩ := f
  obtain ⟨tk, tn, tv, tl⟩ := t
  have := labL_avfs n tl
  simp [Fr.avF, frF, labOK, labL, this]
set_option maxHeartbeats 1600000 in
theorem fn_wAll (s : List UInt8) (hs : s.length ≤ 1000000) : PFn Try.prog 57 [.str s] (.tup [.sl (flG (allL s.length s).1) 8 ((allL s.length s).1.map Fr.avF), .int .i64 (if (allL s.length s).2 then 0 else 4)]) := by
  intro h
  refine fnC mixed Try.func57 c57 (by simp) ?_
  have hlen := allL_len s.length s
  generalize hR : allL s.length s = R at *
  simp only [go_sem, Nat.reduceEqDiff, Nat.reduceAdd, Nat.reduceLeDiff, Nat.reduceLT, ↓reduceIte, reduceCtorEq, Int.reduceLT, Int.reduceToNat, Int.reduceEq, Int.reduceBEq, Int.reduceBNe, Nat.reduceBEq]
  refine cloop (fun k t => ∃ (acc : List Fr) (s' : List UInt8), s'.length ≤ k ∧ k ≤ s.length ∧ t.fr 0 = .str s' ∧ t.fr 4 = .sl (flF acc) 8 (acc.map Fr.avF) ∧ R.1 = acc ++ (allL k s').1 ∧ R.2 = (allL k s').2 ∧ h.n ≤ t.hp.n ∧ Shrink h t.hp h) s.length ⟨[], s, by simp, by simp, by simp [fr_apply, argsF], by simp [fr_apply, flF], by simp [hR], by simp [hR], by simp, shrink_refl h⟩ ?_
  rintro k ⟨f, hp⟩ ⟨acc, s', hk, hks, f0, f4, e1, e2, hn, hsh⟩
  simp only at f0 f4 hn hsh
  cases s' with
  | nil =>
    have e1' : R.1 = acc := by rw [e1, allL_nil]; simp
    have e2' : R.2 = true := by rw [e2, allL_nil]
    rw [e1', e2']
    cases acc with
    | nil =>
      unfold flF at f4
      unfold flG
      simp only [List.map_nil] at f4 ⊢
      simp only [go_sem, Nat.reduceEqDiff, Nat.reduceAdd, Nat.reduceLeDiff, Nat.reduceLT, ↓reduceIte, reduceCtorEq, Int.reduceLT, Int.reduceToNat, Int.reduceEq, Int.reduceBEq, Int.reduceBNe, Nat.reduceBEq, f0, f4]
      exact hsh
    | cons x acc =>
      unfold flF at f4
      unfold flG
      simp only at f4 ⊢
      have lb := lab_avF h.n (x :: acc)
      generalize (x :: acc).map Fr.avF = ys at *
      simp only [go_sem, Nat.reduceEqDiff, Nat.reduceAdd, Nat.reduceLeDiff, Nat.reduceLT, ↓reduceIte, reduceCtorEq, Int.reduceLT, Int.reduceToNat, Int.reduceEq, Int.reduceBEq, Int.reduceBNe, Nat.reduceBEq, f0, f4]
      exact ⟨lb, hsh⟩
  | cons c s1 =>
    obtain ⟨n, rfl⟩ : ∃ n, k = n + 1 := ⟨k - 1, by simp at hk; omega⟩
    have hW := fn_wTakeF (c :: s1)
    have hne : (c :: s1 == ([] : List UInt8)) = false := rfl
    have hsn : h.n ≤ hp.n := hn
    have hsg := shrink_grow (n := hp.n + 1) hsh (by omega)
    rw [allL, if_neg (by simp)] at e1 e2
    cases hm : okTk (c :: s1) with
    | false =>
      rw [hm] at hW e1 e2
      simp only [Bool.false_eq_true, if_false, List.append_nil] at hW e1 e2
      rw [e1, e2]
      unfold fr0 at hW
      cases acc with
      | nil =>
        unfold flF at f4
        unfold flG
        simp only [List.map_nil] at f4 ⊢
        simp only [go_sem, Nat.reduceEqDiff, Nat.reduceAdd, Nat.reduceLeDiff, Nat.reduceLT, ↓reduceIte, reduceCtorEq, Int.reduceLT, Int.reduceToNat, Int.reduceEq, Int.reduceBEq, Int.reduceBNe, Nat.reduceBEq, f0, f4, hne]
        refine pcall hW (by simp only [go_sem, Nat.reduceEqDiff, Nat.reduceAdd, Nat.reduceLeDiff, Nat.reduceLT, ↓reduceIte, reduceCtorEq, Int.reduceLT, Int.reduceToNat, Int.reduceEq, Int.reduceBEq, Int.reduceBNe, Nat.reduceBEq]) ?_
        simp only [go_sem, Nat.reduceEqDiff, Nat.reduceAdd, Nat.reduceLeDiff, Nat.reduceLT, ↓reduceIte, reduceCtorEq, Int.reduceLT, Int.reduceToNat, Int.reduceEq, Int.reduceBEq, Int.reduceBNe, Nat.reduceBEq, f0, f4]
        simp [shrink_upd, hsg, hsn]
      | cons x acc =>
        unfold flF at f4
        unfold flG
        simp only at f4 ⊢
        have lb := lab_avF h.n (x :: acc)
        generalize (x :: acc).map Fr.avF = ys at *
        simp only [go_sem, Nat.reduceEqDiff, Nat.reduceAdd, Nat.reduceLeDiff, Nat.reduceLT, ↓reduceIte, reduceCtorEq, Int.reduceLT, Int.reduceToNat, Int.reduceEq, Int.reduceBEq, Int.reduceBNe, Nat.reduceBEq, f0, f4, hne]
        refine pcall hW (by simp only [go_sem, Nat.reduceEqDiff, Nat.reduceAdd, Nat.reduceLeDiff, Nat.reduceLT, ↓reduceIte, reduceCtorEq, Int.reduceLT, Int.reduceToNat, Int.reduceEq, Int.reduceBEq, Int.reduceBNe, Nat.reduceBEq]) ?_
        simp only [go_sem, Nat.reduceEqDiff, Nat.reduceAdd, Nat.reduceLeDiff, Nat.reduceLT, ↓reduceIte, reduceCtorEq, Int.reduceLT, Int.reduceToNat, Int.reduceEq, Int.reduceBEq, Int.reduceBNe, Nat.reduceBEq, f0, f4]
        simp [shrink_upd, hsg, hsn, lb]
    | true =>
      have hsl := okTk_short hm
      rw [hm, frTk_eq] at hW
      rw [hm] at e1 e2
      simp only [if_true] at hW e1 e2
      have e1' : R.1 = (acc ++ [frT (c :: s1)]) ++ (allL n (lenR (c :: s1)).2.1).1 := by rw [e1, List.append_assoc]; rfl
      have hal : acc.length ≤ s.length := by have := congrArg List.length e1; simp at this; omega
      generalize (lenR (c :: s1)).2.1 = s2 at hW e1' e2 hsl
      generalize frT (c :: s1) = g at hW e1'
      have hfl := flF_snoc acc g
      have hmp : (acc ++ [g]).map Fr.avF = acc.map Fr.avF ++ [g.avF] := by simp
      obtain ⟨gk, ⟨tk, tn, tv, tl⟩, ga, gb, gn⟩ := g
      unfold Fr.avF frF at hW
      simp only at hW
      have p1 : (acc.length + 1) * 88 ≤ 140737488355328 := by omega
      have p2 : acc.length ≤ 9223372036854775806 := by omega
      have hkk : s2.length ≤ n := by simp at hk hsl; omega
      cases acc with
      | nil =>
        unfold flF at f4
        simp only [List.map_nil] at f4
        have p3 : 1 * 88 ≤ 140737488355328 := by omega
        simp only [go_sem, Nat.reduceEqDiff, Nat.reduceAdd, Nat.reduceLeDiff, Nat.reduceLT, ↓reduceIte, reduceCtorEq, Int.reduceLT, Int.reduceToNat, Int.reduceEq, Int.reduceBEq, Int.reduceBNe, Nat.reduceBEq, f0, f4, hne]
        refine pcall hW (by simp only [go_sem, Nat.reduceEqDiff, Nat.reduceAdd, Nat.reduceLeDiff, Nat.reduceLT, ↓reduceIte, reduceCtorEq, Int.reduceLT, Int.reduceToNat, Int.reduceEq, Int.reduceBEq, Int.reduceBNe, Nat.reduceBEq]) ?_
        simp only [go_sem, Nat.reduceEqDiff, Nat.reduceAdd, Nat.reduceLeDiff, Nat.reduceLT, ↓reduceIte, reduceCtorEq, Int.reduceLT, Int.reduceToNat, Int.reduceEq, Int.reduceBEq, Int.reduceBNe, Nat.reduceBEq, f0, f4, p3, Int.le_refl]
        exact ⟨n, by omega, [⟨gk, .mk tk tn tv tl, ga, gb, gn⟩], s2, hkk, by omega, rfl, rfl, e1', e2, by omega, by simp [shrink_upd, hsg, hsn]⟩
      | cons x acc =>
        unfold flF at f4
        simp only at f4
        have hlen2 : ((x :: acc).map Fr.avF).length = (x :: acc).length := by simp
        simp only [go_sem, Nat.reduceEqDiff, Nat.reduceAdd, Nat.reduceLeDiff, Nat.reduceLT, ↓reduceIte, reduceCtorEq, Int.reduceLT, Int.reduceToNat, Int.reduceEq, Int.reduceBEq, Int.reduceBNe, Nat.reduceBEq, f0, f4, hne]
        refine pcall hW (by simp only [go_sem, Nat.reduceEqDiff, Nat.reduceAdd, Nat.reduceLeDiff, Nat.reduceLT, ↓reduceIte, reduceCtorEq, Int.reduceLT, Int.reduceToNat, Int.reduceEq, Int.reduceBEq, Int.reduceBNe, Nat.reduceBEq]) ?_
        have p1' : (acc.length + 2) * 88 ≤ 140737488355328 := by simp at p1; omega
        have p2' : acc.length ≤ 9223372036854775805 := by simp at p2; omega
        simp only [go_sem, Nat.reduceEqDiff, Nat.reduceAdd, Nat.reduceLeDiff, Nat.reduceLT, ↓reduceIte, reduceCtorEq, Int.reduceLT, Int.reduceToNat, Int.reduceEq, Int.reduceBEq, Int.reduceBNe, Nat.reduceBEq, f0, f4, p1, p2, p1', p2']
        exact ⟨n, by omega, x :: acc ++ [⟨gk, .mk tk tn tv tl, ga, gb, gn⟩], s2, hkk, by omega, rfl, by rw [hfl, hmp]; rfl, e1', e2, by omega, by simp [shrink_upd, hsg, hsn]⟩
set_option maxHeartbeats 1600000 in
theorem fn_rAll (s : List UInt8) (hs : s.length ≤ 1000000) : PFn Try.prog 58 [.str s] (.tup [.sl (flG (allL s.length s).1) 8 ((allL s.length s).1.map Fr.avF), .bool (allL s.length s).2]) := by
  intro h
  refine fnC mixed Try.func58 c58 (by simp) ?_
  have hlen := allL_len s.length s
  generalize hR : allL s.length s = R at *
  simp only [go_sem, Nat.reduceEqDiff, Nat.reduceAdd, Nat.reduceLeDiff, Nat.reduceLT, ↓reduceIte, reduceCtorEq, Int.reduceLT, Int.reduceToNat, Int.reduceEq, Int.reduceBEq, Int.reduceBNe, Nat.reduceBEq]
  refine cloop (fun k t => ∃ (acc : List Fr) (s' : List UInt8), s'.length ≤ k ∧ k ≤ s.length ∧ t.fr 0 = .str s' ∧ t.fr 4 = .sl (flF acc) 8 (acc.map Fr.avF) ∧ R.1 = acc ++ (allL k s').1 ∧ R.2 = (allL k s').2 ∧ h.n ≤ t.hp.n ∧ Shrink h t.hp h) s.length ⟨[], s, by simp, by simp, by simp [fr_apply, argsF], by simp [fr_apply, flF], by simp [hR], by simp [hR], by simp, shrink_refl h⟩ ?_
  rintro k ⟨f, hp⟩ ⟨acc, s', hk, hks, f0, f4, e1, e2, hn, hsh⟩
  simp only at f0 f4 hn hsh
  cases s' with
  | nil =>
    have e1' : R.1 = acc := by rw [e1, allL_nil]; simp
    have e2' : R.2 = true := by rw [e2, allL_nil]
    rw [e1', e2']
    cases acc with
    | nil =>
      unfold flF at f4
      unfold flG
      simp only [List.map_nil] at f4 ⊢
      simp only [go_sem, Nat.reduceEqDiff, Nat.reduceAdd, Nat.reduceLeDiff, Nat.reduceLT, ↓reduceIte, reduceCtorEq, Int.reduceLT, Int.reduceToNat, Int.reduceEq, Int.reduceBEq, Int.reduceBNe, Nat.reduceBEq, f0, f4, gt_iff_lt, Int.lt_irrefl, decide_false]
      exact hsh
    | cons x acc =>
      unfold flF at f4
      unfold flG
      simp only at f4 ⊢
      have lb := lab_avF h.n (x :: acc)
      generalize (x :: acc).map Fr.avF = ys at *
      simp only [go_sem, Nat.reduceEqDiff, Nat.reduceAdd, Nat.reduceLeDiff, Nat.reduceLT, ↓reduceIte, reduceCtorEq, Int.reduceLT, Int.reduceToNat, Int.reduceEq, Int.reduceBEq, Int.reduceBNe, Nat.reduceBEq, f0, f4, gt_iff_lt, Int.lt_irrefl, decide_false]
      exact ⟨lb, hsh⟩
  | cons c s1 =>
    obtain ⟨n, rfl⟩ : ∃ n, k = n + 1 := ⟨k - 1, by simp at hk; omega⟩
    have hW := fn_rTakeF (c :: s1)
    have hne : decide ((((c :: s1).length : Nat) : Int) > 0) = true := decide_eq_true (by simp)
    have hne' : decide ((s1.length : Int) + 1 > 0) = true := decide_eq_true (by omega)
    have hne2 : decide (((s1.length + 1 : Nat) : Int) > 0) = true := decide_eq_true (by omega)
    have hsn : h.n ≤ hp.n := hn
    have hsg := shrink_grow (n := hp.n + 1) hsh (by omega)
    rw [allL, if_neg (by simp)] at e1 e2
    cases hm : okTk (c :: s1) with
    | false =>
      rw [hm] at hW e1 e2
      simp only [Bool.false_eq_true, if_false, List.append_nil] at hW e1 e2
      rw [e1, e2]
      unfold fr0 at hW
      cases acc with
      | nil =>
        unfold flF at f4
        unfold flG
        simp only [List.map_nil] at f4 ⊢
        simp only [go_sem, Nat.reduceEqDiff, Nat.reduceAdd, Nat.reduceLeDiff, Nat.reduceLT, ↓reduceIte, reduceCtorEq, Int.reduceLT, Int.reduceToNat, Int.reduceEq, Int.reduceBEq, Int.reduceBNe, Nat.reduceBEq, f0, f4, hne, hne2]
        refine pcall hW (by simp only [go_sem, Nat.reduceEqDiff, Nat.reduceAdd, Nat.reduceLeDiff, Nat.reduceLT, ↓reduceIte, reduceCtorEq, Int.reduceLT, Int.reduceToNat, Int.reduceEq, Int.reduceBEq, Int.reduceBNe, Nat.reduceBEq]) ?_
        simp only [go_sem, Nat.reduceEqDiff, Nat.reduceAdd, Nat.reduceLeDiff, Nat.reduceLT, ↓reduceIte, reduceCtorEq, Int.reduceLT, Int.reduceToNat, Int.reduceEq, Int.reduceBEq, Int.reduceBNe, Nat.reduceBEq, f0, f4]
        simp [shrink_upd, hsg, hsn]
      | cons x acc =>
        unfold flF at f4
        unfold flG
        simp only at f4 ⊢
        have lb := lab_avF h.n (x :: acc)
        generalize (x :: acc).map Fr.avF = ys at *
        simp only [go_sem, Nat.reduceEqDiff, Nat.reduceAdd, Nat.reduceLeDiff, Nat.reduceLT, ↓reduceIte, reduceCtorEq, Int.reduceLT, Int.reduceToNat, Int.reduceEq, Int.reduceBEq, Int.reduceBNe, Nat.reduceBEq, f0, f4, hne, hne2]
        refine pcall hW (by simp only [go_sem, Nat.reduceEqDiff, Nat.reduceAdd, Nat.reduceLeDiff, Nat.reduceLT, ↓reduceIte, reduceCtorEq, Int.reduceLT, Int.reduceToNat, Int.reduceEq, Int.reduceBEq, Int.reduceBNe, Nat.reduceBEq]) ?_
        simp only [go_sem, Nat.reduceEqDiff, Nat.reduceAdd, Nat.reduceLeDiff, Nat.reduceLT, ↓reduceIte, reduceCtorEq, Int.reduceLT, Int.reduceToNat, Int.reduceEq, Int.reduceBEq, Int.reduceBNe, Nat.reduceBEq, f0, f4]
        simp [shrink_upd, hsg, hsn, lb]
    | true =>
      have hsl := okTk_short hm
      rw [hm, frTk_eq] at hW
      rw [hm] at e1 e2
      simp only [if_true] at hW e1 e2
      have e1' : R.1 = (acc ++ [frT (c :: s1)]) ++ (allL n (lenR (c :: s1)).2.1).1 := by rw [e1, List.append_assoc]; rfl
      have hal : acc.length ≤ s.length := by have := congrArg List.length e1; simp at this; omega
      generalize (lenR (c :: s1)).2.1 = s2 at hW e1' e2 hsl
      generalize frT (c :: s1) = g at hW e1'
      have hfl := flF_snoc acc g
      have hmp : (acc ++ [g]).map Fr.avF = acc.map Fr.avF ++ [g.avF] := by simp
      obtain ⟨gk, ⟨tk, tn, tv, tl⟩, ga, gb, gn⟩ := g
      unfold Fr.avF frF at hW
      simp only at hW
      have p1 : (acc.length + 1) * 88 ≤ 140737488355328 := by omega
      have p2 : acc.length ≤ 9223372036854775806 := by omega
      have hkk : s2.length ≤ n := by simp at hk hsl; omega
      cases acc with
      | nil =>
        unfold flF at f4
        simp only [List.map_nil] at f4
        have p3 : 1 * 88 ≤ 140737488355328 := by omega
        simp only [go_sem, Nat.reduceEqDiff, Nat.reduceAdd, Nat.reduceLeDiff, Nat.reduceLT, ↓reduceIte, reduceCtorEq, Int.reduceLT, Int.reduceToNat, Int.reduceEq, Int.reduceBEq, Int.reduceBNe, Nat.reduceBEq, f0, f4, hne, hne2]
        refine pcall hW (by simp only [go_sem, Nat.reduceEqDiff, Nat.reduceAdd, Nat.reduceLeDiff, Nat.reduceLT, ↓reduceIte, reduceCtorEq, Int.reduceLT, Int.reduceToNat, Int.reduceEq, Int.reduceBEq, Int.reduceBNe, Nat.reduceBEq]) ?_
        simp only [go_sem, Nat.reduceEqDiff, Nat.reduceAdd, Nat.reduceLeDiff, Nat.reduceLT, ↓reduceIte, reduceCtorEq, Int.reduceLT, Int.reduceToNat, Int.reduceEq, Int.reduceBEq, Int.reduceBNe, Nat.reduceBEq, f0, f4, p3, Int.le_refl]
        exact ⟨n, by omega, [⟨gk, .mk tk tn tv tl, ga, gb, gn⟩], s2, hkk, by omega, rfl, rfl, e1', e2, by omega, by simp [shrink_upd, hsg, hsn]⟩
      | cons x acc =>
        unfold flF at f4
        simp only at f4
        have hlen2 : ((x :: acc).map Fr.avF).length = (x :: acc).length := by simp
        simp only [go_sem, Nat.reduceEqDiff, Nat.reduceAdd, Nat.reduceLeDiff, Nat.reduceLT, ↓reduceIte, reduceCtorEq, Int.reduceLT, Int.reduceToNat, Int.reduceEq, Int.reduceBEq, Int.reduceBNe, Nat.reduceBEq, f0, f4, hne, hne2]
        refine pcall hW (by simp only [go_sem, Nat.reduceEqDiff, Nat.reduceAdd, Nat.reduceLeDiff, Nat.reduceLT, ↓reduceIte, reduceCtorEq, Int.reduceLT, Int.reduceToNat, Int.reduceEq, Int.reduceBEq, Int.reduceBNe, Nat.reduceBEq]) ?_
        have p1' : (acc.length + 2) * 88 ≤ 140737488355328 := by simp at p1; omega
        have p2' : acc.length ≤ 9223372036854775805 := by simp at p2; omega
        simp only [go_sem, Nat.reduceEqDiff, Nat.reduceAdd, Nat.reduceLeDiff, Nat.reduceLT, ↓reduceIte, reduceCtorEq, Int.reduceLT, Int.reduceToNat, Int.reduceEq, Int.reduceBEq, Int.reduceBNe, Nat.reduceBEq, f0, f4, p1, p2, p1', p2']
        exact ⟨n, by omega, x :: acc ++ [⟨gk, .mk tk tn tv tl, ga, gb, gn⟩], s2, hkk, by omega, rfl, by rw [hfl, hmp]; rfl, e1', e2, by omega, by simp [shrink_upd, hsg, hsn]⟩
theorem fk_avFl (l : List Fr) : fkL (l.map Fr.avF) = l.map fun f => frA f.k f.t f.a f.b f.n := by
  rw [fkL_map, List.map_map]; exact List.map_congr_left fun f _ => fk_frF _ _ _ _ _
theorem fn_EqFrameFF (k : Int) (t : T) (a b n : Int) (ht : t.ok) : PFn Try.prog 52 [frF k t a b n, frF k t a b n] (.bool true) := by
  have h := fn_EqFrame k t a b n k t a b n ht
  rw [eqT_refl] at h
  simp only [beq_self_eq_true, Bool.and_self] at h
  refine pfn_fk ?_
  simp only [List.map_cons, List.map_nil, fk_frF]
  exact h
theorem fn_EqFrames0 (l : List Fr) (hl : l.length < 1000000000000000) (ho : ∀ f ∈ l, f.t.ok) : PFn Try.prog 59 [.sl .sh 8 (l.map fun f => frA f.k f.t f.a f.b f.n), .sl .sh 8 (l.map fun f => frA f.k f.t f.a f.b f.n)] (.bool true) := by
  intro h
  refine fnC mixed Try.func59 c59 (by simp) ?_
  have hne : ((l.length : Int) != (l.length : Int)) = false := by simp
  simp only [go_sem, Nat.reduceEqDiff, Nat.reduceAdd, Nat.reduceLeDiff, Nat.reduceLT, ↓reduceIte, reduceCtorEq, Int.reduceLT, Int.reduceToNat, Int.reduceEq, Int.reduceBEq, Int.reduceBNe, Nat.reduceBEq, hne]
  refine cloop (fun k t => ∃ i : Nat, i + k = l.length ∧ t.fr 0 = .sl .sh 8 (l.map fun f => frA f.k f.t f.a f.b f.n) ∧ t.fr 1 = .sl .sh 8 (l.map fun f => frA f.k f.t f.a f.b f.n) ∧ t.fr 5 = .int .i64 (i : Nat) ∧ t.hp = h) l.length ⟨0, by simp, by simp [fr_apply, argsF, strip], by simp [fr_apply, argsF, strip], by simp [fr_apply], rfl⟩ ?_
  rintro k ⟨f, hp⟩ ⟨i, hk, f0, f1, f5, rfl⟩
  simp only at f0 f1 f5
  by_cases hi : i < l.length
  · have hi' : decide ((i : Int) < (l.length : Int)) = true := decide_eq_true (by omega)
    have hw : IntKind.i64.wrap ((i : Int) + 1) = ((i + 1 : Nat) : Int) := by rw [wrap64] <;> omega
    have hx : (l.map fun f => frA f.k f.t f.a f.b f.n)[i]? = some (frA l[i].k l[i].t l[i].a l[i].b l[i].n) := by simp [hi]
    have hto := ho _ (List.getElem_mem hi)
    generalize l[i] = g at hx hto
    have hE := fn_EqFrame g.k g.t g.a g.b g.n g.k g.t g.a g.b g.n hto
    rw [eqT_refl] at hE
    simp only [beq_self_eq_true, Bool.and_self] at hE
    obtain ⟨gk, ⟨tk, tn, tv, tl⟩, ga, gb, gn⟩ := g
    unfold frA at hE
    simp only at hE
    have hx' : (l.map fun f => frA f.k f.t f.a f.b f.n)[i]? = some (.agg [.int .i64 gk, .int .i64 tk, .str tn, .int .i64 tv, .sl .sh 4 (tl.map T.av), .int .i64 ga, .int .i64 gb, .int .i64 gn]) := hx
    clear hx
    simp only [go_sem, Nat.reduceEqDiff, Nat.reduceAdd, Nat.reduceLeDiff, Nat.reduceLT, ↓reduceIte, reduceCtorEq, Int.reduceLT, Int.reduceToNat, Int.reduceEq, Int.reduceBEq, Int.reduceBNe, Nat.reduceBEq, f0, f1, f5, hi', hx']
    refine pcallD hE (by simp only [go_sem, Nat.reduceEqDiff, Nat.reduceAdd, Nat.reduceLeDiff, Nat.reduceLT, ↓reduceIte, reduceCtorEq, Int.reduceLT, Int.reduceToNat, Int.reduceEq, Int.reduceBEq, Int.reduceBNe, Nat.reduceBEq]) ?_
    simp only [go_sem, Nat.reduceEqDiff, Nat.reduceAdd, Nat.reduceLeDiff, Nat.reduceLT, ↓reduceIte, reduceCtorEq, Int.reduceLT, Int.reduceToNat, Int.reduceEq, Int.reduceBEq, Int.reduceBNe, Nat.reduceBEq, f0, f1, f5, hw]
    exact ⟨k - 1, by omega, i + 1, by omega, rfl⟩
  · have hi' : decide ((i : Int) < (l.length : Int)) = false := decide_eq_false (by omega)
    simp only [go_sem, Nat.reduceEqDiff, Nat.reduceAdd, Nat.reduceLeDiff, Nat.reduceLT, ↓reduceIte, reduceCtorEq, Int.reduceLT, Int.reduceToNat, Int.reduceEq, Int.reduceBEq, Int.reduceBNe, Nat.reduceBEq, f0, f1, f5, hi']
theorem fn_EqFrames (l : List Fr) (hl : l.length < 1000000000000000) (ho : ∀ f ∈ l, f.t.ok) (fl fl' : Fl) : PFn Try.prog 59 [.sl fl 8 (l.map Fr.avF), .sl fl' 8 (l.map Fr.avF)] (.bool true) := by
  refine pfn_fk ?_
  simp only [List.map_cons, List.map_nil, fk, fk_avFl]
  exact fn_EqFrames0 l hl ho
theorem fn_CopyTerms (l : List T) (hl : l.length * 56 ≤ 140737488351232) (ih : ∀ x ∈ l, PFn Try.prog 17 [x.av] x.avf) : PFn Try.prog 65 [.sl .sh 4 (l.map T.av)] (.sl (flT l) 4 (l.map T.avf)) := by
  intro h
  refine fnC mixed Try.func65 c65 (by simp) ?_
  simp only [go_sem, Nat.reduceEqDiff, Nat.reduceAdd, Nat.reduceLeDiff, Nat.reduceLT, ↓reduceIte, reduceCtorEq, Int.reduceLT, Int.reduceToNat, Int.reduceEq, Int.reduceBEq, Int.reduceBNe, Nat.reduceBEq]
  refine cloop (fun k t => ∃ i : Nat, i + k = l.length ∧ t.fr 0 = .sl .sh 4 (l.map T.av) ∧ t.fr 3 = .sl (flT (l.take i)) 4 ((l.take i).map T.avf) ∧ t.fr 4 = .int .i64 (i : Nat) ∧ t.hp = h) l.length ⟨0, by simp, by simp [fr_apply, argsF, strip], by simp [fr_apply, flT], by simp [fr_apply], rfl⟩ ?_
  rintro k ⟨f, hp⟩ ⟨i, hk, f0, f3, f4, rfl⟩
  simp only at f0 f3 f4
  by_cases hi : i < l.length
  · have hi' : decide ((i : Int) < (l.length : Int)) = true := decide_eq_true (by omega)
    have hw1 : IntKind.i64.wrap ((i : Int) + 1) = ((i + 1 : Nat) : Int) := by rw [wrap64] <;> omega
    have hx := getAv hi
    have hC := ih _ (List.getElem_mem hi)
    have ht : l.take (i + 1) = l.take i ++ [l[i]] := by rw [List.take_add_one, List.getElem?_eq_getElem hi]; rfl
    have hlen : (l.take i).length = i := by rw [List.length_take]; omega
    have hfl : ∀ (a : List T) x, flT (a ++ [x]) = .own := fun a x => by cases a <;> rfl
    have hdone : (AV.sl (flT (l.take (i + 1))) 4 ((l.take (i + 1)).map T.avf)) = .sl .own 4 ((l.take i).map T.avf ++ [l[i].avf]) := by rw [ht, hfl, List.map_append]; rfl
    generalize l[i] = x at hx hC hdone
    have a1 : (i + 1) * 56 ≤ 140737488355328 := by omega
    have a2 : i ≤ 9223372036854775806 := by omega
    cases hc : l.take i with
    | nil =>
      rw [hc] at f3 hdone
      simp only [flT, List.map_nil, List.nil_append] at f3 hdone
      have a3 : 1 * 56 ≤ 140737488355328 := by omega
      simp only [go_sem, Nat.reduceEqDiff, Nat.reduceAdd, Nat.reduceLeDiff, Nat.reduceLT, ↓reduceIte, reduceCtorEq, Int.reduceLT, Int.reduceToNat, Int.reduceEq, Int.reduceBEq, Int.reduceBNe, Nat.reduceBEq, f0, f3, f4, hi', hx]
      refine pcall hC (by simp only [go_sem, Nat.reduceEqDiff, Nat.reduceAdd, Nat.reduceLeDiff, Nat.reduceLT, ↓reduceIte, reduceCtorEq, Int.reduceLT, Int.reduceToNat, Int.reduceEq, Int.reduceBEq, Int.reduceBNe, Nat.reduceBEq]) ?_
      simp only [go_sem, Nat.reduceEqDiff, Nat.reduceAdd, Nat.reduceLeDiff, Nat.reduceLT, ↓reduceIte, reduceCtorEq, Int.reduceLT, Int.reduceToNat, Int.reduceEq, Int.reduceBEq, Int.reduceBNe, Nat.reduceBEq, f0, f3, f4, hw1, a3, Int.le_refl]
      exact ⟨k - 1, by omega, i + 1, by omega, hdone.symm, rfl⟩
    | cons y ys =>
      rw [hc] at f3 hdone hlen
      simp only [flT] at f3
      have a4 : (ys.length + 2) * 56 ≤ 140737488355328 := by simp at hlen; omega
      have a5 : ys.length ≤ 9223372036854775805 := by simp at hlen; omega
      simp only [go_sem, Nat.reduceEqDiff, Nat.reduceAdd, Nat.reduceLeDiff, Nat.reduceLT, ↓reduceIte, reduceCtorEq, Int.reduceLT, Int.reduceToNat, Int.reduceEq, Int.reduceBEq, Int.reduceBNe, Nat.reduceBEq, f0, f3, f4, hi', hx]
      refine pcall hC (by simp only [go_sem, Nat.reduceEqDiff, Nat.reduceAdd, Nat.reduceLeDiff, Nat.reduceLT, ↓reduceIte, reduceCtorEq, Int.reduceLT, Int.reduceToNat, Int.reduceEq, Int.reduceBEq, Int.reduceBNe, Nat.reduceBEq]) ?_
      simp only [go_sem, Nat.reduceEqDiff, Nat.reduceAdd, Nat.reduceLeDiff, Nat.reduceLT, ↓reduceIte, reduceCtorEq, Int.reduceLT, Int.reduceToNat, Int.reduceEq, Int.reduceBEq, Int.reduceBNe, Nat.reduceBEq, f0, f3, f4, hw1, a1, a2, a4, a5]
      exact ⟨k - 1, by omega, i + 1, by omega, hdone.symm, rfl⟩
  · have hi' : decide ((i : Int) < (l.length : Int)) = false := decide_eq_false (by omega)
    have ht : l.take i = l := List.take_of_length_le (by omega)
    rw [ht] at f3
    have lb := labL_avfs hp.n l
    cases l with
    | nil =>
      have hi0 : decide ((i : Int) < 0) = false := decide_eq_false (by omega)
      simp only [flT, List.map_nil] at f3 ⊢
      simp only [go_sem, Nat.reduceEqDiff, Nat.reduceAdd, Nat.reduceLeDiff, Nat.reduceLT, ↓reduceIte, reduceCtorEq, Int.reduceLT, Int.reduceToNat, Int.reduceEq, Int.reduceBEq, Int.reduceBNe, Nat.reduceBEq, f0, f3, f4, hi', hi0]
    | cons x l =>
      have hi0 : decide ((i : Int) < ((l.length + 1 : Nat) : Int)) = false := decide_eq_false (by simp at hi; omega)
      simp only [flT] at f3 ⊢
      generalize (x :: l).map T.avf = ys at *
      simp only [go_sem, Nat.reduceEqDiff, Nat.reduceAdd, Nat.reduceLeDiff, Nat.reduceLT, ↓reduceIte, reduceCtorEq, Int.reduceLT, Int.reduceToNat, Int.reduceEq, Int.reduceBEq, Int.reduceBNe, Nat.reduceBEq, f0, f3, f4, hi', hi0]
      exact lb
mutual
/-- Rows of arguments are no longer than memory. -/
def T.fit : T → Prop | .mk k n v l => l.length * 56 ≤ 140737488351232 ∧ fits l
def fits : List T → Prop | [] => True | t :: l => t.fit ∧ fits l
end
theorem fits_all : ∀ l, fits l ↔ ∀ t ∈ l, t.fit
  | [] => by simp [fits]
  | t :: l => by simp [fits, fits_all l]
theorem fit_mk (k : Int) (n : List UInt8) (v : Int) (l : List T) : (T.mk k n v l).fit ↔ l.length * 56 ≤ 140737488351232 ∧ ∀ t ∈ l, t.fit := by rw [T.fit, fits_all]
theorem fn_CopyTerm : ∀ t : T, t.fit → PFn Try.prog 17 [t.av] t.avf := by
  refine T.ind ?_
  intro k n v l ih hf h
  rw [fit_mk] at hf
  have hC := fn_CopyTerms l hf.1 (fun x hx => ih x hx (hf.2 x hx))
  rw [av_mk, avf_mk]
  have n1 : ¬ (h.n = h.n + 1) := by omega
  have n2 : ¬ (h.n + 1 = h.n) := by omega
  have n3 : ¬ (h.n = h.n + 2) := by omega
  have n4 : ¬ (h.n + 2 = h.n) := by omega
  have n5 : ¬ (h.n + 1 = h.n + 2) := by omega
  have n6 : ¬ (h.n + 2 = h.n + 1) := by omega
  have lb := labL_avfs h.n l
  refine fnC mixed Try.func17 c17 (by simp) ?_
  cases l with
  | nil =>
    simp only [flT, List.map_nil, flS] at hC ⊢
    simp only [go_sem, Nat.reduceEqDiff, Nat.reduceAdd, Nat.reduceLeDiff, Nat.reduceLT, ↓reduceIte, reduceCtorEq, Int.reduceLT, Int.reduceToNat, Int.reduceEq, Int.reduceBEq, Int.reduceBNe, Nat.reduceBEq, n1, n2, n3, n4, n5, n6]
    refine pcall hC (by simp only [go_sem, Nat.reduceEqDiff, Nat.reduceAdd, Nat.reduceLeDiff, Nat.reduceLT, ↓reduceIte, reduceCtorEq, Int.reduceLT, Int.reduceToNat, Int.reduceEq, Int.reduceBEq, Int.reduceBNe, Nat.reduceBEq]) ?_
    simp only [go_sem, Nat.reduceEqDiff, Nat.reduceAdd, Nat.reduceLeDiff, Nat.reduceLT, ↓reduceIte, reduceCtorEq, Int.reduceLT, Int.reduceToNat, Int.reduceEq, Int.reduceBEq, Int.reduceBNe, Nat.reduceBEq, n1, n2, n3, n4, n5, n6]
  | cons x l =>
    simp only [flT, flS] at hC ⊢
    generalize (x :: l).map T.avf = ys at *
    generalize (x :: l).map T.av = zs at *
    simp only [go_sem, Nat.reduceEqDiff, Nat.reduceAdd, Nat.reduceLeDiff, Nat.reduceLT, ↓reduceIte, reduceCtorEq, Int.reduceLT, Int.reduceToNat, Int.reduceEq, Int.reduceBEq, Int.reduceBNe, Nat.reduceBEq, n1, n2, n3, n4, n5, n6]
    refine pcall hC (by simp only [go_sem, Nat.reduceEqDiff, Nat.reduceAdd, Nat.reduceLeDiff, Nat.reduceLT, ↓reduceIte, reduceCtorEq, Int.reduceLT, Int.reduceToNat, Int.reduceEq, Int.reduceBEq, Int.reduceBNe, Nat.reduceBEq]) ?_
    simp only [go_sem, Nat.reduceEqDiff, Nat.reduceAdd, Nat.reduceLeDiff, Nat.reduceLT, ↓reduceIte, reduceCtorEq, Int.reduceLT, Int.reduceToNat, Int.reduceEq, Int.reduceBEq, Int.reduceBNe, Nat.reduceBEq, n1, n2, n3, n4, n5, n6]
    exact lb
theorem fn_CopyFact (t : T) (a b : Int) (ht : t.fit) : PFn Try.prog 99 [facA t a b] (facF t a b) := by
  intro h
  have hC := fn_CopyTerm t ht
  obtain ⟨tk, tn, tv, tl⟩ := t
  rw [av_mk, avf_mk] at hC
  unfold facA facF
  simp only
  have n1 : ¬ (h.n = h.n + 1) := by omega
  have n2 : ¬ (h.n + 1 = h.n) := by omega
  have n3 : ¬ (h.n = h.n + 2) := by omega
  have n4 : ¬ (h.n + 2 = h.n) := by omega
  have n5 : ¬ (h.n + 1 = h.n + 2) := by omega
  have n6 : ¬ (h.n + 2 = h.n + 1) := by omega
  have lb := labL_avfs h.n tl
  refine fnC mixed Try.func99 c99 (by simp) ?_
  simp only [go_sem, Nat.reduceEqDiff, Nat.reduceAdd, Nat.reduceLeDiff, Nat.reduceLT, ↓reduceIte, reduceCtorEq, Int.reduceLT, Int.reduceToNat, Int.reduceEq, Int.reduceBEq, Int.reduceBNe, Nat.reduceBEq, n1, n2, n3, n4, n5, n6]
  refine pcall hC (by simp only [go_sem, Nat.reduceEqDiff, Nat.reduceAdd, Nat.reduceLeDiff, Nat.reduceLT, ↓reduceIte, reduceCtorEq, Int.reduceLT, Int.reduceToNat, Int.reduceEq, Int.reduceBEq, Int.reduceBNe, Nat.reduceBEq]) ?_
  simp only [go_sem, Nat.reduceEqDiff, Nat.reduceAdd, Nat.reduceLeDiff, Nat.reduceLT, ↓reduceIte, reduceCtorEq, Int.reduceLT, Int.reduceToNat, Int.reduceEq, Int.reduceBEq, Int.reduceBNe, Nat.reduceBEq, n1, n2, n3, n4, n5, n6]
  exact lb
theorem fn_CopyFrame (k : Int) (t : T) (a b n : Int) (ht : t.fit) : PFn Try.prog 55 [frA k t a b n] (frF k t a b n) := by
  intro h
  have hC := fn_CopyFact t a b ht
  obtain ⟨tk, tn, tv, tl⟩ := t
  unfold facA facF at hC
  unfold frA frF
  simp only at hC ⊢
  have n1 : ¬ (h.n = h.n + 1) := by omega
  have n2 : ¬ (h.n + 1 = h.n) := by omega
  have n3 : ¬ (h.n = h.n + 2) := by omega
  have n4 : ¬ (h.n + 2 = h.n) := by omega
  have n5 : ¬ (h.n + 1 = h.n + 2) := by omega
  have n6 : ¬ (h.n + 2 = h.n + 1) := by omega
  have lb := labL_avfs h.n tl
  refine fnC mixed Try.func55 c55 (by simp) ?_
  simp only [go_sem, Nat.reduceEqDiff, Nat.reduceAdd, Nat.reduceLeDiff, Nat.reduceLT, ↓reduceIte, reduceCtorEq, Int.reduceLT, Int.reduceToNat, Int.reduceEq, Int.reduceBEq, Int.reduceBNe, Nat.reduceBEq, n1, n2, n3, n4, n5, n6]
  refine pcall hC (by simp only [go_sem, Nat.reduceEqDiff, Nat.reduceAdd, Nat.reduceLeDiff, Nat.reduceLT, ↓reduceIte, reduceCtorEq, Int.reduceLT, Int.reduceToNat, Int.reduceEq, Int.reduceBEq, Int.reduceBNe, Nat.reduceBEq]) ?_
  simp only [go_sem, Nat.reduceEqDiff, Nat.reduceAdd, Nat.reduceLeDiff, Nat.reduceLT, ↓reduceIte, reduceCtorEq, Int.reduceLT, Int.reduceToNat, Int.reduceEq, Int.reduceBEq, Int.reduceBNe, Nat.reduceBEq, n1, n2, n3, n4, n5, n6]
  exact lb
theorem fn_wFrameF (k : Int) (t : T) (a b n : Int) (ht : t.ok) : PFn Try.prog 49 [frF k t a b n] (.tup (if okFr k t a b n = true then [.str (frS k t a b n), .int .i64 0] else [.str [], .int .i64 1])) := by
  have h := fn_wFrame k t a b n ht
  refine pfn_fk ?_
  simp only [List.map_cons, List.map_nil, fk_frF]
  exact h
theorem fn_EqFrameFA (k : Int) (t : T) (a b n : Int) (ht : t.ok) : PFn Try.prog 52 [frF k t a b n, frA k t a b n] (.bool true) := by
  have h := fn_EqFrame k t a b n k t a b n ht
  rw [eqT_refl] at h
  simp only [beq_self_eq_true, Bool.and_self] at h
  refine pfn_fk ?_
  simp only [List.map_cons, List.map_nil, fk_frF, fk_frA]
  exact h
end Go.Proofs.Ythaoooohomfkcaa.Ab

namespace Go.Proofs.Ythaoooohomfkcaa.Ab
set_option linter.unusedVariables false
set_option linter.unusedSimpArgs false
set_option maxRecDepth 10000
attribute [local go_sem] Nat.zero_le Bool.not_true Bool.not_false Bool.false_eq_true if_false if_true forall_const true_and and_true List.map Option.map Bool.and_self Bool.and_true Bool.true_and Bool.false_and Bool.and_false List.getElem?_cons_zero List.getElem?_nil List.getElem?_cons_succ Int.natCast_nonneg Int.toNat_natCast List.length_map List.length_cons List.length_nil Nat.zero_add Nat.le_refl List.drop_zero List.drop_succ_cons List.take_succ_cons List.take_zero List.take_nil ne_eq not_true_eq_false not_false_eq_true upd_same Nat.add_assoc Nat.left_eq_add Nat.add_eq_left Nat.add_left_cancel_iff Nat.succ_ne_self Nat.one_ne_zero Nat.add_zero Nat.le_add_right ite_self List.set_cons_zero List.set_cons_succ List.all_cons List.all_nil bne_self_eq_false List.isEmpty_cons Int.cast_ofNat_Int Nat.mul_one List.nil_append or_self or_true true_or List.cons_append List.append_nil Option.none_beq_some Option.some_beq_some beq_self_eq_true
theorem c10 : compF Try.prog ow Try.f10 = (some (182, ([(.t 2)], (.seq (.ops [(none, (.box 1 (.t 0))), (none, (.set 2 (.bool false)))]) (.seq (.seq (.ops [(none, (.ld (some 22) (.t 1) (.agg 4))), (none, (.call (some 23) (.k (.func 36 [] [])) [(.t 22)] none))]) (.cond (.t 23) (.seq (.ops [(none, (.set 2 (.bool true)))]) .ret) .skip)) (.seq (.ops [(none, (.fa (some 24) (.t 1) 0)), (none, (.fa (some 25) (.t 24) 1)), (none, (.ld (some 26) (.t 25) (.one (some 1)))), (none, (.call (some 27) (.k (.func 54 [] [])) [(.t 26)] none)), (none, (.mv 3 27))]) (.seq (.ops [(none, (.set 4 (.str [])))]) (.seq (.seq (.ops [(none, (.set 5 (.int .i64 0)))]) (.block 0 (.loop (.seq (.seq (.ops [(none, (.cp 28 5)), (none, (.fa (some 29) (.t 1) 3)), (none, (.ld (some 30) (.t 29) (.one (some 8)))), (none, (.len (some 31) (.t 30) false true)), (none, (.bin (some 32) .lss (.t 28) (.t 31) false false)), (none, (.cp 33 32)), ((some (33, true)), (.cp 34 5)), ((some (33, true)), (.bin (some 35) .lss (.t 34) (.k (.int .i64 6)) false false)), (none, (.pick (some 36) (.t 33) (.t 35) (.k (.bool false))))]) (.cond (.t 36) .skip (.exit 0))) (.seq (.block 1 (.seq (.ops [(none, (.fa (some 39) (.t 1) 3)), (none, (.ld (some 40) (.t 39) (.one (some 8)))), (none, (.cp 41 5)), (none, (.ia (some 42) (.t 40) (.t 41) (some 8) none)), (none, (.ld (some 43) (.t 42) (.agg 8))), (none, (.call (some 44) (.k (.func 55 [] [])) [(.t 43)] none)), (none, (.alloc 6 [(.int .i64 0), (.int .i64 0), (.str []), (.int .i64 0), (.sl .full 4 []), (.int .i64 0), (.int .i64 0), (.int .i64 0)])), (none, (.st (.t 6) (.t 44) 8))]) (.seq (.ops [(none, (.ld (some 46) (.t 6) (.agg 8))), (none, (.call (some 47) (.k (.func 49 [] [])) [(.t 46)] none)), (none, (.cp 45 47)), (none, (.ext (some 48) (.t 45) 0)), (none, (.ext (some 49) (.t 45) 1)), (none, (.mv 7 48)), (none, (.mv 8 49))]) (.seq (.ops [(none, (.set 9 (.int .i64 1))), (none, (.set 10 (.str [])))]) (.seq (.seq (.ops [(none, (.fa (some 50) (.t 1) 3)), (none, (.ld (some 51) (.t 50) (.one (some 8)))), (none, (.cp 52 5)), (none, (.ia (some 53) (.t 51) (.t 52) (some 8) none)), (none, (.ld (some 54) (.t 53) (.agg 8))), (none, (.call (some 55) (.k (.func 53 [] [])) [(.t 54)] none))]) (.cond (.t 55) (.seq (.ops [(none, (.fa (some 56) (.t 1) 3)), (none, (.ld (some 57) (.t 56) (.one (some 8)))), (none, (.cp 58 5)), (none, (.ia (some 59) (.t 57) (.t 58) (some 8) none)), (none, (.ld (some 60) (.t 59) (.agg 8))), (none, (.call (some 61) (.k (.func 51 [] [])) [(.t 60)] none)), (none, (.set 9 (.int .i64 0))), (none, (.mv 10 61))]) (.seq (.ops [(none, (.mv 62 3)), (none, (.cp 63 10)), (none, (.cp 64 5)), (none, (.call (some 65) (.k (.func 40 [] [])) [(.t 63), (.t 64)] none)), (none, (.app 66 (.t 62) (.t 65) 1 16 true true)), (none, (.mv 3 66))]) (.ops [(none, (.cp 67 4)), (none, (.cp 68 10)), (none, (.bin (some 69) .add (.t 67) (.t 68) false false)), (none, (.mv 4 69))]))) .skip)) (.seq (.opsD [(none, (.cp 70 8)), (none, (.call (some 71) (.k (.func 41 [] [])) [(.t 70)] none)), (none, (.cp 72 9)), (none, (.bin (some 73) .neq (.t 71) (.t 72) false false)), (none, (.cp 74 73)), ((some (74, false)), (.cp 75 7)), ((some (74, false)), (.cp 76 10)), ((some (74, false)), (.bin (some 77) .neq (.t 75) (.t 76) false false)), (none, (.pick (some 78) (.t 74) (.k (.bool true)) (.t 77))), (none, (.cp 79 78)), ((some (79, false)), (.ld (some 80) (.t 6) (.agg 8))), ((some (79, false)), (.fa (some 81) (.t 1) 3)), ((some (79, false)), (.ld (some 82) (.t 81) (.one (some 8)))), ((some (79, false)), (.cp 83 5)), ((some (79, false)), (.ia (some 84) (.t 82) (.t 83) (some 8) none)), ((some (79, false)), (.ld (some 85) (.t 84) (.agg 8))), ((some (79, false)), (.call (some 86) (.k (.func 52 [] [])) [(.t 80), (.t 85)] none)), ((some (79, false)), (.un (some 87) .not (.t 86))), (none, (.pick (some 88) (.t 79) (.k (.bool true)) (.t 87)))]) (.cond (.t 88) (.seq (.ops [(none, (.set 2 (.bool false)))]) .ret) .skip))))))) (.ops [(none, (.cp 37 5)), (none, (.bin (some 38) .add (.t 37) (.k (.int .i64 1)) false false)), (none, (.mv 5 38))])))))) (.seq (.ops [(none, (.mv 89 3)), (none, (.cp 90 4)), (none, (.fa (some 91) (.t 1) 2)), (none, (.ld (some 92) (.t 91) (.one (some 1)))), (none, (.len (some 93) (.t 92) false true)), (none, (.call (some 94) (.k (.func 40 [] [])) [(.t 90), (.t 93)] none)), (none, (.app 95 (.t 89) (.t 94) 1 16 true true)), (none, (.mv 3 95))]) (.seq (.seq (.ops [(none, (.set 11 (.int .i64 0)))]) (.block 2 (.loop (.seq (.seq (.ops [(none, (.cp 96 11)), (none, (.cp 97 3)), (none, (.len (some 98) (.t 97) false true)), (none, (.bin (some 99) .lss (.t 96) (.t 98) false false))]) (.cond (.t 99) .skip (.exit 2))) (.seq (.block 3 (.seq (.ops [(none, (.cp 103 3)), (none, (.cp 104 11)), (none, (.ia (some 105) (.t 103) (.t 104) (some 1) none)), (none, (.ld (some 106) (.t 105) (.one none))), (none, (.call (some 107) (.k (.func 50 [] [])) [(.t 106)] none)), (none, (.cp 102 107)), (none, (.ext (some 108) (.t 102) 0)), (none, (.ext (some 109) (.t 102) 1)), (none, (.ext (some 110) (.t 102) 2)), (none, (.alloc 12 [(.int .i64 0), (.int .i64 0), (.str []), (.int .i64 0), (.sl .full 4 []), (.int .i64 0), (.int .i64 0), (.int .i64 0)])), (none, (.st (.t 12) (.t 108) 8)), (none, (.mv 13 109)), (none, (.mv 14 110))]) (.seq (.ops [(none, (.cp 112 3)), (none, (.cp 113 11)), (none, (.ia (some 114) (.t 112) (.t 113) (some 1) none)), (none, (.ld (some 115) (.t 114) (.one none))), (none, (.call (some 116) (.k (.func 56 [] [])) [(.t 115)] none)), (none, (.cp 111 116)), (none, (.ext (some 117) (.t 111) 0)), (none, (.ext (some 118) (.t 111) 1)), (none, (.ext (some 119) (.t 111) 2)), (none, (.alloc 15 [(.int .i64 0), (.int .i64 0), (.str []), (.int .i64 0), (.sl .full 4 []), (.int .i64 0), (.int .i64 0), (.int .i64 0)])), (none, (.st (.t 15) (.t 117) 8)), (none, (.mv 16 118)), (none, (.mv 17 119))]) (.seq (.seq (.ops [(none, (.cp 120 17)), (none, (.cp 121 14)), (none, (.call (some 122) (.k (.func 41 [] [])) [(.t 121)] none)), (none, (.bin (some 123) .eql (.t 122) (.k (.int .i64 0)) false false)), (none, (.bin (some 124) .neq (.t 120) (.t 123) true false)), (none, (.cp 125 124)), ((some (125, false)), (.cp 126 17)), ((some (125, false)), (.un (some 127) .not (.t 126))), ((some (125, false)), (.cp 128 127)), ((some (128, true)), (.cp 129 14)), ((some (128, true)), (.call (some 130) (.k (.func 41 [] [])) [(.t 129)] none)), ((some (128, true)), (.bin (some 131) .neq (.t 130) (.k (.int .i64 4)) false false)), ((some (125, false)), (.pick (some 132) (.t 128) (.t 131) (.k (.bool false)))), (none, (.pick (some 133) (.t 125) (.k (.bool true)) (.t 132))), (none, (.cp 134 133)), ((some (134, false)), (.ld (some 135) (.t 12) (.agg 8))), ((some (134, false)), (.ld (some 136) (.t 15) (.agg 8))), ((some (134, false)), (.call (some 137) (.k (.func 52 [] [])) [(.t 135), (.t 136)] none)), ((some (134, false)), (.un (some 138) .not (.t 137))), (none, (.pick (some 139) (.t 134) (.k (.bool true)) (.t 138))), (none, (.cp 140 139)), ((some (140, false)), (.cp 141 13)), ((some (140, false)), (.cp 142 16)), ((some (140, false)), (.bin (some 143) .neq (.t 141) (.t 142) false false)), (none, (.pick (some 144) (.t 140) (.k (.bool true)) (.t 143)))]) (.cond (.t 144) (.seq (.ops [(none, (.set 2 (.bool false)))]) .ret) .skip)) (.seq (.ops [(none, (.cp 146 3)), (none, (.cp 147 11)), (none, (.ia (some 148) (.t 146) (.t 147) (some 1) none)), (none, (.ld (some 149) (.t 148) (.one none))), (none, (.call (some 150) (.k (.func 57 [] [])) [(.t 149)] none)), (none, (.cp 145 150)), (none, (.ext (some 151) (.t 145) 0)), (none, (.ext (some 152) (.t 145) 1)), (none, (.mv 18 151)), (none, (.mv 19 152))]) (.seq (.ops [(none, (.cp 154 3)), (none, (.cp 155 11)), (none, (.ia (some 156) (.t 154) (.t 155) (some 1) none)), (none, (.ld (some 157) (.t 156) (.one none))), (none, (.call (some 158) (.k (.func 58 [] [])) [(.t 157)] none)), (none, (.cp 153 158)), (none, (.ext (some 159) (.t 153) 0)), (none, (.ext (some 160) (.t 153) 1)), (none, (.mv 20 159)), (none, (.mv 21 160))]) (.seq (.ops [(none, (.cp 161 21)), (none, (.cp 162 19)), (none, (.call (some 163) (.k (.func 41 [] [])) [(.t 162)] none)), (none, (.bin (some 164) .eql (.t 163) (.k (.int .i64 0)) false false)), (none, (.bin (some 165) .neq (.t 161) (.t 164) true false)), (none, (.cp 166 165)), ((some (166, false)), (.cp 167 21)), ((some (166, false)), (.un (some 168) .not (.t 167))), ((some (166, false)), (.cp 169 168)), ((some (169, true)), (.cp 170 19)), ((some (169, true)), (.call (some 171) (.k (.func 41 [] [])) [(.t 170)] none)), ((some (169, true)), (.bin (some 172) .neq (.t 171) (.k (.int .i64 4)) false false)), ((some (166, false)), (.pick (some 173) (.t 169) (.t 172) (.k (.bool false)))), (none, (.pick (some 174) (.t 166) (.k (.bool true)) (.t 173))), (none, (.cp 175 174)), ((some (175, false)), (.cp 176 18)), ((some (175, false)), (.cp 177 20)), ((some (175, false)), (.call (some 178) (.k (.func 59 [] [])) [(.t 176), (.t 177)] none)), ((some (175, false)), (.un (some 179) .not (.t 178))), (none, (.pick (some 180) (.t 175) (.k (.bool true)) (.t 179)))]) (.cond (.t 180) (.seq (.ops [(none, (.set 2 (.bool false)))]) .ret) .skip)))))))) (.ops [(none, (.cp 100 11)), (none, (.bin (some 101) .add (.t 100) (.k (.int .i64 1)) false false)), (none, (.mv 11 101))])))))) (.seq (.ops [(none, (.call (some 181) (.k (.func 48 [] [])) [] none)), (none, (.mv 2 181))]) .ret))))))))))) := by kernel_rfl
theorem strip_flG (l : List Fr) (n : Nat) (xs : List AV) : strip (.sl (flG l) n xs) = .sl (flG l) n xs := by cases l <;> rfl
theorem isOwn_flG (l : List Fr) (n : Nat) (xs : List AV) : isOwn (.sl (flG l) n xs) = false := by cases l <;> rfl
attribute [local go_sem] strip_flS strip_flT isOwn_flS avf_agg strip_avf isOwn_avf avf_len avf_take avf_okc avf_put avf_cstrip strip_flG isOwn_flG
theorem Fr.frA' (f : Fr) : f.av = frA f.k f.t f.a f.b f.n := by obtain ⟨k, t, a, b, n⟩ := f; cases t; rfl
theorem frS_len' {k : Int} {t : T} {a b n : Int} (h : okFr k t a b n = true) : (frS k t a b n).length ≤ 480 := by
  obtain ⟨h1, h2⟩ := bodyL_le h
  have := vb5 (n := bodyL k t a b n) (by omega) (by omega)
  unfold frS
  rw [List.length_append, u8_len]
  unfold vbs; rw [u8_len]
  unfold bodyL at h2 this ⊢
  omega
theorem wSs_ge : ∀ (l : List (List UInt8)) (n : Int), 0 ≤ n → (∀ x ∈ l, x.length ≤ 140737488351232) → n ≤ wSs l n
  | [], n, h, _ => by rw [wSs]; exact Int.le_refl _
  | x :: l, n, h, hx => by
    rw [wSs]
    split
    · rename_i hc
      simp only [decide_eq_true_eq] at hc
      have h1 := hx x (by simp)
      have hw : IntKind.i64.wrap (n + x.length) = n + x.length := by rw [wrap64] <;> omega
      have := wSs_ge l (IntKind.i64.wrap (n + x.length)) (by rw [hw]; omega) (fun y hy => hx y (by simp [hy]))
      rw [hw] at this ⊢; omega
    · exact Int.le_refl _
theorem wSs_small : ∀ (l : List (List UInt8)) (n : Int), 0 ≤ n → (∀ x ∈ l, x.length ≤ 140737488351232) → wSs l n ≤ 2000 → ∀ x ∈ l, x.length ≤ 2000
  | [], n, h, _, _, x, hx => by cases hx
  | y :: l, n, h, hx, hs, x, hm => by
    have h1 := hx y (by simp)
    have hn := wSs_ge (y :: l) n h hx
    have hn2 : n ≤ 2000 := by omega
    rw [wSs] at hs
    have hc : decide (n < 1048576) = true := decide_eq_true (by omega)
    rw [if_pos hc] at hs
    have hw : IntKind.i64.wrap (n + y.length) = n + y.length := by rw [wrap64] <;> omega
    rw [hw] at hs
    have hge := wSs_ge l (n + y.length) (by omega) (fun z hz => hx z (by simp [hz]))
    rcases List.mem_cons.1 hm with rfl | hm
    · omega
    · exact wSs_small l (n + y.length) (by omega) (fun z hz => hx z (by simp [hz])) hs x hm
theorem nearI_len (s : List UInt8) (k i : Nat) : (nearI s k i).length = s.length := by unfold nearI; simp
theorem near_mem (s : List UInt8) (i : Nat) : ∀ x ∈ near s i, x.length ≤ s.length + 1 := by
  have hs : ∀ k, ∀ x ∈ nearS s i k, x.length ≤ s.length + 1 := by
    intro k
    induction k with
    | zero =>
      intro x hx
      simp only [nearS, List.mem_cons, List.not_mem_nil, or_false] at hx
      rcases hx with rfl | rfl | rfl
      · omega
      · simp
      · simp; omega
    | succ k ih =>
      intro x hx
      rw [nearS, List.mem_append] at hx
      rcases hx with hx | hx
      · exact ih x hx
      · simp at hx; subst hx; unfold toT; rw [List.length_map, nearI_len]; omega
  unfold near
  split
  · rename_i h
    intro x hx
    simp only [List.mem_cons, List.not_mem_nil, or_false] at hx
    rcases hx with rfl | rfl <;> simp
  · exact hs 4
theorem near_ne (s : List UInt8) (i : Nat) : ((near s i).map AV.str).isEmpty = false := by
  unfold near; split
  · rfl
  · have := nearS_len s i 4
    cases h : nearS s i 4 with
    | nil => rw [h] at this; simp at this
    | cons a b => rfl
theorem flX_ne (l : List (List UInt8)) : flX l ≠ .sh := by cases l <;> simp [flX]
set_option maxHeartbeats 1600000 in
/-- The last loop: each text is taken both ways. -/
theorem fn_frLoop (h : Hp) (tx : List (List UInt8)) (hl : tx.length < 1000000000000000) (htl : ∀ x ∈ tx, x.length ≤ 1000000) {Q : AX → ASt → Prop} {s0 : ASt}
    (h3 : s0.fr 3 = .sl .own 1 (tx.map AV.str)) (h11 : s0.fr 11 = .int .i64 0) (hn0 : h.n ≤ s0.hp.n) (hs0 : Shrink h s0.hp h) (hQ : ∀ t : ASt, h.n ≤ t.hp.n → Shrink h t.hp h → Q (.exit 2) t) :
    CLoop Try.prog ((.seq (.seq (.ops [(none, (.cp 96 11)), (none, (.cp 97 3)), (none, (.len (some 98) (.t 97) false true)), (none, (.bin (some 99) .lss (.t 96) (.t 98) false false))]) (.cond (.t 99) .skip (.exit 2))) (.seq (.block 3 (.seq (.ops [(none, (.cp 103 3)), (none, (.cp 104 11)), (none, (.ia (some 105) (.t 103) (.t 104) (some 1) none)), (none, (.ld (some 106) (.t 105) (.one none))), (none, (.call (some 107) (.k (.func 50 [] [])) [(.t 106)] none)), (none, (.cp 102 107)), (none, (.ext (some 108) (.t 102) 0)), (none, (.ext (some 109) (.t 102) 1)), (none, (.ext (some 110) (.t 102) 2)), (none, (.alloc 12 [(.int .i64 0), (.int .i64 0), (.str []), (.int .i64 0), (.sl .full 4 []), (.int .i64 0), (.int .i64 0), (.int .i64 0)])), (none, (.st (.t 12) (.t 108) 8)), (none, (.mv 13 109)), (none, (.mv 14 110))]) (.seq (.ops [(none, (.cp 112 3)), (none, (.cp 113 11)), (none, (.ia (some 114) (.t 112) (.t 113) (some 1) none)), (none, (.ld (some 115) (.t 114) (.one none))), (none, (.call (some 116) (.k (.func 56 [] [])) [(.t 115)] none)), (none, (.cp 111 116)), (none, (.ext (some 117) (.t 111) 0)), (none, (.ext (some 118) (.t 111) 1)), (none, (.ext (some 119) (.t 111) 2)), (none, (.alloc 15 [(.int .i64 0), (.int .i64 0), (.str []), (.int .i64 0), (.sl .full 4 []), (.int .i64 0), (.int .i64 0), (.int .i64 0)])), (none, (.st (.t 15) (.t 117) 8)), (none, (.mv 16 118)), (none, (.mv 17 119))]) (.seq (.seq (.ops [(none, (.cp 120 17)), (none, (.cp 121 14)), (none, (.call (some 122) (.k (.func 41 [] [])) [(.t 121)] none)), (none, (.bin (some 123) .eql (.t 122) (.k (.int .i64 0)) false false)), (none, (.bin (some 124) .neq (.t 120) (.t 123) true false)), (none, (.cp 125 124)), ((some (125, false)), (.cp 126 17)), ((some (125, false)), (.un (some 127) .not (.t 126))), ((some (125, false)), (.cp 128 127)), ((some (128, true)), (.cp 129 14)), ((some (128, true)), (.call (some 130) (.k (.func 41 [] [])) [(.t 129)] none)), ((some (128, true)), (.bin (some 131) .neq (.t 130) (.k (.int .i64 4)) false false)), ((some (125, false)), (.pick (some 132) (.t 128) (.t 131) (.k (.bool false)))), (none, (.pick (some 133) (.t 125) (.k (.bool true)) (.t 132))), (none, (.cp 134 133)), ((some (134, false)), (.ld (some 135) (.t 12) (.agg 8))), ((some (134, false)), (.ld (some 136) (.t 15) (.agg 8))), ((some (134, false)), (.call (some 137) (.k (.func 52 [] [])) [(.t 135), (.t 136)] none)), ((some (134, false)), (.un (some 138) .not (.t 137))), (none, (.pick (some 139) (.t 134) (.k (.bool true)) (.t 138))), (none, (.cp 140 139)), ((some (140, false)), (.cp 141 13)), ((some (140, false)), (.cp 142 16)), ((some (140, false)), (.bin (some 143) .neq (.t 141) (.t 142) false false)), (none, (.pick (some 144) (.t 140) (.k (.bool true)) (.t 143)))]) (.cond (.t 144) (.seq (.ops [(none, (.set 2 (.bool false)))]) .ret) .skip)) (.seq (.ops [(none, (.cp 146 3)), (none, (.cp 147 11)), (none, (.ia (some 148) (.t 146) (.t 147) (some 1) none)), (none, (.ld (some 149) (.t 148) (.one none))), (none, (.call (some 150) (.k (.func 57 [] [])) [(.t 149)] none)), (none, (.cp 145 150)), (none, (.ext (some 151) (.t 145) 0)), (none, (.ext (some 152) (.t 145) 1)), (none, (.mv 18 151)), (none, (.mv 19 152))]) (.seq (.ops [(none, (.cp 154 3)), (none, (.cp 155 11)), (none, (.ia (some 156) (.t 154) (.t 155) (some 1) none)), (none, (.ld (some 157) (.t 156) (.one none))), (none, (.call (some 158) (.k (.func 58 [] [])) [(.t 157)] none)), (none, (.cp 153 158)), (none, (.ext (some 159) (.t 153) 0)), (none, (.ext (some 160) (.t 153) 1)), (none, (.mv 20 159)), (none, (.mv 21 160))]) (.seq (.ops [(none, (.cp 161 21)), (none, (.cp 162 19)), (none, (.call (some 163) (.k (.func 41 [] [])) [(.t 162)] none)), (none, (.bin (some 164) .eql (.t 163) (.k (.int .i64 0)) false false)), (none, (.bin (some 165) .neq (.t 161) (.t 164) true false)), (none, (.cp 166 165)), ((some (166, false)), (.cp 167 21)), ((some (166, false)), (.un (some 168) .not (.t 167))), ((some (166, false)), (.cp 169 168)), ((some (169, true)), (.cp 170 19)), ((some (169, true)), (.call (some 171) (.k (.func 41 [] [])) [(.t 170)] none)), ((some (169, true)), (.bin (some 172) .neq (.t 171) (.k (.int .i64 4)) false false)), ((some (166, false)), (.pick (some 173) (.t 169) (.t 172) (.k (.bool false)))), (none, (.pick (some 174) (.t 166) (.k (.bool true)) (.t 173))), (none, (.cp 175 174)), ((some (175, false)), (.cp 176 18)), ((some (175, false)), (.cp 177 20)), ((some (175, false)), (.call (some 178) (.k (.func 59 [] [])) [(.t 176), (.t 177)] none)), ((some (175, false)), (.un (some 179) .not (.t 178))), (none, (.pick (some 180) (.t 175) (.k (.bool true)) (.t 179)))]) (.cond (.t 180) (.seq (.ops [(none, (.set 2 (.bool false)))]) .ret) .skip)))))))) (.ops [(none, (.cp 100 11)), (none, (.bin (some 101) .add (.t 100) (.k (.int .i64 1)) false false)), (none, (.mv 11 101))])))) Q s0 := by
  refine cloop (fun k t => ∃ j : Nat, j + k = tx.length ∧ t.fr 3 = .sl .own 1 (tx.map AV.str) ∧ t.fr 11 = .int .i64 (j : Nat) ∧ h.n ≤ t.hp.n ∧ Shrink h t.hp h) tx.length ⟨0, by simp, h3, h11, hn0, hs0⟩ ?_
  clear h3 h11 hn0 hs0
  rintro k ⟨f, hp⟩ ⟨j, hk, f3, f11, hn, hsh⟩
  simp only at f3 f11 hn hsh
  by_cases hj : j < tx.length
  · have hj' : decide ((j : Int) < (tx.length : Int)) = true := decide_eq_true (by omega)
    have hw : IntKind.i64.wrap ((j : Int) + 1) = ((j + 1 : Nat) : Int) := by rw [wrap64] <;> omega
    have hx := getStr hj
    have hxl := htl _ (List.getElem_mem hj)
    generalize tx[j] = x at hx hxl
    have hT := fn_wTakeF x
    have hU := fn_rTakeF x
    have hA := fn_wAll x hxl
    have hB := fn_rAll x hxl
    have hok := allL_ok x.length x
    have hall := allL_len x.length x
    rcases hR : allL x.length x with ⟨R, b⟩
    rw [hR] at hA hB hok hall
    simp only at hA hB hok hall
    have hEs := fn_EqFrames R (by omega) hok (flG R) (flG R)
    generalize R.map Fr.avF = ys at hA hB hEs
    rw [frTk_eq] at hT hU
    have hgo : (frT x).t.ok := decK_ok _
    generalize frT x = g at hT hU hgo
    generalize (lenR x).2.1 = rest at hT hU
    have n1 : ¬ hp.n = hp.n + 1 := by omega
    have n2 : ¬ hp.n + 1 = hp.n := by omega
    have hsg := shrink_grow (n := hp.n + 2) hsh (by omega)
    have hsn1 : h.n ≤ hp.n + 1 := by omega
    simp only [go_sem, Nat.reduceEqDiff, Nat.reduceAdd, Nat.reduceLeDiff, Nat.reduceLT, ↓reduceIte, reduceCtorEq, Int.reduceLT, Int.reduceToNat, Int.reduceEq, Int.reduceBEq, Int.reduceBNe, Nat.reduceBEq, f3, f11, hj', hx]
    refine pcall hT (by simp only [go_sem, Nat.reduceEqDiff, Nat.reduceAdd, Nat.reduceLeDiff, Nat.reduceLT, ↓reduceIte, reduceCtorEq, Int.reduceLT, Int.reduceToNat, Int.reduceEq, Int.reduceBEq, Int.reduceBNe, Nat.reduceBEq]) ?_
    cases hm : okTk x with
    | false =>
      rw [hm] at hU
      simp only [Bool.false_eq_true, if_false] at hU
      have hE := fn_EqFrameFF 0 (.mk 0 [] 0 []) 0 0 0 (by rw [ok_mk]; simp)
      unfold frF flS at hE
      simp only [List.map_nil] at hE
      unfold fr0 at hU ⊢
      simp only [go_sem, Nat.reduceEqDiff, Nat.reduceAdd, Nat.reduceLeDiff, Nat.reduceLT, ↓reduceIte, reduceCtorEq, Int.reduceLT, Int.reduceToNat, Int.reduceEq, Int.reduceBEq, Int.reduceBNe, Nat.reduceBEq, f3, f11, hj', hx, n1, n2]
      refine pcall hU (by simp only [go_sem, Nat.reduceEqDiff, Nat.reduceAdd, Nat.reduceLeDiff, Nat.reduceLT, ↓reduceIte, reduceCtorEq, Int.reduceLT, Int.reduceToNat, Int.reduceEq, Int.reduceBEq, Int.reduceBNe, Nat.reduceBEq]) ?_
      simp only [go_sem, Nat.reduceEqDiff, Nat.reduceAdd, Nat.reduceLeDiff, Nat.reduceLT, ↓reduceIte, reduceCtorEq, Int.reduceLT, Int.reduceToNat, Int.reduceEq, Int.reduceBEq, Int.reduceBNe, Nat.reduceBEq, f3, f11, n1, n2]
      refine pcall (fn_num20 4) (by simp only [go_sem, Nat.reduceEqDiff, Nat.reduceAdd, Nat.reduceLeDiff, Nat.reduceLT, ↓reduceIte, reduceCtorEq, Int.reduceLT, Int.reduceToNat, Int.reduceEq, Int.reduceBEq, Int.reduceBNe, Nat.reduceBEq]) ?_
      simp only [go_sem, Nat.reduceEqDiff, Nat.reduceAdd, Nat.reduceLeDiff, Nat.reduceLT, ↓reduceIte, reduceCtorEq, Int.reduceLT, Int.reduceToNat, Int.reduceEq, Int.reduceBEq, Int.reduceBNe, Nat.reduceBEq, f3, f11, n1, n2]
      refine pcall (fn_num20 4) (by simp only [go_sem, Nat.reduceEqDiff, Nat.reduceAdd, Nat.reduceLeDiff, Nat.reduceLT, ↓reduceIte, reduceCtorEq, Int.reduceLT, Int.reduceToNat, Int.reduceEq, Int.reduceBEq, Int.reduceBNe, Nat.reduceBEq]) ?_
      simp only [go_sem, Nat.reduceEqDiff, Nat.reduceAdd, Nat.reduceLeDiff, Nat.reduceLT, ↓reduceIte, reduceCtorEq, Int.reduceLT, Int.reduceToNat, Int.reduceEq, Int.reduceBEq, Int.reduceBNe, Nat.reduceBEq, f3, f11, n1, n2]
      refine pcall hE (by simp only [go_sem, Nat.reduceEqDiff, Nat.reduceAdd, Nat.reduceLeDiff, Nat.reduceLT, ↓reduceIte, reduceCtorEq, Int.reduceLT, Int.reduceToNat, Int.reduceEq, Int.reduceBEq, Int.reduceBNe, Nat.reduceBEq]) ?_
      simp only [go_sem, Nat.reduceEqDiff, Nat.reduceAdd, Nat.reduceLeDiff, Nat.reduceLT, ↓reduceIte, reduceCtorEq, Int.reduceLT, Int.reduceToNat, Int.reduceEq, Int.reduceBEq, Int.reduceBNe, Nat.reduceBEq, f3, f11, n1, n2, hx]
      refine pcall hA (by simp only [go_sem, Nat.reduceEqDiff, Nat.reduceAdd, Nat.reduceLeDiff, Nat.reduceLT, ↓reduceIte, reduceCtorEq, Int.reduceLT, Int.reduceToNat, Int.reduceEq, Int.reduceBEq, Int.reduceBNe, Nat.reduceBEq]) ?_
      cases b with
      | false =>
        simp only [go_sem, Nat.reduceEqDiff, Nat.reduceAdd, Nat.reduceLeDiff, Nat.reduceLT, ↓reduceIte, reduceCtorEq, Int.reduceLT, Int.reduceToNat, Int.reduceEq, Int.reduceBEq, Int.reduceBNe, Nat.reduceBEq, f3, f11, n1, n2, hx]
        refine pcall hB (by simp only [go_sem, Nat.reduceEqDiff, Nat.reduceAdd, Nat.reduceLeDiff, Nat.reduceLT, ↓reduceIte, reduceCtorEq, Int.reduceLT, Int.reduceToNat, Int.reduceEq, Int.reduceBEq, Int.reduceBNe, Nat.reduceBEq]) ?_
        simp only [go_sem, Nat.reduceEqDiff, Nat.reduceAdd, Nat.reduceLeDiff, Nat.reduceLT, ↓reduceIte, reduceCtorEq, Int.reduceLT, Int.reduceToNat, Int.reduceEq, Int.reduceBEq, Int.reduceBNe, Nat.reduceBEq, f3, f11, n1, n2]
        refine pcall (fn_num20 4) (by simp only [go_sem, Nat.reduceEqDiff, Nat.reduceAdd, Nat.reduceLeDiff, Nat.reduceLT, ↓reduceIte, reduceCtorEq, Int.reduceLT, Int.reduceToNat, Int.reduceEq, Int.reduceBEq, Int.reduceBNe, Nat.reduceBEq]) ?_
        simp only [go_sem, Nat.reduceEqDiff, Nat.reduceAdd, Nat.reduceLeDiff, Nat.reduceLT, ↓reduceIte, reduceCtorEq, Int.reduceLT, Int.reduceToNat, Int.reduceEq, Int.reduceBEq, Int.reduceBNe, Nat.reduceBEq, f3, f11, n1, n2]
        refine pcall (fn_num20 4) (by simp only [go_sem, Nat.reduceEqDiff, Nat.reduceAdd, Nat.reduceLeDiff, Nat.reduceLT, ↓reduceIte, reduceCtorEq, Int.reduceLT, Int.reduceToNat, Int.reduceEq, Int.reduceBEq, Int.reduceBNe, Nat.reduceBEq]) ?_
        simp only [go_sem, Nat.reduceEqDiff, Nat.reduceAdd, Nat.reduceLeDiff, Nat.reduceLT, ↓reduceIte, reduceCtorEq, Int.reduceLT, Int.reduceToNat, Int.reduceEq, Int.reduceBEq, Int.reduceBNe, Nat.reduceBEq, f3, f11, n1, n2]
        refine pcall hEs (by simp only [go_sem, Nat.reduceEqDiff, Nat.reduceAdd, Nat.reduceLeDiff, Nat.reduceLT, ↓reduceIte, reduceCtorEq, Int.reduceLT, Int.reduceToNat, Int.reduceEq, Int.reduceBEq, Int.reduceBNe, Nat.reduceBEq]) ?_
        simp only [go_sem, Nat.reduceEqDiff, Nat.reduceAdd, Nat.reduceLeDiff, Nat.reduceLT, ↓reduceIte, reduceCtorEq, Int.reduceLT, Int.reduceToNat, Int.reduceEq, Int.reduceBEq, Int.reduceBNe, Nat.reduceBEq, f3, f11, n1, n2, hw]
        exact ⟨k - 1, by omega, j + 1, by omega, rfl, by omega, by simp [shrink_upd, hsg, hn, hsn1]⟩
      | true =>
        simp only [go_sem, Nat.reduceEqDiff, Nat.reduceAdd, Nat.reduceLeDiff, Nat.reduceLT, ↓reduceIte, reduceCtorEq, Int.reduceLT, Int.reduceToNat, Int.reduceEq, Int.reduceBEq, Int.reduceBNe, Nat.reduceBEq, f3, f11, n1, n2, hx]
        refine pcall hB (by simp only [go_sem, Nat.reduceEqDiff, Nat.reduceAdd, Nat.reduceLeDiff, Nat.reduceLT, ↓reduceIte, reduceCtorEq, Int.reduceLT, Int.reduceToNat, Int.reduceEq, Int.reduceBEq, Int.reduceBNe, Nat.reduceBEq]) ?_
        simp only [go_sem, Nat.reduceEqDiff, Nat.reduceAdd, Nat.reduceLeDiff, Nat.reduceLT, ↓reduceIte, reduceCtorEq, Int.reduceLT, Int.reduceToNat, Int.reduceEq, Int.reduceBEq, Int.reduceBNe, Nat.reduceBEq, f3, f11, n1, n2]
        refine pcall (fn_num20 0) (by simp only [go_sem, Nat.reduceEqDiff, Nat.reduceAdd, Nat.reduceLeDiff, Nat.reduceLT, ↓reduceIte, reduceCtorEq, Int.reduceLT, Int.reduceToNat, Int.reduceEq, Int.reduceBEq, Int.reduceBNe, Nat.reduceBEq]) ?_
        simp only [go_sem, Nat.reduceEqDiff, Nat.reduceAdd, Nat.reduceLeDiff, Nat.reduceLT, ↓reduceIte, reduceCtorEq, Int.reduceLT, Int.reduceToNat, Int.reduceEq, Int.reduceBEq, Int.reduceBNe, Nat.reduceBEq, f3, f11, n1, n2]
        refine pcall hEs (by simp only [go_sem, Nat.reduceEqDiff, Nat.reduceAdd, Nat.reduceLeDiff, Nat.reduceLT, ↓reduceIte, reduceCtorEq, Int.reduceLT, Int.reduceToNat, Int.reduceEq, Int.reduceBEq, Int.reduceBNe, Nat.reduceBEq]) ?_
        simp only [go_sem, Nat.reduceEqDiff, Nat.reduceAdd, Nat.reduceLeDiff, Nat.reduceLT, ↓reduceIte, reduceCtorEq, Int.reduceLT, Int.reduceToNat, Int.reduceEq, Int.reduceBEq, Int.reduceBNe, Nat.reduceBEq, f3, f11, n1, n2, hw]
        exact ⟨k - 1, by omega, j + 1, by omega, rfl, by omega, by simp [shrink_upd, hsg, hn, hsn1]⟩
    | true =>
      rw [hm] at hU
      simp only [if_true] at hU
      have hE := fn_EqFrameFF g.k g.t g.a g.b g.n hgo
      obtain ⟨gk, ⟨tk, tn, tv, tl⟩, ga, gb, gn⟩ := g
      unfold Fr.avF frF at hU ⊢
      unfold frF at hE
      simp only at hU hE ⊢
      simp only [go_sem, Nat.reduceEqDiff, Nat.reduceAdd, Nat.reduceLeDiff, Nat.reduceLT, ↓reduceIte, reduceCtorEq, Int.reduceLT, Int.reduceToNat, Int.reduceEq, Int.reduceBEq, Int.reduceBNe, Nat.reduceBEq, f3, f11, hj', hx, n1, n2]
      refine pcall hU (by simp only [go_sem, Nat.reduceEqDiff, Nat.reduceAdd, Nat.reduceLeDiff, Nat.reduceLT, ↓reduceIte, reduceCtorEq, Int.reduceLT, Int.reduceToNat, Int.reduceEq, Int.reduceBEq, Int.reduceBNe, Nat.reduceBEq]) ?_
      simp only [go_sem, Nat.reduceEqDiff, Nat.reduceAdd, Nat.reduceLeDiff, Nat.reduceLT, ↓reduceIte, reduceCtorEq, Int.reduceLT, Int.reduceToNat, Int.reduceEq, Int.reduceBEq, Int.reduceBNe, Nat.reduceBEq, f3, f11, n1, n2]
      refine pcall (fn_num20 0) (by simp only [go_sem, Nat.reduceEqDiff, Nat.reduceAdd, Nat.reduceLeDiff, Nat.reduceLT, ↓reduceIte, reduceCtorEq, Int.reduceLT, Int.reduceToNat, Int.reduceEq, Int.reduceBEq, Int.reduceBNe, Nat.reduceBEq]) ?_
      simp only [go_sem, Nat.reduceEqDiff, Nat.reduceAdd, Nat.reduceLeDiff, Nat.reduceLT, ↓reduceIte, reduceCtorEq, Int.reduceLT, Int.reduceToNat, Int.reduceEq, Int.reduceBEq, Int.reduceBNe, Nat.reduceBEq, f3, f11, n1, n2]
      refine pcall hE (by simp only [go_sem, Nat.reduceEqDiff, Nat.reduceAdd, Nat.reduceLeDiff, Nat.reduceLT, ↓reduceIte, reduceCtorEq, Int.reduceLT, Int.reduceToNat, Int.reduceEq, Int.reduceBEq, Int.reduceBNe, Nat.reduceBEq]) ?_
      simp only [go_sem, Nat.reduceEqDiff, Nat.reduceAdd, Nat.reduceLeDiff, Nat.reduceLT, ↓reduceIte, reduceCtorEq, Int.reduceLT, Int.reduceToNat, Int.reduceEq, Int.reduceBEq, Int.reduceBNe, Nat.reduceBEq, f3, f11, n1, n2, hx]
      refine pcall hA (by simp only [go_sem, Nat.reduceEqDiff, Nat.reduceAdd, Nat.reduceLeDiff, Nat.reduceLT, ↓reduceIte, reduceCtorEq, Int.reduceLT, Int.reduceToNat, Int.reduceEq, Int.reduceBEq, Int.reduceBNe, Nat.reduceBEq]) ?_
      cases b with
      | false =>
        simp only [go_sem, Nat.reduceEqDiff, Nat.reduceAdd, Nat.reduceLeDiff, Nat.reduceLT, ↓reduceIte, reduceCtorEq, Int.reduceLT, Int.reduceToNat, Int.reduceEq, Int.reduceBEq, Int.reduceBNe, Nat.reduceBEq, f3, f11, n1, n2, hx]
        refine pcall hB (by simp only [go_sem, Nat.reduceEqDiff, Nat.reduceAdd, Nat.reduceLeDiff, Nat.reduceLT, ↓reduceIte, reduceCtorEq, Int.reduceLT, Int.reduceToNat, Int.reduceEq, Int.reduceBEq, Int.reduceBNe, Nat.reduceBEq]) ?_
        simp only [go_sem, Nat.reduceEqDiff, Nat.reduceAdd, Nat.reduceLeDiff, Nat.reduceLT, ↓reduceIte, reduceCtorEq, Int.reduceLT, Int.reduceToNat, Int.reduceEq, Int.reduceBEq, Int.reduceBNe, Nat.reduceBEq, f3, f11, n1, n2]
        refine pcall (fn_num20 4) (by simp only [go_sem, Nat.reduceEqDiff, Nat.reduceAdd, Nat.reduceLeDiff, Nat.reduceLT, ↓reduceIte, reduceCtorEq, Int.reduceLT, Int.reduceToNat, Int.reduceEq, Int.reduceBEq, Int.reduceBNe, Nat.reduceBEq]) ?_
        simp only [go_sem, Nat.reduceEqDiff, Nat.reduceAdd, Nat.reduceLeDiff, Nat.reduceLT, ↓reduceIte, reduceCtorEq, Int.reduceLT, Int.reduceToNat, Int.reduceEq, Int.reduceBEq, Int.reduceBNe, Nat.reduceBEq, f3, f11, n1, n2]
        refine pcall (fn_num20 4) (by simp only [go_sem, Nat.reduceEqDiff, Nat.reduceAdd, Nat.reduceLeDiff, Nat.reduceLT, ↓reduceIte, reduceCtorEq, Int.reduceLT, Int.reduceToNat, Int.reduceEq, Int.reduceBEq, Int.reduceBNe, Nat.reduceBEq]) ?_
        simp only [go_sem, Nat.reduceEqDiff, Nat.reduceAdd, Nat.reduceLeDiff, Nat.reduceLT, ↓reduceIte, reduceCtorEq, Int.reduceLT, Int.reduceToNat, Int.reduceEq, Int.reduceBEq, Int.reduceBNe, Nat.reduceBEq, f3, f11, n1, n2]
        refine pcall hEs (by simp only [go_sem, Nat.reduceEqDiff, Nat.reduceAdd, Nat.reduceLeDiff, Nat.reduceLT, ↓reduceIte, reduceCtorEq, Int.reduceLT, Int.reduceToNat, Int.reduceEq, Int.reduceBEq, Int.reduceBNe, Nat.reduceBEq]) ?_
        simp only [go_sem, Nat.reduceEqDiff, Nat.reduceAdd, Nat.reduceLeDiff, Nat.reduceLT, ↓reduceIte, reduceCtorEq, Int.reduceLT, Int.reduceToNat, Int.reduceEq, Int.reduceBEq, Int.reduceBNe, Nat.reduceBEq, f3, f11, n1, n2, hw]
        exact ⟨k - 1, by omega, j + 1, by omega, rfl, by omega, by simp [shrink_upd, hsg, hn, hsn1]⟩
      | true =>
        simp only [go_sem, Nat.reduceEqDiff, Nat.reduceAdd, Nat.reduceLeDiff, Nat.reduceLT, ↓reduceIte, reduceCtorEq, Int.reduceLT, Int.reduceToNat, Int.reduceEq, Int.reduceBEq, Int.reduceBNe, Nat.reduceBEq, f3, f11, n1, n2, hx]
        refine pcall hB (by simp only [go_sem, Nat.reduceEqDiff, Nat.reduceAdd, Nat.reduceLeDiff, Nat.reduceLT, ↓reduceIte, reduceCtorEq, Int.reduceLT, Int.reduceToNat, Int.reduceEq, Int.reduceBEq, Int.reduceBNe, Nat.reduceBEq]) ?_
        simp only [go_sem, Nat.reduceEqDiff, Nat.reduceAdd, Nat.reduceLeDiff, Nat.reduceLT, ↓reduceIte, reduceCtorEq, Int.reduceLT, Int.reduceToNat, Int.reduceEq, Int.reduceBEq, Int.reduceBNe, Nat.reduceBEq, f3, f11, n1, n2]
        refine pcall (fn_num20 0) (by simp only [go_sem, Nat.reduceEqDiff, Nat.reduceAdd, Nat.reduceLeDiff, Nat.reduceLT, ↓reduceIte, reduceCtorEq, Int.reduceLT, Int.reduceToNat, Int.reduceEq, Int.reduceBEq, Int.reduceBNe, Nat.reduceBEq]) ?_
        simp only [go_sem, Nat.reduceEqDiff, Nat.reduceAdd, Nat.reduceLeDiff, Nat.reduceLT, ↓reduceIte, reduceCtorEq, Int.reduceLT, Int.reduceToNat, Int.reduceEq, Int.reduceBEq, Int.reduceBNe, Nat.reduceBEq, f3, f11, n1, n2]
        refine pcall hEs (by simp only [go_sem, Nat.reduceEqDiff, Nat.reduceAdd, Nat.reduceLeDiff, Nat.reduceLT, ↓reduceIte, reduceCtorEq, Int.reduceLT, Int.reduceToNat, Int.reduceEq, Int.reduceBEq, Int.reduceBNe, Nat.reduceBEq]) ?_
        simp only [go_sem, Nat.reduceEqDiff, Nat.reduceAdd, Nat.reduceLeDiff, Nat.reduceLT, ↓reduceIte, reduceCtorEq, Int.reduceLT, Int.reduceToNat, Int.reduceEq, Int.reduceBEq, Int.reduceBNe, Nat.reduceBEq, f3, f11, n1, n2, hw]
        exact ⟨k - 1, by omega, j + 1, by omega, rfl, by omega, by simp [shrink_upd, hsg, hn, hsn1]⟩
  · have hj' : decide ((j : Int) < (tx.length : Int)) = false := decide_eq_false (by omega)
    simp only [go_sem, Nat.reduceEqDiff, Nat.reduceAdd, Nat.reduceLeDiff, Nat.reduceLT, ↓reduceIte, reduceCtorEq, Int.reduceLT, Int.reduceToNat, Int.reduceEq, Int.reduceBEq, Int.reduceBNe, Nat.reduceBEq, f3, f11, hj']
    exact hQ ⟨_, hp⟩ hn hsh
def askF (l : List T) (s : List (List UInt8)) (ns : List Int) (fs : List Fr) : Blk := .cells [.sl .sh 4 (l.map T.av), .sl .sh 1 (s.map AV.str), .sl .sh 1 (ns.map (AV.int .i64)), .sl .sh 8 (fs.map Fr.av)]
set_option maxHeartbeats 1600000 in
theorem fn_WireFrames (l : List T) (s : List (List UInt8)) (ns : List Int) (fs : List Fr) (hl : l.length < 1000000000000000) (ho : ∀ x ∈ l, x.ok) (hs0 : s.length < 1000000000000000) (hf : fs.length < 1000000000000000) (hfo : ∀ f ∈ fs, f.t.ok ∧ f.t.fit) (hn : ns.length * 8 ≤ 140737488351232) (hs : s.length * 16 ≤ 140737488351232) (hsl : ∀ x ∈ s, x.length ≤ 140737488351232) : PFn Try.prog 10 [ask20 l s ns fs] (.bool true) := by
  intro h
  refine fnC mixed Try.func10 c10 (by simp) ?_
  have hH := fn_Heavy20 l s ns fs hl ho hs0 hf (fun f h => (hfo f h).1)
  unfold ask20 at hH ⊢
  simp only [go_sem, Nat.reduceEqDiff, Nat.reduceAdd, Nat.reduceLeDiff, Nat.reduceLT, ↓reduceIte, reduceCtorEq, Int.reduceLT, Int.reduceToNat, Int.reduceEq, Int.reduceBEq, Int.reduceBNe, Nat.reduceBEq]
  refine pcall hH (by simp only [go_sem, Nat.reduceEqDiff, Nat.reduceAdd, Nat.reduceLeDiff, Nat.reduceLT, ↓reduceIte, reduceCtorEq, Int.reduceLT, Int.reduceToNat, Int.reduceEq, Int.reduceBEq, Int.reduceBNe, Nat.reduceBEq]) ?_
  simp only [go_sem, Nat.reduceEqDiff, Nat.reduceAdd, Nat.reduceLeDiff, Nat.reduceLT, ↓reduceIte, reduceCtorEq, Int.reduceLT, Int.reduceToNat, Int.reduceEq, Int.reduceBEq, Int.reduceBNe, Nat.reduceBEq]
  refine cif (fun h1 => ?_) (fun h1 => ?_)
  · simp only [go_sem, Nat.reduceEqDiff, Nat.reduceAdd, Nat.reduceLeDiff, Nat.reduceLT, ↓reduceIte, reduceCtorEq, Int.reduceLT, Int.reduceToNat, Int.reduceEq, Int.reduceBEq, Int.reduceBNe, Nat.reduceBEq]
  have hsm : ∀ x ∈ s, x.length ≤ 1000000 := by
    unfold heavy20 heavyB at h1
    simp only [Bool.or_eq_false_iff, decide_eq_false_iff_not] at h1
    intro x hx
    have := wSs_small s s.length (by omega) hsl (by omega) x hx
    omega
  clear h1
  have hCp := fn_CopyStrings s (by omega)
  have hfx := flX_ne s
  simp only [go_sem, Nat.reduceEqDiff, Nat.reduceAdd, Nat.reduceLeDiff, Nat.reduceLT, ↓reduceIte, reduceCtorEq, Int.reduceLT, Int.reduceToNat, Int.reduceEq, Int.reduceBEq, Int.reduceBNe, Nat.reduceBEq]
  refine pcall hCp (by simp only [go_sem, Nat.reduceEqDiff, Nat.reduceAdd, Nat.reduceLeDiff, Nat.reduceLT, ↓reduceIte, reduceCtorEq, Int.reduceLT, Int.reduceToNat, Int.reduceEq, Int.reduceBEq, Int.reduceBNe, Nat.reduceBEq]) ?_
  generalize flX s = fl0 at hfx hCp ⊢
  clear hCp
  have sh0 : Shrink h ⟨h.n + 1, updB h.bk h.n (askF l s ns fs)⟩ h := by simp [shrink_upd, shrink_n]
  cases fl0 with
  | sh => exact absurd rfl hfx
  | own =>
    simp only [go_sem, Nat.reduceEqDiff, Nat.reduceAdd, Nat.reduceLeDiff, Nat.reduceLT, ↓reduceIte, reduceCtorEq, Int.reduceLT, Int.reduceToNat, Int.reduceEq, Int.reduceBEq, Int.reduceBNe, Nat.reduceBEq]
    refine cloop (fun k t => ∃ (i : Nat) (fl : Fl) (tx : List (List UInt8)) (all : List UInt8), i + k = fs.length ∧ i ≤ 6 ∧ fl ≠ .sh ∧ tx.length ≤ s.length + 7 * i ∧ (∀ x ∈ tx, x.length ≤ 1000000) ∧ all.length ≤ 480 * i ∧ t.fr 1 = .ptr h.n 0 ∧ t.fr 3 = .sl fl 1 (tx.map AV.str) ∧ t.fr 4 = .str all ∧ t.fr 5 = .int .i64 (i : Nat) ∧ h.n + 1 ≤ t.hp.n ∧ t.hp.bk h.n = askF l s ns fs ∧ Shrink h t.hp h) fs.length
      ⟨0, _, s, [], by simp, by omega, hfx, by simp, hsm, by simp, by simp [fr_apply, argsF], by simp [fr_apply, argsF], by simp [fr_apply, argsF], by simp [fr_apply, argsF], by simp, by simp [bk_apply, askF], by simpa [askF] using sh0⟩ ?_
    clear sh0 hfx
    rintro k ⟨f, hp⟩ ⟨i, fl, tx, all, hk, hi6, hfl, htx, htl, hall, f1, f3, f4, f5, hnn, hbk, hsh⟩
    simp only at f1 f3 f4 f5 hnn hbk hsh
    unfold askF at hbk
    by_cases hi : i < fs.length
    · have hi' : decide ((i : Int) < (fs.length : Int)) = true := decide_eq_true (by omega)
      by_cases h6 : (i : Int) < 6
      · have h6' : decide ((i : Int) < 6) = true := decide_eq_true h6
        have hw : IntKind.i64.wrap ((i : Int) + 1) = ((i + 1 : Nat) : Int) := by rw [wrap64] <;> omega
        have hx : (fs.map Fr.av)[i]? = some fs[i].av := by simp [hi]
        have hto := hfo _ (List.getElem_mem hi)
        rw [Fr.frA'] at hx
        generalize fs[i] = g at hx hto
        obtain ⟨gk, gt, ga, gb, gn⟩ := g
        simp only at hx hto
        have hC := fn_CopyFrame gk gt ga gb gn hto.2
        have hF := fn_wFrameF gk gt ga gb gn hto.1
        have hM := fn_rFrame gk gt ga gb gn hto.1
        have hE := fn_EqFrameFA gk gt ga gb gn hto.1
        have n1 : ¬ h.n = hp.n := by omega
        have n2 : ¬ hp.n = h.n := by omega
        have hsn : h.n ≤ hp.n := by omega
        have hsg := shrink_grow (n := hp.n + 1) hsh (by omega)
        cases hm : okFr gk gt ga gb gn with
        | false =>
          rw [hm] at hF hM
          simp only [Bool.false_eq_true, if_false] at hF
          obtain ⟨tk, tn, tv, tl⟩ := gt
          unfold frA at hC hM hE hx
          unfold frF at hC hF hE
          simp only at hC hF hM hE hx
          simp only [go_sem, Nat.reduceEqDiff, Nat.reduceAdd, Nat.reduceLeDiff, Nat.reduceLT, ↓reduceIte, reduceCtorEq, Int.reduceLT, Int.reduceToNat, Int.reduceEq, Int.reduceBEq, Int.reduceBNe, Nat.reduceBEq, f1, f3, f4, f5, hi', h6', hbk, hx]
          refine pcall hC (by simp only [go_sem, Nat.reduceEqDiff, Nat.reduceAdd, Nat.reduceLeDiff, Nat.reduceLT, ↓reduceIte, reduceCtorEq, Int.reduceLT, Int.reduceToNat, Int.reduceEq, Int.reduceBEq, Int.reduceBNe, Nat.reduceBEq]) ?_
          simp only [go_sem, Nat.reduceEqDiff, Nat.reduceAdd, Nat.reduceLeDiff, Nat.reduceLT, ↓reduceIte, reduceCtorEq, Int.reduceLT, Int.reduceToNat, Int.reduceEq, Int.reduceBEq, Int.reduceBNe, Nat.reduceBEq, f1, f3, f4, f5, n1, n2, hbk]
          refine pcall hF (by simp only [go_sem, Nat.reduceEqDiff, Nat.reduceAdd, Nat.reduceLeDiff, Nat.reduceLT, ↓reduceIte, reduceCtorEq, Int.reduceLT, Int.reduceToNat, Int.reduceEq, Int.reduceBEq, Int.reduceBNe, Nat.reduceBEq]) ?_
          simp only [go_sem, Nat.reduceEqDiff, Nat.reduceAdd, Nat.reduceLeDiff, Nat.reduceLT, ↓reduceIte, reduceCtorEq, Int.reduceLT, Int.reduceToNat, Int.reduceEq, Int.reduceBEq, Int.reduceBNe, Nat.reduceBEq, f1, f3, f4, f5, n1, n2, hbk, hx]
          refine pcall hM (by simp only [go_sem, Nat.reduceEqDiff, Nat.reduceAdd, Nat.reduceLeDiff, Nat.reduceLT, ↓reduceIte, reduceCtorEq, Int.reduceLT, Int.reduceToNat, Int.reduceEq, Int.reduceBEq, Int.reduceBNe, Nat.reduceBEq]) ?_
          simp only [go_sem, Nat.reduceEqDiff, Nat.reduceAdd, Nat.reduceLeDiff, Nat.reduceLT, ↓reduceIte, reduceCtorEq, Int.reduceLT, Int.reduceToNat, Int.reduceEq, Int.reduceBEq, Int.reduceBNe, Nat.reduceBEq, f1, f3, f4, f5, n1, n2, hbk, hx]
          refine pcallD (fn_num20 1) (by simp only [go_sem, Nat.reduceEqDiff, Nat.reduceAdd, Nat.reduceLeDiff, Nat.reduceLT, ↓reduceIte, reduceCtorEq, Int.reduceLT, Int.reduceToNat, Int.reduceEq, Int.reduceBEq, Int.reduceBNe, Nat.reduceBEq]) ?_
          simp only [go_sem, Nat.reduceEqDiff, Nat.reduceAdd, Nat.reduceLeDiff, Nat.reduceLT, ↓reduceIte, reduceCtorEq, Int.reduceLT, Int.reduceToNat, Int.reduceEq, Int.reduceBEq, Int.reduceBNe, Nat.reduceBEq, f1, f3, f4, f5, n1, n2, hbk, hx]
          refine pcallD hE (by simp only [go_sem, Nat.reduceEqDiff, Nat.reduceAdd, Nat.reduceLeDiff, Nat.reduceLT, ↓reduceIte, reduceCtorEq, Int.reduceLT, Int.reduceToNat, Int.reduceEq, Int.reduceBEq, Int.reduceBNe, Nat.reduceBEq]) ?_
          simp only [go_sem, Nat.reduceEqDiff, Nat.reduceAdd, Nat.reduceLeDiff, Nat.reduceLT, ↓reduceIte, reduceCtorEq, Int.reduceLT, Int.reduceToNat, Int.reduceEq, Int.reduceBEq, Int.reduceBNe, Nat.reduceBEq, f1, f3, f4, f5, hw]
          exact ⟨k - 1, by omega, i + 1, fl, tx, all, by omega, by omega, hfl, by omega, htl, by omega, rfl, rfl, rfl, by omega, by simp [n1, hbk, askF], by simp [shrink_upd, hsg, hsn]⟩
        | true =>
          have hS := frS_len' hm
          have hB := fn_rBytes gk gt ga gb gn hto.1 hm
          rw [hm] at hF hM
          simp only [if_true] at hF
          generalize frS gk gt ga gb gn = S at hF hB hS
          have hNe := fn_near S i (by omega) (by omega)
          have hnl := near_len S i
          have hnm := near_mem S i
          have hne3 := near_ne S i
          generalize near S i = nr at hNe hnl hnm hne3
          have hC1 : (tx.length + nr.length) * 16 ≤ 140737488355328 := by omega
          have hC2 : tx.length + nr.length ≤ 9223372036854775807 := by omega
          have hC3 : all.length + S.length ≤ 9223372036854775807 := by omega
          have htl2 : ∀ x ∈ tx ++ nr, x.length ≤ 1000000 := fun x hx => by
            rcases List.mem_append.1 hx with hx | hx
            · exact htl x hx
            · have := hnm x hx; omega
          obtain ⟨tk, tn, tv, tl⟩ := gt
          unfold frA at hC hM hE hx hB
          unfold frF at hC hF hE
          simp only at hC hF hM hE hx hB
          simp only [go_sem, Nat.reduceEqDiff, Nat.reduceAdd, Nat.reduceLeDiff, Nat.reduceLT, ↓reduceIte, reduceCtorEq, Int.reduceLT, Int.reduceToNat, Int.reduceEq, Int.reduceBEq, Int.reduceBNe, Nat.reduceBEq, f1, f3, f4, f5, hi', h6', hbk, hx]
          refine pcall hC (by simp only [go_sem, Nat.reduceEqDiff, Nat.reduceAdd, Nat.reduceLeDiff, Nat.reduceLT, ↓reduceIte, reduceCtorEq, Int.reduceLT, Int.reduceToNat, Int.reduceEq, Int.reduceBEq, Int.reduceBNe, Nat.reduceBEq]) ?_
          simp only [go_sem, Nat.reduceEqDiff, Nat.reduceAdd, Nat.reduceLeDiff, Nat.reduceLT, ↓reduceIte, reduceCtorEq, Int.reduceLT, Int.reduceToNat, Int.reduceEq, Int.reduceBEq, Int.reduceBNe, Nat.reduceBEq, f1, f3, f4, f5, n1, n2, hbk]
          refine pcall hF (by simp only [go_sem, Nat.reduceEqDiff, Nat.reduceAdd, Nat.reduceLeDiff, Nat.reduceLT, ↓reduceIte, reduceCtorEq, Int.reduceLT, Int.reduceToNat, Int.reduceEq, Int.reduceBEq, Int.reduceBNe, Nat.reduceBEq]) ?_
          simp only [go_sem, Nat.reduceEqDiff, Nat.reduceAdd, Nat.reduceLeDiff, Nat.reduceLT, ↓reduceIte, reduceCtorEq, Int.reduceLT, Int.reduceToNat, Int.reduceEq, Int.reduceBEq, Int.reduceBNe, Nat.reduceBEq, f1, f3, f4, f5, n1, n2, hbk, hx]
          refine pcall hM (by simp only [go_sem, Nat.reduceEqDiff, Nat.reduceAdd, Nat.reduceLeDiff, Nat.reduceLT, ↓reduceIte, reduceCtorEq, Int.reduceLT, Int.reduceToNat, Int.reduceEq, Int.reduceBEq, Int.reduceBNe, Nat.reduceBEq]) ?_
          simp only [go_sem, Nat.reduceEqDiff, Nat.reduceAdd, Nat.reduceLeDiff, Nat.reduceLT, ↓reduceIte, reduceCtorEq, Int.reduceLT, Int.reduceToNat, Int.reduceEq, Int.reduceBEq, Int.reduceBNe, Nat.reduceBEq, f1, f3, f4, f5, n1, n2, hbk, hx]
          refine pcall hB (by simp only [go_sem, Nat.reduceEqDiff, Nat.reduceAdd, Nat.reduceLeDiff, Nat.reduceLT, ↓reduceIte, reduceCtorEq, Int.reduceLT, Int.reduceToNat, Int.reduceEq, Int.reduceBEq, Int.reduceBNe, Nat.reduceBEq]) ?_
          cases fl with
          | sh => exact absurd rfl hfl
          | own =>
            simp only [go_sem, Nat.reduceEqDiff, Nat.reduceAdd, Nat.reduceLeDiff, Nat.reduceLT, ↓reduceIte, reduceCtorEq, Int.reduceLT, Int.reduceToNat, Int.reduceEq, Int.reduceBEq, Int.reduceBNe, Nat.reduceBEq, f1, f3, f4, f5, n1, n2, hbk, hx]
            refine pcall hNe (by simp only [go_sem, Nat.reduceEqDiff, Nat.reduceAdd, Nat.reduceLeDiff, Nat.reduceLT, ↓reduceIte, reduceCtorEq, Int.reduceLT, Int.reduceToNat, Int.reduceEq, Int.reduceBEq, Int.reduceBNe, Nat.reduceBEq]) ?_
            simp only [go_sem, Nat.reduceEqDiff, Nat.reduceAdd, Nat.reduceLeDiff, Nat.reduceLT, ↓reduceIte, reduceCtorEq, Int.reduceLT, Int.reduceToNat, Int.reduceEq, Int.reduceBEq, Int.reduceBNe, Nat.reduceBEq, f1, f3, f4, f5, n1, n2, hbk, hx, hC1, hC2, hC3, hne3, apFl_own]
            refine pcallD (fn_num20 0) (by simp only [go_sem, Nat.reduceEqDiff, Nat.reduceAdd, Nat.reduceLeDiff, Nat.reduceLT, ↓reduceIte, reduceCtorEq, Int.reduceLT, Int.reduceToNat, Int.reduceEq, Int.reduceBEq, Int.reduceBNe, Nat.reduceBEq]) ?_
            simp only [go_sem, Nat.reduceEqDiff, Nat.reduceAdd, Nat.reduceLeDiff, Nat.reduceLT, ↓reduceIte, reduceCtorEq, Int.reduceLT, Int.reduceToNat, Int.reduceEq, Int.reduceBEq, Int.reduceBNe, Nat.reduceBEq, f1, f3, f4, f5, n1, n2, hbk, hx]
            refine pcallD hE (by simp only [go_sem, Nat.reduceEqDiff, Nat.reduceAdd, Nat.reduceLeDiff, Nat.reduceLT, ↓reduceIte, reduceCtorEq, Int.reduceLT, Int.reduceToNat, Int.reduceEq, Int.reduceBEq, Int.reduceBNe, Nat.reduceBEq]) ?_
            simp only [go_sem, Nat.reduceEqDiff, Nat.reduceAdd, Nat.reduceLeDiff, Nat.reduceLT, ↓reduceIte, reduceCtorEq, Int.reduceLT, Int.reduceToNat, Int.reduceEq, Int.reduceBEq, Int.reduceBNe, Nat.reduceBEq, f1, f3, f4, f5, hw]
            exact ⟨k - 1, by omega, i + 1, .own, tx ++ nr, all ++ S, by omega, by omega, by simp, by simp; omega, htl2, by simp; omega, by simp, rfl, rfl, by omega, by simp [n1, hbk, askF], by simp [shrink_upd, hsg, hsn]⟩
          | full =>
            simp only [go_sem, Nat.reduceEqDiff, Nat.reduceAdd, Nat.reduceLeDiff, Nat.reduceLT, ↓reduceIte, reduceCtorEq, Int.reduceLT, Int.reduceToNat, Int.reduceEq, Int.reduceBEq, Int.reduceBNe, Nat.reduceBEq, f1, f3, f4, f5, n1, n2, hbk, hx]
            refine pcall hNe (by simp only [go_sem, Nat.reduceEqDiff, Nat.reduceAdd, Nat.reduceLeDiff, Nat.reduceLT, ↓reduceIte, reduceCtorEq, Int.reduceLT, Int.reduceToNat, Int.reduceEq, Int.reduceBEq, Int.reduceBNe, Nat.reduceBEq]) ?_
            simp only [go_sem, Nat.reduceEqDiff, Nat.reduceAdd, Nat.reduceLeDiff, Nat.reduceLT, ↓reduceIte, reduceCtorEq, Int.reduceLT, Int.reduceToNat, Int.reduceEq, Int.reduceBEq, Int.reduceBNe, Nat.reduceBEq, f1, f3, f4, f5, n1, n2, hbk, hx, hC1, hC2, hC3, hne3, apFl_own]
            refine pcallD (fn_num20 0) (by simp only [go_sem, Nat.reduceEqDiff, Nat.reduceAdd, Nat.reduceLeDiff, Nat.reduceLT, ↓reduceIte, reduceCtorEq, Int.reduceLT, Int.reduceToNat, Int.reduceEq, Int.reduceBEq, Int.reduceBNe, Nat.reduceBEq]) ?_
            simp only [go_sem, Nat.reduceEqDiff, Nat.reduceAdd, Nat.reduceLeDiff, Nat.reduceLT, ↓reduceIte, reduceCtorEq, Int.reduceLT, Int.reduceToNat, Int.reduceEq, Int.reduceBEq, Int.reduceBNe, Nat.reduceBEq, f1, f3, f4, f5, n1, n2, hbk, hx]
            refine pcallD hE (by simp only [go_sem, Nat.reduceEqDiff, Nat.reduceAdd, Nat.reduceLeDiff, Nat.reduceLT, ↓reduceIte, reduceCtorEq, Int.reduceLT, Int.reduceToNat, Int.reduceEq, Int.reduceBEq, Int.reduceBNe, Nat.reduceBEq]) ?_
            simp only [go_sem, Nat.reduceEqDiff, Nat.reduceAdd, Nat.reduceLeDiff, Nat.reduceLT, ↓reduceIte, reduceCtorEq, Int.reduceLT, Int.reduceToNat, Int.reduceEq, Int.reduceBEq, Int.reduceBNe, Nat.reduceBEq, f1, f3, f4, f5, hw]
            exact ⟨k - 1, by omega, i + 1, .own, tx ++ nr, all ++ S, by omega, by omega, by simp, by simp; omega, htl2, by simp; omega, by simp, rfl, rfl, by omega, by simp [n1, hbk, askF], by simp [shrink_upd, hsg, hsn]⟩
      · have h6' : decide ((i : Int) < 6) = false := decide_eq_false h6
        simp only [go_sem, Nat.reduceEqDiff, Nat.reduceAdd, Nat.reduceLeDiff, Nat.reduceLT, ↓reduceIte, reduceCtorEq, Int.reduceLT, Int.reduceToNat, Int.reduceEq, Int.reduceBEq, Int.reduceBNe, Nat.reduceBEq, f1, f3, f4, f5, hi', h6', hbk]
        have hNe := fn_near all ns.length (by omega) (by omega)
        have hnl := near_len all ns.length
        have hnm := near_mem all ns.length
        have hne3 := near_ne all ns.length
        generalize near all ns.length = nr at hNe hnl hnm hne3
        have hC1 : (tx.length + nr.length) * 16 ≤ 140737488355328 := by omega
        have hC2 : tx.length + nr.length ≤ 9223372036854775807 := by omega
        have htl2 : ∀ x ∈ tx ++ nr, x.length ≤ 1000000 := fun x hx => by
          rcases List.mem_append.1 hx with hx | hx
          · exact htl x hx
          · have := hnm x hx; omega
        cases fl with
        | sh => exact absurd rfl hfl
        | own =>
          simp only [go_sem, Nat.reduceEqDiff, Nat.reduceAdd, Nat.reduceLeDiff, Nat.reduceLT, ↓reduceIte, reduceCtorEq, Int.reduceLT, Int.reduceToNat, Int.reduceEq, Int.reduceBEq, Int.reduceBNe, Nat.reduceBEq, f1, f3, f4, f5, hbk]
          refine pcall hNe (by simp only [go_sem, Nat.reduceEqDiff, Nat.reduceAdd, Nat.reduceLeDiff, Nat.reduceLT, ↓reduceIte, reduceCtorEq, Int.reduceLT, Int.reduceToNat, Int.reduceEq, Int.reduceBEq, Int.reduceBNe, Nat.reduceBEq]) ?_
          simp only [go_sem, Nat.reduceEqDiff, Nat.reduceAdd, Nat.reduceLeDiff, Nat.reduceLT, ↓reduceIte, reduceCtorEq, Int.reduceLT, Int.reduceToNat, Int.reduceEq, Int.reduceBEq, Int.reduceBNe, Nat.reduceBEq, f1, f3, f4, f5, hC1, hC2, hne3, apFl_own]
          refine fn_frLoop h (tx ++ nr) (by simp; omega) htl2 (by simp [fr_apply]) (by simp [fr_apply]) (show h.n ≤ hp.n by omega) hsh ?_
          rintro ⟨f, hp⟩ hn1 hsh1
          simp only at hn1 hsh1
          simp only [go_sem, Nat.reduceEqDiff, Nat.reduceAdd, Nat.reduceLeDiff, Nat.reduceLT, ↓reduceIte, reduceCtorEq, Int.reduceLT, Int.reduceToNat, Int.reduceEq, Int.reduceBEq, Int.reduceBNe, Nat.reduceBEq]
          refine pcall fn_wakes20 (by simp only [go_sem, Nat.reduceEqDiff, Nat.reduceAdd, Nat.reduceLeDiff, Nat.reduceLT, ↓reduceIte, reduceCtorEq, Int.reduceLT, Int.reduceToNat, Int.reduceEq, Int.reduceBEq, Int.reduceBNe, Nat.reduceBEq]) ?_
          simp only [go_sem, Nat.reduceEqDiff, Nat.reduceAdd, Nat.reduceLeDiff, Nat.reduceLT, ↓reduceIte, reduceCtorEq, Int.reduceLT, Int.reduceToNat, Int.reduceEq, Int.reduceBEq, Int.reduceBNe, Nat.reduceBEq]
          exact hsh1
        | full =>
          simp only [go_sem, Nat.reduceEqDiff, Nat.reduceAdd, Nat.reduceLeDiff, Nat.reduceLT, ↓reduceIte, reduceCtorEq, Int.reduceLT, Int.reduceToNat, Int.reduceEq, Int.reduceBEq, Int.reduceBNe, Nat.reduceBEq, f1, f3, f4, f5, hbk]
          refine pcall hNe (by simp only [go_sem, Nat.reduceEqDiff, Nat.reduceAdd, Nat.reduceLeDiff, Nat.reduceLT, ↓reduceIte, reduceCtorEq, Int.reduceLT, Int.reduceToNat, Int.reduceEq, Int.reduceBEq, Int.reduceBNe, Nat.reduceBEq]) ?_
          simp only [go_sem, Nat.reduceEqDiff, Nat.reduceAdd, Nat.reduceLeDiff, Nat.reduceLT, ↓reduceIte, reduceCtorEq, Int.reduceLT, Int.reduceToNat, Int.reduceEq, Int.reduceBEq, Int.reduceBNe, Nat.reduceBEq, f1, f3, f4, f5, hC1, hC2, hne3, apFl_own]
          refine fn_frLoop h (tx ++ nr) (by simp; omega) htl2 (by simp [fr_apply]) (by simp [fr_apply]) (show h.n ≤ hp.n by omega) hsh ?_
          rintro ⟨f, hp⟩ hn1 hsh1
          simp only at hn1 hsh1
          simp only [go_sem, Nat.reduceEqDiff, Nat.reduceAdd, Nat.reduceLeDiff, Nat.reduceLT, ↓reduceIte, reduceCtorEq, Int.reduceLT, Int.reduceToNat, Int.reduceEq, Int.reduceBEq, Int.reduceBNe, Nat.reduceBEq]
          refine pcall fn_wakes20 (by simp only [go_sem, Nat.reduceEqDiff, Nat.reduceAdd, Nat.reduceLeDiff, Nat.reduceLT, ↓reduceIte, reduceCtorEq, Int.reduceLT, Int.reduceToNat, Int.reduceEq, Int.reduceBEq, Int.reduceBNe, Nat.reduceBEq]) ?_
          simp only [go_sem, Nat.reduceEqDiff, Nat.reduceAdd, Nat.reduceLeDiff, Nat.reduceLT, ↓reduceIte, reduceCtorEq, Int.reduceLT, Int.reduceToNat, Int.reduceEq, Int.reduceBEq, Int.reduceBNe, Nat.reduceBEq]
          exact hsh1
    · have hi' : decide ((i : Int) < (fs.length : Int)) = false := decide_eq_false (by omega)
      simp only [go_sem, Nat.reduceEqDiff, Nat.reduceAdd, Nat.reduceLeDiff, Nat.reduceLT, ↓reduceIte, reduceCtorEq, Int.reduceLT, Int.reduceToNat, Int.reduceEq, Int.reduceBEq, Int.reduceBNe, Nat.reduceBEq, f1, f3, f4, f5, hi', hbk]
      have hNe := fn_near all ns.length (by omega) (by omega)
      have hnl := near_len all ns.length
      have hnm := near_mem all ns.length
      have hne3 := near_ne all ns.length
      generalize near all ns.length = nr at hNe hnl hnm hne3
      have hC1 : (tx.length + nr.length) * 16 ≤ 140737488355328 := by omega
      have hC2 : tx.length + nr.length ≤ 9223372036854775807 := by omega
      have htl2 : ∀ x ∈ tx ++ nr, x.length ≤ 1000000 := fun x hx => by
        rcases List.mem_append.1 hx with hx | hx
        · exact htl x hx
        · have := hnm x hx; omega
      cases fl with
      | sh => exact absurd rfl hfl
      | own =>
        simp only [go_sem, Nat.reduceEqDiff, Nat.reduceAdd, Nat.reduceLeDiff, Nat.reduceLT, ↓reduceIte, reduceCtorEq, Int.reduceLT, Int.reduceToNat, Int.reduceEq, Int.reduceBEq, Int.reduceBNe, Nat.reduceBEq, f1, f3, f4, f5, hbk]
        refine pcall hNe (by simp only [go_sem, Nat.reduceEqDiff, Nat.reduceAdd, Nat.reduceLeDiff, Nat.reduceLT, ↓reduceIte, reduceCtorEq, Int.reduceLT, Int.reduceToNat, Int.reduceEq, Int.reduceBEq, Int.reduceBNe, Nat.reduceBEq]) ?_
        simp only [go_sem, Nat.reduceEqDiff, Nat.reduceAdd, Nat.reduceLeDiff, Nat.reduceLT, ↓reduceIte, reduceCtorEq, Int.reduceLT, Int.reduceToNat, Int.reduceEq, Int.reduceBEq, Int.reduceBNe, Nat.reduceBEq, f1, f3, f4, f5, hC1, hC2, hne3, apFl_own]
        refine fn_frLoop h (tx ++ nr) (by simp; omega) htl2 (by simp [fr_apply]) (by simp [fr_apply]) (show h.n ≤ hp.n by omega) hsh ?_
        rintro ⟨f, hp⟩ hn1 hsh1
        simp only at hn1 hsh1
        simp only [go_sem, Nat.reduceEqDiff, Nat.reduceAdd, Nat.reduceLeDiff, Nat.reduceLT, ↓reduceIte, reduceCtorEq, Int.reduceLT, Int.reduceToNat, Int.reduceEq, Int.reduceBEq, Int.reduceBNe, Nat.reduceBEq]
        refine pcall fn_wakes20 (by simp only [go_sem, Nat.reduceEqDiff, Nat.reduceAdd, Nat.reduceLeDiff, Nat.reduceLT, ↓reduceIte, reduceCtorEq, Int.reduceLT, Int.reduceToNat, Int.reduceEq, Int.reduceBEq, Int.reduceBNe, Nat.reduceBEq]) ?_
        simp only [go_sem, Nat.reduceEqDiff, Nat.reduceAdd, Nat.reduceLeDiff, Nat.reduceLT, ↓reduceIte, reduceCtorEq, Int.reduceLT, Int.reduceToNat, Int.reduceEq, Int.reduceBEq, Int.reduceBNe, Nat.reduceBEq]
        exact hsh1
      | full =>
        simp only [go_sem, Nat.reduceEqDiff, Nat.reduceAdd, Nat.reduceLeDiff, Nat.reduceLT, ↓reduceIte, reduceCtorEq, Int.reduceLT, Int.reduceToNat, Int.reduceEq, Int.reduceBEq, Int.reduceBNe, Nat.reduceBEq, f1, f3, f4, f5, hbk]
        refine pcall hNe (by simp only [go_sem, Nat.reduceEqDiff, Nat.reduceAdd, Nat.reduceLeDiff, Nat.reduceLT, ↓reduceIte, reduceCtorEq, Int.reduceLT, Int.reduceToNat, Int.reduceEq, Int.reduceBEq, Int.reduceBNe, Nat.reduceBEq]) ?_
        simp only [go_sem, Nat.reduceEqDiff, Nat.reduceAdd, Nat.reduceLeDiff, Nat.reduceLT, ↓reduceIte, reduceCtorEq, Int.reduceLT, Int.reduceToNat, Int.reduceEq, Int.reduceBEq, Int.reduceBNe, Nat.reduceBEq, f1, f3, f4, f5, hC1, hC2, hne3, apFl_own]
        refine fn_frLoop h (tx ++ nr) (by simp; omega) htl2 (by simp [fr_apply]) (by simp [fr_apply]) (show h.n ≤ hp.n by omega) hsh ?_
        rintro ⟨f, hp⟩ hn1 hsh1
        simp only at hn1 hsh1
        simp only [go_sem, Nat.reduceEqDiff, Nat.reduceAdd, Nat.reduceLeDiff, Nat.reduceLT, ↓reduceIte, reduceCtorEq, Int.reduceLT, Int.reduceToNat, Int.reduceEq, Int.reduceBEq, Int.reduceBNe, Nat.reduceBEq]
        refine pcall fn_wakes20 (by simp only [go_sem, Nat.reduceEqDiff, Nat.reduceAdd, Nat.reduceLeDiff, Nat.reduceLT, ↓reduceIte, reduceCtorEq, Int.reduceLT, Int.reduceToNat, Int.reduceEq, Int.reduceBEq, Int.reduceBNe, Nat.reduceBEq]) ?_
        simp only [go_sem, Nat.reduceEqDiff, Nat.reduceAdd, Nat.reduceLeDiff, Nat.reduceLT, ↓reduceIte, reduceCtorEq, Int.reduceLT, Int.reduceToNat, Int.reduceEq, Int.reduceBEq, Int.reduceBNe, Nat.reduceBEq]
        exact hsh1
  | full =>
    simp only [go_sem, Nat.reduceEqDiff, Nat.reduceAdd, Nat.reduceLeDiff, Nat.reduceLT, ↓reduceIte, reduceCtorEq, Int.reduceLT, Int.reduceToNat, Int.reduceEq, Int.reduceBEq, Int.reduceBNe, Nat.reduceBEq]
    refine cloop (fun k t => ∃ (i : Nat) (fl : Fl) (tx : List (List UInt8)) (all : List UInt8), i + k = fs.length ∧ i ≤ 6 ∧ fl ≠ .sh ∧ tx.length ≤ s.length + 7 * i ∧ (∀ x ∈ tx, x.length ≤ 1000000) ∧ all.length ≤ 480 * i ∧ t.fr 1 = .ptr h.n 0 ∧ t.fr 3 = .sl fl 1 (tx.map AV.str) ∧ t.fr 4 = .str all ∧ t.fr 5 = .int .i64 (i : Nat) ∧ h.n + 1 ≤ t.hp.n ∧ t.hp.bk h.n = askF l s ns fs ∧ Shrink h t.hp h) fs.length
      ⟨0, _, s, [], by simp, by omega, hfx, by simp, hsm, by simp, by simp [fr_apply, argsF], by simp [fr_apply, argsF], by simp [fr_apply, argsF], by simp [fr_apply, argsF], by simp, by simp [bk_apply, askF], by simpa [askF] using sh0⟩ ?_
    clear sh0 hfx
    rintro k ⟨f, hp⟩ ⟨i, fl, tx, all, hk, hi6, hfl, htx, htl, hall, f1, f3, f4, f5, hnn, hbk, hsh⟩
    simp only at f1 f3 f4 f5 hnn hbk hsh
    unfold askF at hbk
    by_cases hi : i < fs.length
    · have hi' : decide ((i : Int) < (fs.length : Int)) = true := decide_eq_true (by omega)
      by_cases h6 : (i : Int) < 6
      · have h6' : decide ((i : Int) < 6) = true := decide_eq_true h6
        have hw : IntKind.i64.wrap ((i : Int) + 1) = ((i + 1 : Nat) : Int) := by rw [wrap64] <;> omega
        have hx : (fs.map Fr.av)[i]? = some fs[i].av := by simp [hi]
        have hto := hfo _ (List.getElem_mem hi)
        rw [Fr.frA'] at hx
        generalize fs[i] = g at hx hto
        obtain ⟨gk, gt, ga, gb, gn⟩ := g
        simp only at hx hto
        have hC := fn_CopyFrame gk gt ga gb gn hto.2
        have hF := fn_wFrameF gk gt ga gb gn hto.1
        have hM := fn_rFrame gk gt ga gb gn hto.1
        have hE := fn_EqFrameFA gk gt ga gb gn hto.1
        have n1 : ¬ h.n = hp.n := by omega
        have n2 : ¬ hp.n = h.n := by omega
        have hsn : h.n ≤ hp.n := by omega
        have hsg := shrink_grow (n := hp.n + 1) hsh (by omega)
        cases hm : okFr gk gt ga gb gn with
        | false =>
          rw [hm] at hF hM
          simp only [Bool.false_eq_true, if_false] at hF
          obtain ⟨tk, tn, tv, tl⟩ := gt
          unfold frA at hC hM hE hx
          unfold frF at hC hF hE
          simp only at hC hF hM hE hx
          simp only [go_sem, Nat.reduceEqDiff, Nat.reduceAdd, Nat.reduceLeDiff, Nat.reduceLT, ↓reduceIte, reduceCtorEq, Int.reduceLT, Int.reduceToNat, Int.reduceEq, Int.reduceBEq, Int.reduceBNe, Nat.reduceBEq, f1, f3, f4, f5, hi', h6', hbk, hx]
          refine pcall hC (by simp only [go_sem, Nat.reduceEqDiff, Nat.reduceAdd, Nat.reduceLeDiff, Nat.reduceLT, ↓reduceIte, reduceCtorEq, Int.reduceLT, Int.reduceToNat, Int.reduceEq, Int.reduceBEq, Int.reduceBNe, Nat.reduceBEq]) ?_
          simp only [go_sem, Nat.reduceEqDiff, Nat.reduceAdd, Nat.reduceLeDiff, Nat.reduceLT, ↓reduceIte, reduceCtorEq, Int.reduceLT, Int.reduceToNat, Int.reduceEq, Int.reduceBEq, Int.reduceBNe, Nat.reduceBEq, f1, f3, f4, f5, n1, n2, hbk]
          refine pcall hF (by simp only [go_sem, Nat.reduceEqDiff, Nat.reduceAdd, Nat.reduceLeDiff, Nat.reduceLT, ↓reduceIte, reduceCtorEq, Int.reduceLT, Int.reduceToNat, Int.reduceEq, Int.reduceBEq, Int.reduceBNe, Nat.reduceBEq]) ?_
          simp only [go_sem, Nat.reduceEqDiff, Nat.reduceAdd, Nat.reduceLeDiff, Nat.reduceLT, ↓reduceIte, reduceCtorEq, Int.reduceLT, Int.reduceToNat, Int.reduceEq, Int.reduceBEq, Int.reduceBNe, Nat.reduceBEq, f1, f3, f4, f5, n1, n2, hbk, hx]
          refine pcall hM (by simp only [go_sem, Nat.reduceEqDiff, Nat.reduceAdd, Nat.reduceLeDiff, Nat.reduceLT, ↓reduceIte, reduceCtorEq, Int.reduceLT, Int.reduceToNat, Int.reduceEq, Int.reduceBEq, Int.reduceBNe, Nat.reduceBEq]) ?_
          simp only [go_sem, Nat.reduceEqDiff, Nat.reduceAdd, Nat.reduceLeDiff, Nat.reduceLT, ↓reduceIte, reduceCtorEq, Int.reduceLT, Int.reduceToNat, Int.reduceEq, Int.reduceBEq, Int.reduceBNe, Nat.reduceBEq, f1, f3, f4, f5, n1, n2, hbk, hx]
          refine pcallD (fn_num20 1) (by simp only [go_sem, Nat.reduceEqDiff, Nat.reduceAdd, Nat.reduceLeDiff, Nat.reduceLT, ↓reduceIte, reduceCtorEq, Int.reduceLT, Int.reduceToNat, Int.reduceEq, Int.reduceBEq, Int.reduceBNe, Nat.reduceBEq]) ?_
          simp only [go_sem, Nat.reduceEqDiff, Nat.reduceAdd, Nat.reduceLeDiff, Nat.reduceLT, ↓reduceIte, reduceCtorEq, Int.reduceLT, Int.reduceToNat, Int.reduceEq, Int.reduceBEq, Int.reduceBNe, Nat.reduceBEq, f1, f3, f4, f5, n1, n2, hbk, hx]
          refine pcallD hE (by simp only [go_sem, Nat.reduceEqDiff, Nat.reduceAdd, Nat.reduceLeDiff, Nat.reduceLT, ↓reduceIte, reduceCtorEq, Int.reduceLT, Int.reduceToNat, Int.reduceEq, Int.reduceBEq, Int.reduceBNe, Nat.reduceBEq]) ?_
          simp only [go_sem, Nat.reduceEqDiff, Nat.reduceAdd, Nat.reduceLeDiff, Nat.reduceLT, ↓reduceIte, reduceCtorEq, Int.reduceLT, Int.reduceToNat, Int.reduceEq, Int.reduceBEq, Int.reduceBNe, Nat.reduceBEq, f1, f3, f4, f5, hw]
          exact ⟨k - 1, by omega, i + 1, fl, tx, all, by omega, by omega, hfl, by omega, htl, by omega, rfl, rfl, rfl, by omega, by simp [n1, hbk, askF], by simp [shrink_upd, hsg, hsn]⟩
        | true =>
          have hS := frS_len' hm
          have hB := fn_rBytes gk gt ga gb gn hto.1 hm
          rw [hm] at hF hM
          simp only [if_true] at hF
          generalize frS gk gt ga gb gn = S at hF hB hS
          have hNe := fn_near S i (by omega) (by omega)
          have hnl := near_len S i
          have hnm := near_mem S i
          have hne3 := near_ne S i
          generalize near S i = nr at hNe hnl hnm hne3
          have hC1 : (tx.length + nr.length) * 16 ≤ 140737488355328 := by omega
          have hC2 : tx.length + nr.length ≤ 9223372036854775807 := by omega
          have hC3 : all.length + S.length ≤ 9223372036854775807 := by omega
          have htl2 : ∀ x ∈ tx ++ nr, x.length ≤ 1000000 := fun x hx => by
            rcases List.mem_append.1 hx with hx | hx
            · exact htl x hx
            · have := hnm x hx; omega
          obtain ⟨tk, tn, tv, tl⟩ := gt
          unfold frA at hC hM hE hx hB
          unfold frF at hC hF hE
          simp only at hC hF hM hE hx hB
          simp only [go_sem, Nat.reduceEqDiff, Nat.reduceAdd, Nat.reduceLeDiff, Nat.reduceLT, ↓reduceIte, reduceCtorEq, Int.reduceLT, Int.reduceToNat, Int.reduceEq, Int.reduceBEq, Int.reduceBNe, Nat.reduceBEq, f1, f3, f4, f5, hi', h6', hbk, hx]
          refine pcall hC (by simp only [go_sem, Nat.reduceEqDiff, Nat.reduceAdd, Nat.reduceLeDiff, Nat.reduceLT, ↓reduceIte, reduceCtorEq, Int.reduceLT, Int.reduceToNat, Int.reduceEq, Int.reduceBEq, Int.reduceBNe, Nat.reduceBEq]) ?_
          simp only [go_sem, Nat.reduceEqDiff, Nat.reduceAdd, Nat.reduceLeDiff, Nat.reduceLT, ↓reduceIte, reduceCtorEq, Int.reduceLT, Int.reduceToNat, Int.reduceEq, Int.reduceBEq, Int.reduceBNe, Nat.reduceBEq, f1, f3, f4, f5, n1, n2, hbk]
          refine pcall hF (by simp only [go_sem, Nat.reduceEqDiff, Nat.reduceAdd, Nat.reduceLeDiff, Nat.reduceLT, ↓reduceIte, reduceCtorEq, Int.reduceLT, Int.reduceToNat, Int.reduceEq, Int.reduceBEq, Int.reduceBNe, Nat.reduceBEq]) ?_
          simp only [go_sem, Nat.reduceEqDiff, Nat.reduceAdd, Nat.reduceLeDiff, Nat.reduceLT, ↓reduceIte, reduceCtorEq, Int.reduceLT, Int.reduceToNat, Int.reduceEq, Int.reduceBEq, Int.reduceBNe, Nat.reduceBEq, f1, f3, f4, f5, n1, n2, hbk, hx]
          refine pcall hM (by simp only [go_sem, Nat.reduceEqDiff, Nat.reduceAdd, Nat.reduceLeDiff, Nat.reduceLT, ↓reduceIte, reduceCtorEq, Int.reduceLT, Int.reduceToNat, Int.reduceEq, Int.reduceBEq, Int.reduceBNe, Nat.reduceBEq]) ?_
          simp only [go_sem, Nat.reduceEqDiff, Nat.reduceAdd, Nat.reduceLeDiff, Nat.reduceLT, ↓reduceIte, reduceCtorEq, Int.reduceLT, Int.reduceToNat, Int.reduceEq, Int.reduceBEq, Int.reduceBNe, Nat.reduceBEq, f1, f3, f4, f5, n1, n2, hbk, hx]
          refine pcall hB (by simp only [go_sem, Nat.reduceEqDiff, Nat.reduceAdd, Nat.reduceLeDiff, Nat.reduceLT, ↓reduceIte, reduceCtorEq, Int.reduceLT, Int.reduceToNat, Int.reduceEq, Int.reduceBEq, Int.reduceBNe, Nat.reduceBEq]) ?_
          cases fl with
          | sh => exact absurd rfl hfl
          | own =>
            simp only [go_sem, Nat.reduceEqDiff, Nat.reduceAdd, Nat.reduceLeDiff, Nat.reduceLT, ↓reduceIte, reduceCtorEq, Int.reduceLT, Int.reduceToNat, Int.reduceEq, Int.reduceBEq, Int.reduceBNe, Nat.reduceBEq, f1, f3, f4, f5, n1, n2, hbk, hx]
            refine pcall hNe (by simp only [go_sem, Nat.reduceEqDiff, Nat.reduceAdd, Nat.reduceLeDiff, Nat.reduceLT, ↓reduceIte, reduceCtorEq, Int.reduceLT, Int.reduceToNat, Int.reduceEq, Int.reduceBEq, Int.reduceBNe, Nat.reduceBEq]) ?_
            simp only [go_sem, Nat.reduceEqDiff, Nat.reduceAdd, Nat.reduceLeDiff, Nat.reduceLT, ↓reduceIte, reduceCtorEq, Int.reduceLT, Int.reduceToNat, Int.reduceEq, Int.reduceBEq, Int.reduceBNe, Nat.reduceBEq, f1, f3, f4, f5, n1, n2, hbk, hx, hC1, hC2, hC3, hne3, apFl_own]
            refine pcallD (fn_num20 0) (by simp only [go_sem, Nat.reduceEqDiff, Nat.reduceAdd, Nat.reduceLeDiff, Nat.reduceLT, ↓reduceIte, reduceCtorEq, Int.reduceLT, Int.reduceToNat, Int.reduceEq, Int.reduceBEq, Int.reduceBNe, Nat.reduceBEq]) ?_
            simp only [go_sem, Nat.reduceEqDiff, Nat.reduceAdd, Nat.reduceLeDiff, Nat.reduceLT, ↓reduceIte, reduceCtorEq, Int.reduceLT, Int.reduceToNat, Int.reduceEq, Int.reduceBEq, Int.reduceBNe, Nat.reduceBEq, f1, f3, f4, f5, n1, n2, hbk, hx]
            refine pcallD hE (by simp only [go_sem, Nat.reduceEqDiff, Nat.reduceAdd, Nat.reduceLeDiff, Nat.reduceLT, ↓reduceIte, reduceCtorEq, Int.reduceLT, Int.reduceToNat, Int.reduceEq, Int.reduceBEq, Int.reduceBNe, Nat.reduceBEq]) ?_
            simp only [go_sem, Nat.reduceEqDiff, Nat.reduceAdd, Nat.reduceLeDiff, Nat.reduceLT, ↓reduceIte, reduceCtorEq, Int.reduceLT, Int.reduceToNat, Int.reduceEq, Int.reduceBEq, Int.reduceBNe, Nat.reduceBEq, f1, f3, f4, f5, hw]
            exact ⟨k - 1, by omega, i + 1, .own, tx ++ nr, all ++ S, by omega, by omega, by simp, by simp; omega, htl2, by simp; omega, by simp, rfl, rfl, by omega, by simp [n1, hbk, askF], by simp [shrink_upd, hsg, hsn]⟩
          | full =>
            simp only [go_sem, Nat.reduceEqDiff, Nat.reduceAdd, Nat.reduceLeDiff, Nat.reduceLT, ↓reduceIte, reduceCtorEq, Int.reduceLT, Int.reduceToNat, Int.reduceEq, Int.reduceBEq, Int.reduceBNe, Nat.reduceBEq, f1, f3, f4, f5, n1, n2, hbk, hx]
            refine pcall hNe (by simp only [go_sem, Nat.reduceEqDiff, Nat.reduceAdd, Nat.reduceLeDiff, Nat.reduceLT, ↓reduceIte, reduceCtorEq, Int.reduceLT, Int.reduceToNat, Int.reduceEq, Int.reduceBEq, Int.reduceBNe, Nat.reduceBEq]) ?_
            simp only [go_sem, Nat.reduceEqDiff, Nat.reduceAdd, Nat.reduceLeDiff, Nat.reduceLT, ↓reduceIte, reduceCtorEq, Int.reduceLT, Int.reduceToNat, Int.reduceEq, Int.reduceBEq, Int.reduceBNe, Nat.reduceBEq, f1, f3, f4, f5, n1, n2, hbk, hx, hC1, hC2, hC3, hne3, apFl_own]
            refine pcallD (fn_num20 0) (by simp only [go_sem, Nat.reduceEqDiff, Nat.reduceAdd, Nat.reduceLeDiff, Nat.reduceLT, ↓reduceIte, reduceCtorEq, Int.reduceLT, Int.reduceToNat, Int.reduceEq, Int.reduceBEq, Int.reduceBNe, Nat.reduceBEq]) ?_
            simp only [go_sem, Nat.reduceEqDiff, Nat.reduceAdd, Nat.reduceLeDiff, Nat.reduceLT, ↓reduceIte, reduceCtorEq, Int.reduceLT, Int.reduceToNat, Int.reduceEq, Int.reduceBEq, Int.reduceBNe, Nat.reduceBEq, f1, f3, f4, f5, n1, n2, hbk, hx]
            refine pcallD hE (by simp only [go_sem, Nat.reduceEqDiff, Nat.reduceAdd, Nat.reduceLeDiff, Nat.reduceLT, ↓reduceIte, reduceCtorEq, Int.reduceLT, Int.reduceToNat, Int.reduceEq, Int.reduceBEq, Int.reduceBNe, Nat.reduceBEq]) ?_
            simp only [go_sem, Nat.reduceEqDiff, Nat.reduceAdd, Nat.reduceLeDiff, Nat.reduceLT, ↓reduceIte, reduceCtorEq, Int.reduceLT, Int.reduceToNat, Int.reduceEq, Int.reduceBEq, Int.reduceBNe, Nat.reduceBEq, f1, f3, f4, f5, hw]
            exact ⟨k - 1, by omega, i + 1, .own, tx ++ nr, all ++ S, by omega, by omega, by simp, by simp; omega, htl2, by simp; omega, by simp, rfl, rfl, by omega, by simp [n1, hbk, askF], by simp [shrink_upd, hsg, hsn]⟩
      · have h6' : decide ((i : Int) < 6) = false := decide_eq_false h6
        simp only [go_sem, Nat.reduceEqDiff, Nat.reduceAdd, Nat.reduceLeDiff, Nat.reduceLT, ↓reduceIte, reduceCtorEq, Int.reduceLT, Int.reduceToNat, Int.reduceEq, Int.reduceBEq, Int.reduceBNe, Nat.reduceBEq, f1, f3, f4, f5, hi', h6', hbk]
        have hNe := fn_near all ns.length (by omega) (by omega)
        have hnl := near_len all ns.length
        have hnm := near_mem all ns.length
        have hne3 := near_ne all ns.length
        generalize near all ns.length = nr at hNe hnl hnm hne3
        have hC1 : (tx.length + nr.length) * 16 ≤ 140737488355328 := by omega
        have hC2 : tx.length + nr.length ≤ 9223372036854775807 := by omega
        have htl2 : ∀ x ∈ tx ++ nr, x.length ≤ 1000000 := fun x hx => by
          rcases List.mem_append.1 hx with hx | hx
          · exact htl x hx
          · have := hnm x hx; omega
        cases fl with
        | sh => exact absurd rfl hfl
        | own =>
          simp only [go_sem, Nat.reduceEqDiff, Nat.reduceAdd, Nat.reduceLeDiff, Nat.reduceLT, ↓reduceIte, reduceCtorEq, Int.reduceLT, Int.reduceToNat, Int.reduceEq, Int.reduceBEq, Int.reduceBNe, Nat.reduceBEq, f1, f3, f4, f5, hbk]
          refine pcall hNe (by simp only [go_sem, Nat.reduceEqDiff, Nat.reduceAdd, Nat.reduceLeDiff, Nat.reduceLT, ↓reduceIte, reduceCtorEq, Int.reduceLT, Int.reduceToNat, Int.reduceEq, Int.reduceBEq, Int.reduceBNe, Nat.reduceBEq]) ?_
          simp only [go_sem, Nat.reduceEqDiff, Nat.reduceAdd, Nat.reduceLeDiff, Nat.reduceLT, ↓reduceIte, reduceCtorEq, Int.reduceLT, Int.reduceToNat, Int.reduceEq, Int.reduceBEq, Int.reduceBNe, Nat.reduceBEq, f1, f3, f4, f5, hC1, hC2, hne3, apFl_own]
          refine fn_frLoop h (tx ++ nr) (by simp; omega) htl2 (by simp [fr_apply]) (by simp [fr_apply]) (show h.n ≤ hp.n by omega) hsh ?_
          rintro ⟨f, hp⟩ hn1 hsh1
          simp only at hn1 hsh1
          simp only [go_sem, Nat.reduceEqDiff, Nat.reduceAdd, Nat.reduceLeDiff, Nat.reduceLT, ↓reduceIte, reduceCtorEq, Int.reduceLT, Int.reduceToNat, Int.reduceEq, Int.reduceBEq, Int.reduceBNe, Nat.reduceBEq]
          refine pcall fn_wakes20 (by simp only [go_sem, Nat.reduceEqDiff, Nat.reduceAdd, Nat.reduceLeDiff, Nat.reduceLT, ↓reduceIte, reduceCtorEq, Int.reduceLT, Int.reduceToNat, Int.reduceEq, Int.reduceBEq, Int.reduceBNe, Nat.reduceBEq]) ?_
          simp only [go_sem, Nat.reduceEqDiff, Nat.reduceAdd, Nat.reduceLeDiff, Nat.reduceLT, ↓reduceIte, reduceCtorEq, Int.reduceLT, Int.reduceToNat, Int.reduceEq, Int.reduceBEq, Int.reduceBNe, Nat.reduceBEq]
          exact hsh1
        | full =>
          simp only [go_sem, Nat.reduceEqDiff, Nat.reduceAdd, Nat.reduceLeDiff, Nat.reduceLT, ↓reduceIte, reduceCtorEq, Int.reduceLT, Int.reduceToNat, Int.reduceEq, Int.reduceBEq, Int.reduceBNe, Nat.reduceBEq, f1, f3, f4, f5, hbk]
          refine pcall hNe (by simp only [go_sem, Nat.reduceEqDiff, Nat.reduceAdd, Nat.reduceLeDiff, Nat.reduceLT, ↓reduceIte, reduceCtorEq, Int.reduceLT, Int.reduceToNat, Int.reduceEq, Int.reduceBEq, Int.reduceBNe, Nat.reduceBEq]) ?_
          simp only [go_sem, Nat.reduceEqDiff, Nat.reduceAdd, Nat.reduceLeDiff, Nat.reduceLT, ↓reduceIte, reduceCtorEq, Int.reduceLT, Int.reduceToNat, Int.reduceEq, Int.reduceBEq, Int.reduceBNe, Nat.reduceBEq, f1, f3, f4, f5, hC1, hC2, hne3, apFl_own]
          refine fn_frLoop h (tx ++ nr) (by simp; omega) htl2 (by simp [fr_apply]) (by simp [fr_apply]) (show h.n ≤ hp.n by omega) hsh ?_
          rintro ⟨f, hp⟩ hn1 hsh1
          simp only at hn1 hsh1
          simp only [go_sem, Nat.reduceEqDiff, Nat.reduceAdd, Nat.reduceLeDiff, Nat.reduceLT, ↓reduceIte, reduceCtorEq, Int.reduceLT, Int.reduceToNat, Int.reduceEq, Int.reduceBEq, Int.reduceBNe, Nat.reduceBEq]
          refine pcall fn_wakes20 (by simp only [go_sem, Nat.reduceEqDiff, Nat.reduceAdd, Nat.reduceLeDiff, Nat.reduceLT, ↓reduceIte, reduceCtorEq, Int.reduceLT, Int.reduceToNat, Int.reduceEq, Int.reduceBEq, Int.reduceBNe, Nat.reduceBEq]) ?_
          simp only [go_sem, Nat.reduceEqDiff, Nat.reduceAdd, Nat.reduceLeDiff, Nat.reduceLT, ↓reduceIte, reduceCtorEq, Int.reduceLT, Int.reduceToNat, Int.reduceEq, Int.reduceBEq, Int.reduceBNe, Nat.reduceBEq]
          exact hsh1
    · have hi' : decide ((i : Int) < (fs.length : Int)) = false := decide_eq_false (by omega)
      simp only [go_sem, Nat.reduceEqDiff, Nat.reduceAdd, Nat.reduceLeDiff, Nat.reduceLT, ↓reduceIte, reduceCtorEq, Int.reduceLT, Int.reduceToNat, Int.reduceEq, Int.reduceBEq, Int.reduceBNe, Nat.reduceBEq, f1, f3, f4, f5, hi', hbk]
      have hNe := fn_near all ns.length (by omega) (by omega)
      have hnl := near_len all ns.length
      have hnm := near_mem all ns.length
      have hne3 := near_ne all ns.length
      generalize near all ns.length = nr at hNe hnl hnm hne3
      have hC1 : (tx.length + nr.length) * 16 ≤ 140737488355328 := by omega
      have hC2 : tx.length + nr.length ≤ 9223372036854775807 := by omega
      have htl2 : ∀ x ∈ tx ++ nr, x.length ≤ 1000000 := fun x hx => by
        rcases List.mem_append.1 hx with hx | hx
        · exact htl x hx
        · have := hnm x hx; omega
      cases fl with
      | sh => exact absurd rfl hfl
      | own =>
        simp only [go_sem, Nat.reduceEqDiff, Nat.reduceAdd, Nat.reduceLeDiff, Nat.reduceLT, ↓reduceIte, reduceCtorEq, Int.reduceLT, Int.reduceToNat, Int.reduceEq, Int.reduceBEq, Int.reduceBNe, Nat.reduceBEq, f1, f3, f4, f5, hbk]
        refine pcall hNe (by simp only [go_sem, Nat.reduceEqDiff, Nat.reduceAdd, Nat.reduceLeDiff, Nat.reduceLT, ↓reduceIte, reduceCtorEq, Int.reduceLT, Int.reduceToNat, Int.reduceEq, Int.reduceBEq, Int.reduceBNe, Nat.reduceBEq]) ?_
        simp only [go_sem, Nat.reduceEqDiff, Nat.reduceAdd, Nat.reduceLeDiff, Nat.reduceLT, ↓reduceIte, reduceCtorEq, Int.reduceLT, Int.reduceToNat, Int.reduceEq, Int.reduceBEq, Int.reduceBNe, Nat.reduceBEq, f1, f3, f4, f5, hC1, hC2, hne3, apFl_own]
        refine fn_frLoop h (tx ++ nr) (by simp; omega) htl2 (by simp [fr_apply]) (by simp [fr_apply]) (show h.n ≤ hp.n by omega) hsh ?_
        rintro ⟨f, hp⟩ hn1 hsh1
        simp only at hn1 hsh1
        simp only [go_sem, Nat.reduceEqDiff, Nat.reduceAdd, Nat.reduceLeDiff, Nat.reduceLT, ↓reduceIte, reduceCtorEq, Int.reduceLT, Int.reduceToNat, Int.reduceEq, Int.reduceBEq, Int.reduceBNe, Nat.reduceBEq]
        refine pcall fn_wakes20 (by simp only [go_sem, Nat.reduceEqDiff, Nat.reduceAdd, Nat.reduceLeDiff, Nat.reduceLT, ↓reduceIte, reduceCtorEq, Int.reduceLT, Int.reduceToNat, Int.reduceEq, Int.reduceBEq, Int.reduceBNe, Nat.reduceBEq]) ?_
        simp only [go_sem, Nat.reduceEqDiff, Nat.reduceAdd, Nat.reduceLeDiff, Nat.reduceLT, ↓reduceIte, reduceCtorEq, Int.reduceLT, Int.reduceToNat, Int.reduceEq, Int.reduceBEq, Int.reduceBNe, Nat.reduceBEq]
        exact hsh1
      | full =>
        simp only [go_sem, Nat.reduceEqDiff, Nat.reduceAdd, Nat.reduceLeDiff, Nat.reduceLT, ↓reduceIte, reduceCtorEq, Int.reduceLT, Int.reduceToNat, Int.reduceEq, Int.reduceBEq, Int.reduceBNe, Nat.reduceBEq, f1, f3, f4, f5, hbk]
        refine pcall hNe (by simp only [go_sem, Nat.reduceEqDiff, Nat.reduceAdd, Nat.reduceLeDiff, Nat.reduceLT, ↓reduceIte, reduceCtorEq, Int.reduceLT, Int.reduceToNat, Int.reduceEq, Int.reduceBEq, Int.reduceBNe, Nat.reduceBEq]) ?_
        simp only [go_sem, Nat.reduceEqDiff, Nat.reduceAdd, Nat.reduceLeDiff, Nat.reduceLT, ↓reduceIte, reduceCtorEq, Int.reduceLT, Int.reduceToNat, Int.reduceEq, Int.reduceBEq, Int.reduceBNe, Nat.reduceBEq, f1, f3, f4, f5, hC1, hC2, hne3, apFl_own]
        refine fn_frLoop h (tx ++ nr) (by simp; omega) htl2 (by simp [fr_apply]) (by simp [fr_apply]) (show h.n ≤ hp.n by omega) hsh ?_
        rintro ⟨f, hp⟩ hn1 hsh1
        simp only at hn1 hsh1
        simp only [go_sem, Nat.reduceEqDiff, Nat.reduceAdd, Nat.reduceLeDiff, Nat.reduceLT, ↓reduceIte, reduceCtorEq, Int.reduceLT, Int.reduceToNat, Int.reduceEq, Int.reduceBEq, Int.reduceBNe, Nat.reduceBEq]
        refine pcall fn_wakes20 (by simp only [go_sem, Nat.reduceEqDiff, Nat.reduceAdd, Nat.reduceLeDiff, Nat.reduceLT, ↓reduceIte, reduceCtorEq, Int.reduceLT, Int.reduceToNat, Int.reduceEq, Int.reduceBEq, Int.reduceBNe, Nat.reduceBEq]) ?_
        simp only [go_sem, Nat.reduceEqDiff, Nat.reduceAdd, Nat.reduceLeDiff, Nat.reduceLT, ↓reduceIte, reduceCtorEq, Int.reduceLT, Int.reduceToNat, Int.reduceEq, Int.reduceBEq, Int.reduceBNe, Nat.reduceBEq]
        exact hsh1
end Go.Proofs.Ythaoooohomfkcaa.Ab
