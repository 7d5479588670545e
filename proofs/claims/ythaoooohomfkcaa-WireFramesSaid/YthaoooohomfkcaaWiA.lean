/- Whether a term is ground, a fact, a frame may be, and a frame's bytes, the document's way. No condition. A frame taken out of bytes, the document's way. No condition. -/
import Derived.Test.YthaoooohomfkcaaWhA
import Derived.Test.YthaoooohomfkcaaWq0
import Derived.Test.YthaoooohomfkcaaWnA
namespace Go.Proofs.Ythaoooohomfkcaa.Ab
set_option linter.unusedVariables false
set_option linter.unusedSimpArgs false
set_option maxRecDepth 10000
attribute [local go_sem] Nat.zero_le Bool.not_true Bool.not_false Bool.false_eq_true if_false if_true forall_const true_and and_true List.map Option.map Bool.and_self Bool.and_true Bool.true_and Bool.false_and Bool.and_false List.getElem?_cons_zero List.getElem?_nil List.getElem?_cons_succ Int.natCast_nonneg Int.toNat_natCast List.length_map List.length_cons List.length_nil Nat.zero_add Nat.le_refl List.drop_zero List.drop_succ_cons List.take_succ_cons List.take_zero List.take_nil ne_eq not_true_eq_false not_false_eq_true upd_same Nat.add_assoc Nat.left_eq_add Nat.add_eq_left Nat.add_left_cancel_iff Nat.succ_ne_self Nat.one_ne_zero Nat.add_zero Nat.le_add_right ite_self List.set_cons_zero List.set_cons_succ List.all_cons List.all_nil bne_self_eq_false List.isEmpty_cons Int.cast_ofNat_Int Nat.mul_one List.nil_append or_self or_true true_or List.cons_append List.append_nil Option.none_beq_some Option.some_beq_some beq_self_eq_true
theorem c114 : compF Try.prog ow Try.f114 = (some (18, ([(.t 2)], (.seq (.ops [(none, (.box 1 (.t 0))), (none, (.set 2 (.bool false)))]) (.seq (.ops [(none, (.fa (some 3) (.t 1) 0)), (none, (.ld (some 4) (.t 3) (.one none))), (none, (.bin (some 5) .geq (.t 4) (.k (.int .i64 (-1073741824))) false false)), (none, (.cp 6 5)), ((some (6, true)), (.fa (some 7) (.t 1) 0)), ((some (6, true)), (.ld (some 8) (.t 7) (.one none))), ((some (6, true)), (.fa (some 9) (.t 1) 1)), ((some (6, true)), (.ld (some 10) (.t 9) (.one none))), ((some (6, true)), (.bin (some 11) .leq (.t 8) (.t 10) false false)), (none, (.pick (some 12) (.t 6) (.t 11) (.k (.bool false)))), (none, (.cp 13 12)), ((some (13, true)), (.fa (some 14) (.t 1) 1)), ((some (13, true)), (.ld (some 15) (.t 14) (.one none))), ((some (13, true)), (.bin (some 16) .leq (.t 15) (.k (.int .i64 1073741824)) false false)), (none, (.pick (some 17) (.t 13) (.t 16) (.k (.bool false)))), (none, (.mv 2 17))]) .ret))))) := by kernel_rfl
theorem c98 : compF Try.prog ow Try.f98 = (some (22, ([(.t 2)], (.seq (.ops [(none, (.box 1 (.t 0))), (none, (.set 2 (.bool false)))]) (.seq (.ops [(none, (.fa (some 3) (.t 1) 0)), (none, (.fa (some 4) (.t 3) 0)), (none, (.ld (some 5) (.t 4) (.one none))), (none, (.bin (some 6) .eql (.t 5) (.k (.int .i64 3)) false false)), (none, (.cp 7 6)), ((some (7, true)), (.fa (some 8) (.t 1) 0)), ((some (7, true)), (.ld (some 9) (.t 8) (.agg 4))), ((some (7, true)), (.call (some 10) (.k (.func 23 [] [])) [(.t 9)] none)), (none, (.pick (some 11) (.t 7) (.t 10) (.k (.bool false)))), (none, (.cp 12 11)), ((some (12, true)), (.fa (some 13) (.t 1) 0)), ((some (12, true)), (.ld (some 14) (.t 13) (.agg 4))), ((some (12, true)), (.call (some 15) (.k (.func 26 [] [])) [(.t 14)] none)), (none, (.pick (some 16) (.t 12) (.t 15) (.k (.bool false)))), (none, (.cp 17 16)), ((some (17, true)), (.fa (some 18) (.t 1) 4)), ((some (17, true)), (.ld (some 19) (.t 18) (.agg 2))), ((some (17, true)), (.call (some 20) (.k (.func 114 [] [])) [(.t 19)] none)), (none, (.pick (some 21) (.t 17) (.t 20) (.k (.bool false)))), (none, (.mv 2 21))]) .ret))))) := by kernel_rfl
theorem c53 : compF Try.prog ow Try.f53 = (some (27, ([(.t 2)], (.seq (.ops [(none, (.box 1 (.t 0))), (none, (.set 2 (.bool false)))]) (.seq (.seq (.ops [(none, (.fa (some 3) (.t 1) 0)), (none, (.ld (some 4) (.t 3) (.one none)))]) (.block 0 (.seq (.seq (.ops [(none, (.bin (some 6) .eql (.t 4) (.k (.int .i64 1)) false false)), (none, (.mv 5 6))]) (.cond (.t 5) .skip (.ops [(none, (.bin (some 7) .eql (.t 4) (.k (.int .i64 3)) false false)), (none, (.mv 5 7))]))) (.cond (.t 5) (.seq (.ops [(none, (.fa (some 8) (.t 1) 7)), (none, (.ld (some 9) (.t 8) (.one none))), (none, (.bin (some 10) .eql (.t 9) (.k (.int .i64 0)) false false)), (none, (.cp 11 10)), ((some (11, true)), (.fa (some 12) (.t 1) 1)), ((some (11, true)), (.ld (some 13) (.t 12) (.agg 6))), ((some (11, true)), (.call (some 14) (.k (.func 98 [] [])) [(.t 13)] none)), (none, (.pick (some 15) (.t 11) (.t 14) (.k (.bool false)))), (none, (.mv 2 15))]) .ret) (.seq (.ops [(none, (.bin (some 17) .eql (.t 4) (.k (.int .i64 2)) false false)), (none, (.mv 16 17))]) (.cond (.t 16) (.seq (.ops [(none, (.fa (some 18) (.t 1) 7)), (none, (.ld (some 19) (.t 18) (.one none))), (none, (.call (some 20) (.k (.func 38 [] [])) [(.t 19)] none)), (none, (.cp 21 20)), ((some (21, true)), (.fa (some 22) (.t 1) 1)), ((some (21, true)), (.ld (some 23) (.t 22) (.agg 6))), ((some (21, true)), (.bld (some 24) [(.int .i64 0), (.str []), (.int .i64 0), (.sl .full 4 []), (.int .i64 0), (.int .i64 0)] [(0, 4), (4, 2)] [])), ((some (21, true)), (.call (some 25) (.k (.func 97 [] [])) [(.t 23), (.t 24)] none)), (none, (.pick (some 26) (.t 21) (.t 25) (.k (.bool false)))), (none, (.mv 2 26))]) .ret) .skip)))))) (.seq (.ops [(none, (.set 2 (.bool false)))]) .ret)))))) := by kernel_rfl
theorem c51 : compF Try.prog ow Try.f51 = (some (40, ([(.t 2)], (.seq (.ops [(none, (.box 1 (.t 0))), (none, (.set 2 (.str [])))]) (.seq (.ops [(none, (.fa (some 4) (.t 1) 0)), (none, (.ld (some 5) (.t 4) (.one none))), (none, (.cvt (some 6) (.t 5) (some .u8) false false)), (none, (.bs 7 1 [(.t 6)])), (none, (.x (some 8) .bs [(.t 7)])), (none, (.mv 3 8))]) (.seq (.seq (.ops [(none, (.fa (some 9) (.t 1) 0)), (none, (.ld (some 10) (.t 9) (.one none))), (none, (.bin (some 11) .eql (.t 10) (.k (.int .i64 2)) false false))]) (.cond (.t 11) (.ops [(none, (.cp 12 3)), (none, (.fa (some 13) (.t 1) 7)), (none, (.ld (some 14) (.t 13) (.one none))), (none, (.call (some 15) (.k (.func 39 [] [])) [(.t 14)] none)), (none, (.bin (some 16) .add (.t 12) (.t 15) false false)), (none, (.mv 3 16))]) (.opsD [(none, (.cp 17 3)), (none, (.fa (some 18) (.t 1) 1)), (none, (.fa (some 19) (.t 18) 0)), (none, (.ld (some 20) (.t 19) (.agg 4))), (none, (.call (some 21) (.k (.func 43 [] [])) [(.t 20)] none)), (none, (.bin (some 22) .add (.t 17) (.t 21) false false)), (none, (.fa (some 23) (.t 1) 1)), (none, (.fa (some 24) (.t 23) 4)), (none, (.fa (some 25) (.t 24) 0)), (none, (.ld (some 26) (.t 25) (.one none))), (none, (.call (some 27) (.k (.func 39 [] [])) [(.t 26)] none)), (none, (.bin (some 28) .add (.t 22) (.t 27) false false)), (none, (.fa (some 29) (.t 1) 1)), (none, (.fa (some 30) (.t 29) 4)), (none, (.fa (some 31) (.t 30) 1)), (none, (.ld (some 32) (.t 31) (.one none))), (none, (.call (some 33) (.k (.func 39 [] [])) [(.t 32)] none)), (none, (.bin (some 34) .add (.t 28) (.t 33) false false)), (none, (.mv 3 34))]))) (.seq (.ops [(none, (.cp 35 3)), (none, (.len (some 36) (.t 35) true false)), (none, (.call (some 37) (.k (.func 39 [] [])) [(.t 36)] none)), (none, (.cp 38 3)), (none, (.bin (some 39) .add (.t 37) (.t 38) false false)), (none, (.mv 2 39))]) .ret))))))) := by kernel_rfl
mutual
def hasV : T → Bool | .mk k n v l => k == 1 || hasVs l
def hasVs : List T → Bool | [] => false | t :: l => hasV t || hasVs l
end
theorem noteT_no : ∀ t : T, hasV t = false → ∀ acc, noteT t acc = acc := by
  refine T.ind ?_
  intro k n v l ih hv acc
  have hs : ∀ m : List T, (∀ x ∈ m, hasV x = false → ∀ acc, noteT x acc = acc) → hasVs m = false → ∀ acc, noteTs m acc = acc := by
    intro m
    induction m with
    | nil => intro _ _ acc; rw [noteTs]
    | cons x m ihm =>
      intro ih hv acc
      rw [hasVs, Bool.or_eq_false_iff] at hv
      rw [noteTs, ih x (by simp) hv.1, ihm (fun y hy => ih y (by simp [hy])) hv.2]
  rw [hasV, Bool.or_eq_false_iff] at hv
  rw [noteT, hs l ih hv.2, if_neg (by simpa using hv.1)]
theorem addK_ne (ks : List (List UInt8)) (k : List UInt8) : addK ks k ≠ [] := by
  unfold addK; split
  · rename_i h; intro e; rw [e] at h; cases h
  · simp
theorem addK_keep {ks : List (List UInt8)} (k : List UInt8) : addK ks k ≠ [] := addK_ne ks k
theorem noteT_ne : ∀ t : T, (∀ acc, acc ≠ [] → noteT t acc ≠ []) ∧ (hasV t = true → ∀ acc, noteT t acc ≠ []) := by
  refine T.ind ?_
  intro k n v l ih
  have hs : ∀ m : List T, (∀ x ∈ m, (∀ acc, acc ≠ [] → noteT x acc ≠ []) ∧ (hasV x = true → ∀ acc, noteT x acc ≠ [])) → (∀ acc, acc ≠ [] → noteTs m acc ≠ []) ∧ (hasVs m = true → ∀ acc, noteTs m acc ≠ []) := by
    intro m
    induction m with
    | nil => intro _; exact ⟨fun acc h => by rwa [noteTs], fun h => by simp [hasVs] at h⟩
    | cons x m ihm =>
      intro ih
      obtain ⟨a1, a2⟩ := ih x (by simp)
      obtain ⟨b1, b2⟩ := ihm (fun y hy => ih y (by simp [hy]))
      refine ⟨fun acc h => by rw [noteTs]; exact b1 _ (a1 _ h), fun h acc => ?_⟩
      rw [noteTs]
      rw [hasVs, Bool.or_eq_true] at h
      rcases h with h | h
      · exact b1 _ (a2 h acc)
      · exact b2 h _
  obtain ⟨h1, h2⟩ := hs l ih
  refine ⟨fun acc h => ?_, fun h acc => ?_⟩
  · rw [noteT]; split
    · exact h1 _ (addK_ne _ _)
    · exact h1 _ h
  · rw [noteT]
    rw [hasV, Bool.or_eq_true] at h
    split
    · exact h1 _ (addK_ne _ _)
    · rename_i hk
      rcases h with h | h
      · exact absurd (by simpa using h) hk
      · exact h2 h _
theorem ground_iff (t : T) : groundB t = !hasV t := by
  unfold groundB namesL
  rw [noteTs, noteTs]
  cases h : hasV t with
  | false => rw [noteT_no t h]; simp
  | true =>
    have := (noteT_ne t).2 h []
    simpa using this
theorem insR_ne (l : List (List UInt8)) (x : List UInt8) : insR l x ≠ [] := by
  unfold insR; split
  · rename_i h; intro e; rw [e] at h; simp at h
  · simp
theorem namR_ne : ∀ (b a : List (List UInt8)), a ≠ [] ∨ b ≠ [] → namR a b ≠ []
  | [], a, h => by simpa [namR] using h
  | x :: b, a, h => by
    have := namR_ne b (insR a x) (.inl (insR_ne a x))
    unfold namR at this ⊢
    simpa using this
theorem namR_nil : namR [] [] = [] := rfl
theorem varsR_iff : ∀ t : T, varsR t = [] ↔ hasV t = false := by
  refine T.ind ?_
  intro k n v l ih
  have hs : ∀ m : List T, (∀ x ∈ m, (varsR x = [] ↔ hasV x = false)) → ∀ acc, varsRs m acc = [] ↔ (acc = [] ∧ hasVs m = false) := by
    intro m
    induction m with
    | nil => intro _ acc; simp [varsRs, hasVs]
    | cons x m ihm =>
      intro ih acc
      have h1 := ih x (by simp)
      rw [varsRs, ihm (fun y hy => ih y (by simp [hy])), hasVs, Bool.or_eq_false_iff, ← h1]
      constructor
      · rintro ⟨h2, h3⟩
        have h4 : ¬ (acc ≠ [] ∨ varsR x ≠ []) := fun h => namR_ne _ _ h h2
        simp only [ne_eq, not_or, Decidable.not_not] at h4
        exact ⟨h4.1, h4.2, h3⟩
      · rintro ⟨rfl, h2, h3⟩
        rw [h2]; exact ⟨rfl, h3⟩
  rw [varsR, hasV]
  by_cases hk : k = 1
  · simp [hk]
  · have : (k == 1) = false := by simpa using hk
    rw [if_neg hk, hs l ih, this]
    simp
theorem fn_rGround (t : T) (ht : t.ok) (hn : nodT t ≤ 1000000) : PFn Try.prog 26 [t.av] (.bool (groundB t)) := by
  intro h
  have hV := fn_rVars t ht hn
  have hg : groundB t = ((((varsR t).length : Nat) : Int) == 0) := by
    rw [ground_iff]
    have := varsR_iff t
    cases hh : hasV t with
    | false => rw [this.2 hh]; rfl
    | true =>
      have h0 : varsR t ≠ [] := fun e => by rw [this.1 e] at hh; cases hh
      have : (varsR t).length ≠ 0 := by simpa using h0
      symm; simp; exact h0
  rw [hg]
  obtain ⟨tk, tn, tv, tl⟩ := t
  rw [av_mk] at hV ⊢
  refine fnC mixed Try.func26 c26 (by simp) ?_
  simp only [go_sem, Nat.reduceEqDiff, Nat.reduceAdd, Nat.reduceLeDiff, Nat.reduceLT, ↓reduceIte, reduceCtorEq, Int.reduceLT, Int.reduceToNat, Int.reduceEq, Int.reduceBEq, Int.reduceBNe, Nat.reduceBEq]
  cases hfl : flX (varsR (T.mk tk tn tv tl)) with
  | sh => cases hn : varsR (T.mk tk tn tv tl) <;> rw [hn] at hfl <;> cases hfl
  | own => rw [hfl] at hV; refine pcall hV (by simp only [go_sem, Nat.reduceEqDiff, Nat.reduceAdd, Nat.reduceLeDiff, Nat.reduceLT, ↓reduceIte, reduceCtorEq, Int.reduceLT, Int.reduceToNat, Int.reduceEq, Int.reduceBEq, Int.reduceBNe, Nat.reduceBEq]) ?_; simp only [go_sem, Nat.reduceEqDiff, Nat.reduceAdd, Nat.reduceLeDiff, Nat.reduceLT, ↓reduceIte, reduceCtorEq, Int.reduceLT, Int.reduceToNat, Int.reduceEq, Int.reduceBEq, Int.reduceBNe, Nat.reduceBEq]
  | full => rw [hfl] at hV; refine pcall hV (by simp only [go_sem, Nat.reduceEqDiff, Nat.reduceAdd, Nat.reduceLeDiff, Nat.reduceLT, ↓reduceIte, reduceCtorEq, Int.reduceLT, Int.reduceToNat, Int.reduceEq, Int.reduceBEq, Int.reduceBNe, Nat.reduceBEq]) ?_; simp only [go_sem, Nat.reduceEqDiff, Nat.reduceAdd, Nat.reduceLeDiff, Nat.reduceLT, ↓reduceIte, reduceCtorEq, Int.reduceLT, Int.reduceToNat, Int.reduceEq, Int.reduceBEq, Int.reduceBNe, Nat.reduceBEq]
theorem fn_rSpan (a b : Int) : PFn Try.prog 114 [.agg [.int .i64 a, .int .i64 b]] (.bool (spanB a b)) := by
  intro h
  refine fnC mixed Try.func114 c114 (by simp) ?_
  unfold spanB
  simp only [go_sem, Nat.reduceEqDiff, Nat.reduceAdd, Nat.reduceLeDiff, Nat.reduceLT, ↓reduceIte, reduceCtorEq, Int.reduceLT, Int.reduceToNat, Int.reduceEq, Int.reduceBEq, Int.reduceBNe, Nat.reduceBEq]
  refine cog (fun h1 => ?_) (fun h1 => ?_)
  · simp only [go_sem, Nat.reduceEqDiff, Nat.reduceAdd, Nat.reduceLeDiff, Nat.reduceLT, ↓reduceIte, reduceCtorEq, Int.reduceLT, Int.reduceToNat, Int.reduceEq, Int.reduceBEq, Int.reduceBNe, Nat.reduceBEq, h1]
    refine cog (fun h2 => ?_) (fun h2 => ?_)
    · simp only [go_sem, Nat.reduceEqDiff, Nat.reduceAdd, Nat.reduceLeDiff, Nat.reduceLT, ↓reduceIte, reduceCtorEq, Int.reduceLT, Int.reduceToNat, Int.reduceEq, Int.reduceBEq, Int.reduceBNe, Nat.reduceBEq, h1, h2]
    · simp only [go_sem, Nat.reduceEqDiff, Nat.reduceAdd, Nat.reduceLeDiff, Nat.reduceLT, ↓reduceIte, reduceCtorEq, Int.reduceLT, Int.reduceToNat, Int.reduceEq, Int.reduceBEq, Int.reduceBNe, Nat.reduceBEq, h1, h2]
  · simp only [go_sem, Nat.reduceEqDiff, Nat.reduceAdd, Nat.reduceLeDiff, Nat.reduceLT, ↓reduceIte, reduceCtorEq, Int.reduceLT, Int.reduceToNat, Int.reduceEq, Int.reduceBEq, Int.reduceBNe, Nat.reduceBEq, h1]
theorem fn_rFact (t : T) (a b : Int) (ht : t.ok) : PFn Try.prog 98 [facA t a b] (.bool (okFa t a b)) := by
  intro h
  have hM := fn_rTerm t ht
  have hG := fun hm => fn_rGround t ht (by have := (may_len (t := t) hm).2.2; omega)
  unfold okFa
  obtain ⟨tk, tn, tv, tl⟩ := t
  unfold facA kindT
  rw [av_mk] at hM hG
  simp only
  generalize mayB (T.mk tk tn tv tl) = m at *
  generalize groundB (T.mk tk tn tv tl) = q at *
  refine fnC mixed Try.func98 c98 (by simp) ?_
  simp only [go_sem, Nat.reduceEqDiff, Nat.reduceAdd, Nat.reduceLeDiff, Nat.reduceLT, ↓reduceIte, reduceCtorEq, Int.reduceLT, Int.reduceToNat, Int.reduceEq, Int.reduceBEq, Int.reduceBNe, Nat.reduceBEq]
  cases hk : (tk == 3) with
  | false => simp only [go_sem, Nat.reduceEqDiff, Nat.reduceAdd, Nat.reduceLeDiff, Nat.reduceLT, ↓reduceIte, reduceCtorEq, Int.reduceLT, Int.reduceToNat, Int.reduceEq, Int.reduceBEq, Int.reduceBNe, Nat.reduceBEq, hk]
  | true =>
    simp only [go_sem, Nat.reduceEqDiff, Nat.reduceAdd, Nat.reduceLeDiff, Nat.reduceLT, ↓reduceIte, reduceCtorEq, Int.reduceLT, Int.reduceToNat, Int.reduceEq, Int.reduceBEq, Int.reduceBNe, Nat.reduceBEq, hk]
    refine pcall hM (by simp only [go_sem, Nat.reduceEqDiff, Nat.reduceAdd, Nat.reduceLeDiff, Nat.reduceLT, ↓reduceIte, reduceCtorEq, Int.reduceLT, Int.reduceToNat, Int.reduceEq, Int.reduceBEq, Int.reduceBNe, Nat.reduceBEq]) ?_
    cases m with
    | false => simp only [go_sem, Nat.reduceEqDiff, Nat.reduceAdd, Nat.reduceLeDiff, Nat.reduceLT, ↓reduceIte, reduceCtorEq, Int.reduceLT, Int.reduceToNat, Int.reduceEq, Int.reduceBEq, Int.reduceBNe, Nat.reduceBEq]
    | true =>
      simp only [go_sem, Nat.reduceEqDiff, Nat.reduceAdd, Nat.reduceLeDiff, Nat.reduceLT, ↓reduceIte, reduceCtorEq, Int.reduceLT, Int.reduceToNat, Int.reduceEq, Int.reduceBEq, Int.reduceBNe, Nat.reduceBEq]
      refine pcall (hG rfl) (by simp only [go_sem, Nat.reduceEqDiff, Nat.reduceAdd, Nat.reduceLeDiff, Nat.reduceLT, ↓reduceIte, reduceCtorEq, Int.reduceLT, Int.reduceToNat, Int.reduceEq, Int.reduceBEq, Int.reduceBNe, Nat.reduceBEq]) ?_
      cases q with
      | false => simp only [go_sem, Nat.reduceEqDiff, Nat.reduceAdd, Nat.reduceLeDiff, Nat.reduceLT, ↓reduceIte, reduceCtorEq, Int.reduceLT, Int.reduceToNat, Int.reduceEq, Int.reduceBEq, Int.reduceBNe, Nat.reduceBEq]
      | true =>
        simp only [go_sem, Nat.reduceEqDiff, Nat.reduceAdd, Nat.reduceLeDiff, Nat.reduceLT, ↓reduceIte, reduceCtorEq, Int.reduceLT, Int.reduceToNat, Int.reduceEq, Int.reduceBEq, Int.reduceBNe, Nat.reduceBEq]
        refine pcall (fn_rSpan a b) (by simp only [go_sem, Nat.reduceEqDiff, Nat.reduceAdd, Nat.reduceLeDiff, Nat.reduceLT, ↓reduceIte, reduceCtorEq, Int.reduceLT, Int.reduceToNat, Int.reduceEq, Int.reduceBEq, Int.reduceBNe, Nat.reduceBEq]) ?_
        simp only [go_sem, Nat.reduceEqDiff, Nat.reduceAdd, Nat.reduceLeDiff, Nat.reduceLT, ↓reduceIte, reduceCtorEq, Int.reduceLT, Int.reduceToNat, Int.reduceEq, Int.reduceBEq, Int.reduceBNe, Nat.reduceBEq]
theorem fk_av : ∀ x : T, fk x.av = x.av := by
  refine T.ind fun k n v l ih => ?_
  have : fkL (l.map T.av) = l.map T.av := by
    rw [fkL_map, List.map_map]; exact List.map_congr_left fun x hx => ih x hx
  rw [av_mk]; simp [fk, fkL, this]
theorem fk_avl (l : List T) : fkL (l.map T.av) = l.map T.av := by rw [fkL_map, List.map_map]; exact List.map_congr_left fun x _ => fk_av x
theorem eqT_zero (tk : Int) (tn : List UInt8) (tv : Int) (tl : List T) : eqT (.mk tk tn tv tl) (.mk 0 [] 0 []) = (tk == 0 && (tn == [] && (tv == 0 && decide (tl.length = 0)))) := by
  rw [eqT]
  cases tl with
  | nil => simp [eqTs]
  | cons x l => simp [eqTs]
theorem fn_rFrame (k : Int) (t : T) (a b n : Int) (ht : t.ok) : PFn Try.prog 53 [frA k t a b n] (.bool (okFr k t a b n)) := by
  intro h
  have hF := fn_rFact t a b ht
  have hE := fn_EqFact t (.mk 0 [] 0 []) a b 0 0 ht
  have hN : noneB t a b = (eqT t (.mk 0 [] 0 []) && (a == 0 && b == 0)) := by
    cases t; rw [eqT_zero]; unfold noneB; simp only [Bool.and_assoc]
  have hM := fn_rMay n
  unfold okFr
  rw [hN]
  generalize (eqT t (.mk 0 [] 0 []) && (a == 0 && b == 0)) = e at *
  generalize okFa t a b = m at *
  generalize okN n = w at *
  clear hN
  obtain ⟨tk, tn, tv, tl⟩ := t
  unfold facA at hF hE
  unfold frA
  simp only [List.map_nil] at hF hE ⊢
  have hE' : PFn Try.prog 97 [.agg [.int .i64 tk, .str tn, .int .i64 tv, .sl .sh 4 (tl.map T.av), .int .i64 a, .int .i64 b], .agg [.int .i64 0, .str [], .int .i64 0, .sl .full 4 [], .int .i64 0, .int .i64 0]] (.bool e) := by
    have hl := fk_avl tl
    refine pfn_fk ?_
    simp only [List.map_cons, List.map_nil, fk, fkL, hl]
    exact hE
  refine fnC mixed Try.func53 c53 (by simp) ?_
  simp only [go_sem, Nat.reduceEqDiff, Nat.reduceAdd, Nat.reduceLeDiff, Nat.reduceLT, ↓reduceIte, reduceCtorEq, Int.reduceLT, Int.reduceToNat, Int.reduceEq, Int.reduceBEq, Int.reduceBNe, Nat.reduceBEq]
  by_cases k1 : k = 1
  · subst k1
    simp only [go_sem, Nat.reduceEqDiff, Nat.reduceAdd, Nat.reduceLeDiff, Nat.reduceLT, ↓reduceIte, reduceCtorEq, Int.reduceLT, Int.reduceToNat, Int.reduceEq, Int.reduceBEq, Int.reduceBNe, Nat.reduceBEq, true_or, if_true]
    cases hn : (n == 0) with
    | false => simp only [go_sem, Nat.reduceEqDiff, Nat.reduceAdd, Nat.reduceLeDiff, Nat.reduceLT, ↓reduceIte, reduceCtorEq, Int.reduceLT, Int.reduceToNat, Int.reduceEq, Int.reduceBEq, Int.reduceBNe, Nat.reduceBEq, hn]
    | true =>
      simp only [go_sem, Nat.reduceEqDiff, Nat.reduceAdd, Nat.reduceLeDiff, Nat.reduceLT, ↓reduceIte, reduceCtorEq, Int.reduceLT, Int.reduceToNat, Int.reduceEq, Int.reduceBEq, Int.reduceBNe, Nat.reduceBEq, hn]
      refine pcall hF (by simp only [go_sem, Nat.reduceEqDiff, Nat.reduceAdd, Nat.reduceLeDiff, Nat.reduceLT, ↓reduceIte, reduceCtorEq, Int.reduceLT, Int.reduceToNat, Int.reduceEq, Int.reduceBEq, Int.reduceBNe, Nat.reduceBEq]) ?_
      simp only [go_sem, Nat.reduceEqDiff, Nat.reduceAdd, Nat.reduceLeDiff, Nat.reduceLT, ↓reduceIte, reduceCtorEq, Int.reduceLT, Int.reduceToNat, Int.reduceEq, Int.reduceBEq, Int.reduceBNe, Nat.reduceBEq]
  · have e1 : (k == 1) = false := by simpa using k1
    by_cases k3 : k = 3
    · subst k3
      simp only [go_sem, Nat.reduceEqDiff, Nat.reduceAdd, Nat.reduceLeDiff, Nat.reduceLT, ↓reduceIte, reduceCtorEq, Int.reduceLT, Int.reduceToNat, Int.reduceEq, Int.reduceBEq, Int.reduceBNe, Nat.reduceBEq, or_true, if_true, e1]
      cases hn : (n == 0) with
      | false => simp only [go_sem, Nat.reduceEqDiff, Nat.reduceAdd, Nat.reduceLeDiff, Nat.reduceLT, ↓reduceIte, reduceCtorEq, Int.reduceLT, Int.reduceToNat, Int.reduceEq, Int.reduceBEq, Int.reduceBNe, Nat.reduceBEq, hn]
      | true =>
        simp only [go_sem, Nat.reduceEqDiff, Nat.reduceAdd, Nat.reduceLeDiff, Nat.reduceLT, ↓reduceIte, reduceCtorEq, Int.reduceLT, Int.reduceToNat, Int.reduceEq, Int.reduceBEq, Int.reduceBNe, Nat.reduceBEq, hn]
        refine pcall hF (by simp only [go_sem, Nat.reduceEqDiff, Nat.reduceAdd, Nat.reduceLeDiff, Nat.reduceLT, ↓reduceIte, reduceCtorEq, Int.reduceLT, Int.reduceToNat, Int.reduceEq, Int.reduceBEq, Int.reduceBNe, Nat.reduceBEq]) ?_
        simp only [go_sem, Nat.reduceEqDiff, Nat.reduceAdd, Nat.reduceLeDiff, Nat.reduceLT, ↓reduceIte, reduceCtorEq, Int.reduceLT, Int.reduceToNat, Int.reduceEq, Int.reduceBEq, Int.reduceBNe, Nat.reduceBEq]
    · have e3 : (k == 3) = false := by simpa using k3
      have o : ¬ (k = 1 ∨ k = 3) := by omega
      by_cases k2 : k = 2
      · subst k2
        simp only [go_sem, Nat.reduceEqDiff, Nat.reduceAdd, Nat.reduceLeDiff, Nat.reduceLT, ↓reduceIte, reduceCtorEq, Int.reduceLT, Int.reduceToNat, Int.reduceEq, Int.reduceBEq, Int.reduceBNe, Nat.reduceBEq, o, e1, e3, if_false]
        refine pcall hM (by simp only [go_sem, Nat.reduceEqDiff, Nat.reduceAdd, Nat.reduceLeDiff, Nat.reduceLT, ↓reduceIte, reduceCtorEq, Int.reduceLT, Int.reduceToNat, Int.reduceEq, Int.reduceBEq, Int.reduceBNe, Nat.reduceBEq]) ?_
        cases w with
        | false => simp only [go_sem, Nat.reduceEqDiff, Nat.reduceAdd, Nat.reduceLeDiff, Nat.reduceLT, ↓reduceIte, reduceCtorEq, Int.reduceLT, Int.reduceToNat, Int.reduceEq, Int.reduceBEq, Int.reduceBNe, Nat.reduceBEq]
        | true =>
          simp only [go_sem, Nat.reduceEqDiff, Nat.reduceAdd, Nat.reduceLeDiff, Nat.reduceLT, ↓reduceIte, reduceCtorEq, Int.reduceLT, Int.reduceToNat, Int.reduceEq, Int.reduceBEq, Int.reduceBNe, Nat.reduceBEq]
          refine pcall hE' (by simp only [go_sem, Nat.reduceEqDiff, Nat.reduceAdd, Nat.reduceLeDiff, Nat.reduceLT, ↓reduceIte, reduceCtorEq, Int.reduceLT, Int.reduceToNat, Int.reduceEq, Int.reduceBEq, Int.reduceBNe, Nat.reduceBEq]) ?_
          simp only [go_sem, Nat.reduceEqDiff, Nat.reduceAdd, Nat.reduceLeDiff, Nat.reduceLT, ↓reduceIte, reduceCtorEq, Int.reduceLT, Int.reduceToNat, Int.reduceEq, Int.reduceBEq, Int.reduceBNe, Nat.reduceBEq]
      · have e2 : (k == 2) = false := by simpa using k2
        rw [if_neg o, if_neg k2]
        simp only [go_sem, Nat.reduceEqDiff, Nat.reduceAdd, Nat.reduceLeDiff, Nat.reduceLT, ↓reduceIte, reduceCtorEq, Int.reduceLT, Int.reduceToNat, Int.reduceEq, Int.reduceBEq, Int.reduceBNe, Nat.reduceBEq, o, k2, e1, e2, e3, if_false]
theorem fn_rFrameF (k : Int) (t : T) (a b n : Int) (ht : t.ok) : PFn Try.prog 53 [frF k t a b n] (.bool (okFr k t a b n)) := by
  have h := fn_rFrame k t a b n ht
  refine pfn_fk ?_
  simp only [List.map_cons, List.map_nil, fk_frF]
  exact h
theorem fn_rBytes13 (k : Int) (t : T) (a b : Int) (ht : t.ok) (hm : okFr k t a b 0 = true) (hk : k = 1 ∨ k = 3) : PFn Try.prog 51 [frA k t a b 0] (.str (frS k t a b 0)) := by
  intro h
  obtain ⟨hL1, hL2⟩ := bodyL_le hm
  obtain ⟨h1, _, h2, h3, h4⟩ : (k = 1 ∨ k = 3) ∧ (0 : Int) = 0 ∧ okFa t a b = true ∧ mayB t = true ∧ (-1073741824 ≤ a ∧ a ≤ b ∧ b ≤ 1073741824) := by
    rcases okFr_facts hm with ⟨e, _⟩ | e
    · omega
    · exact e
  obtain ⟨g1, g2, _⟩ := may_len h3
  have hE := fn_renc t ht g1 (by omega)
  have q1 := vb5 (n := a) (by omega) (by omega)
  have q2 := vb5 (n := b) (by omega) (by omega)
  have q3 := vb5 (n := bodyL k t a b 0) (by omega) (by omega)
  have wk : IntKind.u8.wrap k = k := w8 (by omega) (by omega)
  have k2 : (k == 2) = false := by simp; omega
  have hB : UInt8.ofNat k.toNat :: (u8s (enc t) ++ (vbs (zz a) ++ vbs (zz b))) = u8s (body k t a b 0) := by
    unfold body; rw [if_neg (by omega), u8_cons, u8_app, u8_app, u8_vb, u8_vb]
  have l1 : (u8s (enc t)).length ≤ 456 := by unfold u8s; rw [List.length_map]; exact g2
  have l2 : (vbs (zz a)).length ≤ 5 := by unfold vbs u8s; rw [List.length_map]; exact q1
  have l3 : (vbs (zz b)).length ≤ 5 := by unfold vbs u8s; rw [List.length_map]; exact q2
  have l4 : (vbs (zz (bodyL k t a b 0))).length ≤ 5 := by unfold vbs u8s; rw [List.length_map]; exact q3
  have hlen : (u8s (enc t)).length + ((vbs (zz a)).length + (vbs (zz b)).length) + 1 = (body k t a b 0).length := by
    have := congrArg List.length hB
    simp only [List.length_cons, List.length_append] at this
    unfold u8s at this ⊢
    simp only [List.length_map] at this ⊢
    omega
  have hL := fn_rNumber (bodyL k t a b 0) (by omega) (by omega)
  unfold frS
  unfold bodyL at hL hL1 hL2 l4 ⊢
  obtain ⟨tk, tn, tv, tl⟩ := t
  rw [av_mk] at hE
  unfold frA
  generalize enc (T.mk tk tn tv tl) = E at *
  generalize body k (T.mk tk tn tv tl) a b 0 = B at *
  refine fnC mixed Try.func51 c51 (by simp) ?_
  have b1 := bytes1 (k := k)
  simp only [go_sem, Nat.reduceEqDiff, Nat.reduceAdd, Nat.reduceLeDiff, Nat.reduceLT, ↓reduceIte, reduceCtorEq, Int.reduceLT, Int.reduceToNat, Int.reduceEq, Int.reduceBEq, Int.reduceBNe, Nat.reduceBEq, wk, b1, k2]
  refine pcallD hE (by simp only [go_sem, Nat.reduceEqDiff, Nat.reduceAdd, Nat.reduceLeDiff, Nat.reduceLT, ↓reduceIte, reduceCtorEq, Int.reduceLT, Int.reduceToNat, Int.reduceEq, Int.reduceBEq, Int.reduceBNe, Nat.reduceBEq]) ?_
  have p1 : 1 + (u8s E).length ≤ 9223372036854775807 := by omega
  simp only [go_sem, Nat.reduceEqDiff, Nat.reduceAdd, Nat.reduceLeDiff, Nat.reduceLT, ↓reduceIte, reduceCtorEq, Int.reduceLT, Int.reduceToNat, Int.reduceEq, Int.reduceBEq, Int.reduceBNe, Nat.reduceBEq, p1]
  refine pcallD (fn_rNumber a (by omega) (by omega)) (by simp only [go_sem, Nat.reduceEqDiff, Nat.reduceAdd, Nat.reduceLeDiff, Nat.reduceLT, ↓reduceIte, reduceCtorEq, Int.reduceLT, Int.reduceToNat, Int.reduceEq, Int.reduceBEq, Int.reduceBNe, Nat.reduceBEq]) ?_
  have p2 : 1 + ((u8s E).length + (vbs (zz a)).length) ≤ 9223372036854775807 := by omega
  have p2' : (u8s E).length + (1 + (vbs (zz a)).length) ≤ 9223372036854775807 := by omega
  simp only [go_sem, Nat.reduceEqDiff, Nat.reduceAdd, Nat.reduceLeDiff, Nat.reduceLT, ↓reduceIte, reduceCtorEq, Int.reduceLT, Int.reduceToNat, Int.reduceEq, Int.reduceBEq, Int.reduceBNe, Nat.reduceBEq, p2, p2', List.length_append]
  refine pcallD (fn_rNumber b (by omega) (by omega)) (by simp only [go_sem, Nat.reduceEqDiff, Nat.reduceAdd, Nat.reduceLeDiff, Nat.reduceLT, ↓reduceIte, reduceCtorEq, Int.reduceLT, Int.reduceToNat, Int.reduceEq, Int.reduceBEq, Int.reduceBNe, Nat.reduceBEq]) ?_
  have p3 : (u8s E).length + ((vbs (zz a)).length + (1 + (vbs (zz b)).length)) ≤ 9223372036854775807 := by omega
  have hB' : UInt8.ofNat k.toNat :: (u8s E ++ vbs (zz a) ++ vbs (zz b)) = u8s B := by rw [List.append_assoc]; exact hB
  have hl : (u8s B).length = B.length := by simp [u8s]
  simp only [go_sem, Nat.reduceEqDiff, Nat.reduceAdd, Nat.reduceLeDiff, Nat.reduceLT, ↓reduceIte, reduceCtorEq, Int.reduceLT, Int.reduceToNat, Int.reduceEq, Int.reduceBEq, Int.reduceBNe, Nat.reduceBEq, p3, List.length_append, hB', hl]
  refine pcall hL (by simp only [go_sem, Nat.reduceEqDiff, Nat.reduceAdd, Nat.reduceLeDiff, Nat.reduceLT, ↓reduceIte, reduceCtorEq, Int.reduceLT, Int.reduceToNat, Int.reduceEq, Int.reduceBEq, Int.reduceBNe, Nat.reduceBEq]) ?_
  have p4 : (vbs (zz (B.length : Int))).length + B.length ≤ 9223372036854775807 := by omega
  simp only [go_sem, Nat.reduceEqDiff, Nat.reduceAdd, Nat.reduceLeDiff, Nat.reduceLT, ↓reduceIte, reduceCtorEq, Int.reduceLT, Int.reduceToNat, Int.reduceEq, Int.reduceBEq, Int.reduceBNe, Nat.reduceBEq, p4, hl]
theorem fn_rBytes2 (a b n : Int) (hn : okN n = true) (t : T) (hz : t = .mk 0 [] 0 []) : PFn Try.prog 51 [frA 2 t a b n] (.str (frS 2 t a b n)) := by
  intro h
  have hb := (okN_iff n).1 hn
  have q1 := vb5 hb.1 hb.2
  have l1 : (vbs (zz n)).length ≤ 5 := by unfold vbs u8s; rw [List.length_map]; exact q1
  have hB : UInt8.ofNat (2 : Int).toNat :: vbs (zz n) = u8s (body 2 t a b n) := by
    unfold body; rw [if_pos rfl, u8_cons, u8_vb]
  have hL2 : bodyL 2 t a b n = ((1 + (vbs (zz n)).length : Nat) : Int) := by
    unfold bodyL body; rw [if_pos rfl]; unfold vbs u8s; simp; omega
  have hR := fn_rNumber n (by omega) (by omega)
  have hL := fn_rNumber (bodyL 2 t a b n) (by omega) (by omega)
  have q3 := vb5 (n := bodyL 2 t a b n) (by omega) (by omega)
  have l4 : (vbs (zz (bodyL 2 t a b n))).length ≤ 5 := by unfold vbs u8s; rw [List.length_map]; exact q3
  unfold frS
  rw [← hB]
  rw [hL2] at hL l4 ⊢
  subst hz
  unfold frA
  simp only [List.map_nil]
  generalize vbs (zz n) = w at *
  refine fnC mixed Try.func51 c51 (by simp) ?_
  have b1 := bytes1 (k := 2)
  have wk : IntKind.u8.wrap 2 = 2 := by decide
  simp only [go_sem, Nat.reduceEqDiff, Nat.reduceAdd, Nat.reduceLeDiff, Nat.reduceLT, ↓reduceIte, reduceCtorEq, Int.reduceLT, Int.reduceToNat, Int.reduceEq, Int.reduceBEq, Int.reduceBNe, Nat.reduceBEq, wk, b1]
  refine pcall hR (by simp only [go_sem, Nat.reduceEqDiff, Nat.reduceAdd, Nat.reduceLeDiff, Nat.reduceLT, ↓reduceIte, reduceCtorEq, Int.reduceLT, Int.reduceToNat, Int.reduceEq, Int.reduceBEq, Int.reduceBNe, Nat.reduceBEq]) ?_
  have p1 : 1 + w.length ≤ 9223372036854775807 := by omega
  have p2 : (1 + w.length : Nat) ≤ 9223372036854775807 := by omega
  simp only [go_sem, Nat.reduceEqDiff, Nat.reduceAdd, Nat.reduceLeDiff, Nat.reduceLT, ↓reduceIte, reduceCtorEq, Int.reduceLT, Int.reduceToNat, Int.reduceEq, Int.reduceBEq, Int.reduceBNe, Nat.reduceBEq, p1, List.length_append]
  refine pcall hL (by simp only [go_sem, Nat.reduceEqDiff, Nat.reduceAdd, Nat.reduceLeDiff, Nat.reduceLT, ↓reduceIte, reduceCtorEq, Int.reduceLT, Int.reduceToNat, Int.reduceEq, Int.reduceBEq, Int.reduceBNe, Nat.reduceBEq]; rw [Nat.add_comm]) ?_
  generalize vbs (zz ((1 + w.length : Nat) : Int)) = y at *
  have p3 : y.length + (1 + w.length) ≤ 9223372036854775807 := by omega
  have p3' : y.length + (w.length + 1) ≤ 9223372036854775807 := by omega
  simp only [go_sem, Nat.reduceEqDiff, Nat.reduceAdd, Nat.reduceLeDiff, Nat.reduceLT, ↓reduceIte, reduceCtorEq, Int.reduceLT, Int.reduceToNat, Int.reduceEq, Int.reduceBEq, Int.reduceBNe, Nat.reduceBEq, p3, p3', List.length_append]
theorem fn_rBytes (k : Int) (t : T) (a b n : Int) (ht : t.ok) (hm : okFr k t a b n = true) : PFn Try.prog 51 [frA k t a b n] (.str (frS k t a b n)) := by
  rcases okFr_facts hm with ⟨rfl, h2, h3⟩ | ⟨h1, rfl, _⟩
  · exact fn_rBytes2 a b n h3 t (noneB_zero h2).1
  · exact fn_rBytes13 k t a b ht hm h1
end Go.Proofs.Ythaoooohomfkcaa.Ab

namespace Go.Proofs.Ythaoooohomfkcaa.Ab
set_option linter.unusedVariables false
set_option linter.unusedSimpArgs false
set_option maxRecDepth 10000
attribute [local go_sem] Nat.zero_le Bool.not_true Bool.not_false Bool.false_eq_true if_false if_true forall_const true_and and_true List.map Option.map Bool.and_self Bool.and_true Bool.true_and Bool.false_and Bool.and_false List.getElem?_cons_zero List.getElem?_nil List.getElem?_cons_succ Int.natCast_nonneg Int.toNat_natCast List.length_map List.length_cons List.length_nil Nat.zero_add Nat.le_refl List.drop_zero List.drop_succ_cons List.take_succ_cons List.take_zero List.take_nil ne_eq not_true_eq_false not_false_eq_true upd_same Nat.add_assoc Nat.left_eq_add Nat.add_eq_left Nat.add_left_cancel_iff Nat.succ_ne_self Nat.one_ne_zero Nat.add_zero Nat.le_add_right ite_self List.set_cons_zero List.set_cons_succ List.all_cons List.all_nil bne_self_eq_false List.isEmpty_cons Int.cast_ofNat_Int Nat.mul_one List.nil_append or_self or_true true_or List.cons_append List.append_nil Option.none_beq_some Option.some_beq_some beq_self_eq_true
theorem c56 : compF Try.prog ow Try.f56 = (some (83, ([(.c 2 (.agg 8)), (.t 3), (.t 4)], (.seq (.ops [(none, (.alloc 2 [(.int .i64 0), (.int .i64 0), (.str []), (.int .i64 0), (.sl .full 4 []), (.int .i64 0), (.int .i64 0), (.int .i64 0)])), (none, (.set 3 (.str []))), (none, (.set 4 (.bool false)))]) (.seq (.ops [(none, (.cp 11 0)), (none, (.call (some 12) (.k (.func 45 [] [])) [(.t 11)] none)), (none, (.cp 10 12)), (none, (.ext (some 13) (.t 10) 0)), (none, (.ext (some 14) (.t 10) 1)), (none, (.ext (some 15) (.t 10) 2)), (none, (.mv 5 13)), (none, (.mv 6 14)), (none, (.mv 7 15))]) (.seq (.seq (.ops [(none, (.cp 16 7)), (none, (.un (some 17) .not (.t 16))), (none, (.cp 18 17)), ((some (18, false)), (.cp 19 5)), ((some (18, false)), (.call (some 20) (.k (.func 86 [] [])) [(.t 19), (.k (.int .i64 1)), (.k (.int .i64 600))] none)), ((some (18, false)), (.un (some 21) .not (.t 20))), (none, (.pick (some 22) (.t 18) (.k (.bool true)) (.t 21))), (none, (.cp 23 22)), ((some (23, false)), (.cp 24 5)), ((some (23, false)), (.cp 25 6)), ((some (23, false)), (.len (some 26) (.t 25) true false)), ((some (23, false)), (.bin (some 27) .gtr (.t 24) (.t 26) false false)), (none, (.pick (some 28) (.t 23) (.k (.bool true)) (.t 27)))]) (.cond (.t 28) (.seq (.ops [(none, (.bld (some 29) [(.int .i64 0), (.int .i64 0), (.str []), (.int .i64 0), (.sl .full 4 []), (.int .i64 0), (.int .i64 0), (.int .i64 0)] [(0, 1), (1, 6), (7, 1)] [])), (none, (.st (.t 2) (.t 29) 8)), (none, (.set 3 (.str []))), (none, (.set 4 (.bool false)))]) .ret) .skip)) (.seq (.ops [(none, (.cp 30 6)), (none, (.cp 31 5)), (none, (.sl (some 32) (.t 30) none (some (.t 31)) none true none)), (none, (.bld (some 33) [(.str []), (.bool false)] [(0, 1), (1, 1)] [(0, (.t 32))])), (none, (.box 34 (.t 33))), (none, (.mv 8 34))]) (.seq (.ops [(none, (.cp 35 8)), (none, (.call (some 36) (.k (.func 100 [] [])) [(.t 35)] (some 100))), (none, (.bld (some 37) [(.int .i64 0), (.int .i64 0), (.str []), (.int .i64 0), (.sl .full 4 []), (.int .i64 0), (.int .i64 0), (.int .i64 0)] [(0, 1), (1, 6), (7, 1)] [(0, (.t 36))])), (none, (.alloc 9 [(.int .i64 0), (.int .i64 0), (.str []), (.int .i64 0), (.sl .full 4 []), (.int .i64 0), (.int .i64 0), (.int .i64 0)])), (none, (.st (.t 9) (.t 37) 8))]) (.seq (.seq (.ops [(none, (.fa (some 38) (.t 9) 0)), (none, (.ld (some 39) (.t 38) (.one none)))]) (.block 0 (.seq (.ops [(none, (.bin (some 41) .eql (.t 39) (.k (.int .i64 2)) false false)), (none, (.mv 40 41))]) (.cond (.t 40) (.ops [(none, (.cp 42 8)), (none, (.call (some 43) (.k (.func 90 [] [])) [(.t 42)] (some 100))), (none, (.fa (some 44) (.t 9) 7)), (none, (.st (.t 44) (.t 43) 1))]) (.seq (.seq (.ops [(none, (.bin (some 46) .eql (.t 39) (.k (.int .i64 1)) false false)), (none, (.mv 45 46))]) (.cond (.t 45) .skip (.ops [(none, (.bin (some 47) .eql (.t 39) (.k (.int .i64 3)) false false)), (none, (.mv 45 47))]))) (.cond (.t 45) (.seq (.ops [(none, (.cp 48 8)), (none, (.call (some 49) (.k (.func 92 [] [])) [(.t 48), (.k (.int .i64 5))] (some 100))), (none, (.fa (some 50) (.t 9) 1)), (none, (.fa (some 51) (.t 50) 0)), (none, (.st (.t 51) (.t 49) 4))]) (.seq (.ops [(none, (.cp 52 8)), (none, (.call (some 53) (.k (.func 90 [] [])) [(.t 52)] (some 100))), (none, (.fa (some 54) (.t 9) 1)), (none, (.fa (some 55) (.t 54) 4)), (none, (.fa (some 56) (.t 55) 0)), (none, (.st (.t 56) (.t 53) 1))]) (.ops [(none, (.cp 57 8)), (none, (.call (some 58) (.k (.func 90 [] [])) [(.t 57)] (some 100))), (none, (.fa (some 59) (.t 9) 1)), (none, (.fa (some 60) (.t 59) 4)), (none, (.fa (some 61) (.t 60) 1)), (none, (.st (.t 61) (.t 58) 1))]))) .skip)))))) (.seq (.seq (.ops [(none, (.cp 62 8)), (none, (.nil (some 63) (.t 62))), (none, (.fa (some 64) (.t 63) 1)), (none, (.ld (some 65) (.t 64) (.one none))), (none, (.cp 66 65)), ((some (66, false)), (.cp 67 8)), ((some (66, false)), (.nil (some 68) (.t 67))), ((some (66, false)), (.fa (some 69) (.t 68) 0)), ((some (66, false)), (.ld (some 70) (.t 69) (.one none))), ((some (66, false)), (.bin (some 71) .neq (.t 70) (.k (.str [])) false false)), (none, (.pick (some 72) (.t 66) (.k (.bool true)) (.t 71))), (none, (.cp 73 72)), ((some (73, false)), (.ld (some 74) (.t 9) (.agg 8))), ((some (73, false)), (.call (some 75) (.k (.func 53 [] [])) [(.t 74)] none)), ((some (73, false)), (.un (some 76) .not (.t 75))), (none, (.pick (some 77) (.t 73) (.k (.bool true)) (.t 76)))]) (.cond (.t 77) (.seq (.ops [(none, (.bld (some 78) [(.int .i64 0), (.int .i64 0), (.str []), (.int .i64 0), (.sl .full 4 []), (.int .i64 0), (.int .i64 0), (.int .i64 0)] [(0, 1), (1, 6), (7, 1)] [])), (none, (.st (.t 2) (.t 78) 8)), (none, (.set 3 (.str []))), (none, (.set 4 (.bool false)))]) .ret) .skip)) (.seq (.opsD [(none, (.ld (some 79) (.t 9) (.agg 8))), (none, (.cp 80 6)), (none, (.cp 81 5)), (none, (.sl (some 82) (.t 80) (some (.t 81)) none none true none)), (none, (.st (.t 2) (.t 79) 8)), (none, (.mv 3 82)), (none, (.set 4 (.bool true)))]) .ret))))))))))) := by kernel_rfl
attribute [local go_sem] strip_flS strip_flT isOwn_flS avf_agg strip_avf isOwn_avf avf_len avf_take avf_okc avf_put avf_cstrip
def decFR (r : Rd) : T × Int × Int × Rd := ((decR 5 r).1, (numQ (decR 5 r).2).1, (numQ (numQ (decR 5 r).2).2).1, (numQ (numQ (decR 5 r).2).2).2)
def decKR (x : Rd) : Int × T × Int × Int × Int × Rd :=
  if (oneR x).1 = 1 ∨ (oneR x).1 = 3 then ((oneR x).1, (decFR (oneR x).2).1, (decFR (oneR x).2).2.1, (decFR (oneR x).2).2.2.1, 0, (decFR (oneR x).2).2.2.2)
  else if (oneR x).1 = 2 then (2, .mk 0 [] 0 [], 0, 0, (numQ (oneR x).2).1, (numQ (oneR x).2).2)
  else ((oneR x).1, .mk 0 [] 0 [], 0, 0, 0, (oneR x).2)
def okK (q : Int × T × Int × Int × Int × Rd) : Bool := !q.2.2.2.2.2.2 && (q.2.2.2.2.2.1 == [] && okFr q.1 q.2.1 q.2.2.1 q.2.2.2.1 q.2.2.2.2.1)
def frK (q : Int × T × Int × Int × Int × Rd) : AV := frF q.1 q.2.1 q.2.2.1 q.2.2.2.1 q.2.2.2.2.1
def outR (s : List UInt8) : List AV :=
  if (numP (s, false)).2.2 = true then [fr0, .str [], .bool false] else
  if betw 1 600 (numP (s, false)).1 = false then [fr0, .str [], .bool false] else
  if (numP (s, false)).1 > ((numP (s, false)).2.1.length : Int) then [fr0, .str [], .bool false] else
  if okK (decKR ((numP (s, false)).2.1.take (numP (s, false)).1.toNat, false)) = true then [frK (decKR ((numP (s, false)).2.1.take (numP (s, false)).1.toNat, false)), .str ((numP (s, false)).2.1.drop (numP (s, false)).1.toNat), .bool true] else [fr0, .str [], .bool false]
set_option maxHeartbeats 1600000 in
theorem fn_rTakeFr (s : List UInt8) : PFn Try.prog 56 [.str s] (.tup (outR s)) := by
  intro h
  have hT := fn_rTakeNumber' s
  have n1 : ¬ (h.n = h.n + 1) := by omega
  have n2 : ¬ (h.n + 1 = h.n) := by omega
  have n3 : ¬ (h.n = h.n + 2) := by omega
  have n4 : ¬ (h.n + 2 = h.n) := by omega
  have n5 : ¬ (h.n + 1 = h.n + 2) := by omega
  have n6 : ¬ (h.n + 2 = h.n + 1) := by omega
  unfold outR
  rcases hN : numP (s, false) with ⟨n, rest, bad⟩
  rw [hN] at hT
  simp only at hT ⊢
  refine fnC mixed Try.func56 c56 (by simp) ?_
  have hB := fn_Between n 1 600
  simp only [go_sem, Nat.reduceEqDiff, Nat.reduceAdd, Nat.reduceLeDiff, Nat.reduceLT, ↓reduceIte, reduceCtorEq, Int.reduceLT, Int.reduceToNat, Int.reduceEq, Int.reduceBEq, Int.reduceBNe, Nat.reduceBEq]
  refine pcall hT (by simp only [go_sem, Nat.reduceEqDiff, Nat.reduceAdd, Nat.reduceLeDiff, Nat.reduceLT, ↓reduceIte, reduceCtorEq, Int.reduceLT, Int.reduceToNat, Int.reduceEq, Int.reduceBEq, Int.reduceBNe, Nat.reduceBEq]) ?_
  cases bad with
  | true =>
    simp only [go_sem, Nat.reduceEqDiff, Nat.reduceAdd, Nat.reduceLeDiff, Nat.reduceLT, ↓reduceIte, reduceCtorEq, Int.reduceLT, Int.reduceToNat, Int.reduceEq, Int.reduceBEq, Int.reduceBNe, Nat.reduceBEq]
    exact ⟨rfl, rfl⟩
  | false =>
    simp only [go_sem, Nat.reduceEqDiff, Nat.reduceAdd, Nat.reduceLeDiff, Nat.reduceLT, ↓reduceIte, reduceCtorEq, Int.reduceLT, Int.reduceToNat, Int.reduceEq, Int.reduceBEq, Int.reduceBNe, Nat.reduceBEq]
    refine pcall hB (by simp only [go_sem, Nat.reduceEqDiff, Nat.reduceAdd, Nat.reduceLeDiff, Nat.reduceLT, ↓reduceIte, reduceCtorEq, Int.reduceLT, Int.reduceToNat, Int.reduceEq, Int.reduceBEq, Int.reduceBNe, Nat.reduceBEq]) ?_
    cases hb : betw 1 600 n with
    | false =>
      simp only [go_sem, Nat.reduceEqDiff, Nat.reduceAdd, Nat.reduceLeDiff, Nat.reduceLT, ↓reduceIte, reduceCtorEq, Int.reduceLT, Int.reduceToNat, Int.reduceEq, Int.reduceBEq, Int.reduceBNe, Nat.reduceBEq]
      exact ⟨rfl, rfl⟩
    | true =>
      have hb' : 1 ≤ n ∧ n ≤ 600 := by simpa [betw] using hb
      by_cases hl : n > (rest.length : Int)
      · have hl' : decide (n > (rest.length : Int)) = true := decide_eq_true hl
        simp only [if_pos hl]
        simp only [go_sem, Nat.reduceEqDiff, Nat.reduceAdd, Nat.reduceLeDiff, Nat.reduceLT, ↓reduceIte, reduceCtorEq, Int.reduceLT, Int.reduceToNat, Int.reduceEq, Int.reduceBEq, Int.reduceBNe, Nat.reduceBEq, hl']
        exact ⟨rfl, rfl⟩
      · have hl' : decide (n > (rest.length : Int)) = false := decide_eq_false hl
        simp only [if_neg hl]
        have q0 : (0 : Int) ≤ n := by omega
        have q1 : n.toNat ≤ rest.length := by omega
        have q2 : (rest.drop n.toNat).take (rest.length - n.toNat) = rest.drop n.toNat := List.take_of_length_le (by simp)
        simp only [go_sem, Nat.reduceEqDiff, Nat.reduceAdd, Nat.reduceLeDiff, Nat.reduceLT, ↓reduceIte, reduceCtorEq, Int.reduceLT, Int.reduceToNat, Int.reduceEq, Int.reduceBEq, Int.reduceBNe, Nat.reduceBEq, hl', q0, q1, Nat.sub_zero]
        generalize rest.take n.toNat = y
        have hc := oneR_lt (y, false)
        have hcw := wn hc
        refine ccall (fn_byte (y, false) (h.n + 1) _ (by simp) (by simp [bk_apply, rdB])) (by simp only [go_sem, Nat.reduceEqDiff, Nat.reduceAdd, Nat.reduceLeDiff, Nat.reduceLT, ↓reduceIte, reduceCtorEq, Int.reduceLT, Int.reduceToNat, Int.reduceEq, Int.reduceBEq, Int.reduceBNe, Nat.reduceBEq]) ?_
        unfold decKR
        rcases ho : oneR (y, false) with ⟨c, x1⟩
        rw [ho] at hc hcw
        simp only at hc hcw
        simp only [go_sem, Nat.reduceEqDiff, Nat.reduceAdd, Nat.reduceLeDiff, Nat.reduceLT, ↓reduceIte, reduceCtorEq, Int.reduceLT, Int.reduceToNat, Int.reduceEq, Int.reduceBEq, Int.reduceBNe, Nat.reduceBEq, rd_def, n1, n2, n3, n4, n5, n6, hcw]
        by_cases k2 : c = 2
        · have o : ¬ (c = 1 ∨ c = 3) := by omega
          simp only [if_neg o, if_pos k2]
          have e2 : ((c : Int) == 2) = true := by rw [k2]; rfl
          have kc : (c : Int) = 2 := by rw [k2]; rfl
          simp only [go_sem, Nat.reduceEqDiff, Nat.reduceAdd, Nat.reduceLeDiff, Nat.reduceLT, ↓reduceIte, reduceCtorEq, Int.reduceLT, Int.reduceToNat, Int.reduceEq, Int.reduceBEq, Int.reduceBNe, Nat.reduceBEq, rd_def, n1, n2, n3, n4, n5, n6, e2]
          refine ccall (fn_rnumber x1 (h.n + 1) _ (by simp) (by simp [bk_apply, rdB, n1, n2, n5, n6])) (by simp only [go_sem, Nat.reduceEqDiff, Nat.reduceAdd, Nat.reduceLeDiff, Nat.reduceLT, ↓reduceIte, reduceCtorEq, Int.reduceLT, Int.reduceToNat, Int.reduceEq, Int.reduceBEq, Int.reduceBNe, Nat.reduceBEq]) ?_
          rcases hd : numQ x1 with ⟨nn, xs, xb⟩
          have htk : (T.mk 0 [] 0 []).ok := by rw [ok_mk]; simp
          have hM := fn_rFrameF 2 (.mk 0 [] 0 []) 0 0 nn htk
          unfold okK frK
          simp only
          generalize okFr 2 (.mk 0 [] 0 []) 0 0 nn = m at *
          unfold frF flS at hM ⊢
          simp only [List.map_nil] at hM ⊢
          simp only [go_sem, Nat.reduceEqDiff, Nat.reduceAdd, Nat.reduceLeDiff, Nat.reduceLT, ↓reduceIte, reduceCtorEq, Int.reduceLT, Int.reduceToNat, Int.reduceEq, Int.reduceBEq, Int.reduceBNe, Nat.reduceBEq, rd_def, n1, n2, n3, n4, n5, n6, kc]
          cases xb with
          | true =>
            simp only [go_sem, Nat.reduceEqDiff, Nat.reduceAdd, Nat.reduceLeDiff, Nat.reduceLT, ↓reduceIte, reduceCtorEq, Int.reduceLT, Int.reduceToNat, Int.reduceEq, Int.reduceBEq, Int.reduceBNe, Nat.reduceBEq, rd_def, n1, n2, n3, n4, n5, n6]
            exact ⟨rfl, rfl⟩
          | false =>
            cases he : (xs == []) with
            | false =>
              simp only [go_sem, Nat.reduceEqDiff, Nat.reduceAdd, Nat.reduceLeDiff, Nat.reduceLT, ↓reduceIte, reduceCtorEq, Int.reduceLT, Int.reduceToNat, Int.reduceEq, Int.reduceBEq, Int.reduceBNe, Nat.reduceBEq, rd_def, n1, n2, n3, n4, n5, n6, he]
              exact ⟨rfl, rfl⟩
            | true =>
              simp only [go_sem, Nat.reduceEqDiff, Nat.reduceAdd, Nat.reduceLeDiff, Nat.reduceLT, ↓reduceIte, reduceCtorEq, Int.reduceLT, Int.reduceToNat, Int.reduceEq, Int.reduceBEq, Int.reduceBNe, Nat.reduceBEq, rd_def, n1, n2, n3, n4, n5, n6, he]
              refine pcall hM (by simp only [go_sem, Nat.reduceEqDiff, Nat.reduceAdd, Nat.reduceLeDiff, Nat.reduceLT, ↓reduceIte, reduceCtorEq, Int.reduceLT, Int.reduceToNat, Int.reduceEq, Int.reduceBEq, Int.reduceBNe, Nat.reduceBEq]) ?_
              cases m with
              | false =>
                simp only [go_sem, Nat.reduceEqDiff, Nat.reduceAdd, Nat.reduceLeDiff, Nat.reduceLT, ↓reduceIte, reduceCtorEq, Int.reduceLT, Int.reduceToNat, Int.reduceEq, Int.reduceBEq, Int.reduceBNe, Nat.reduceBEq, rd_def, n1, n2, n3, n4, n5, n6]
                exact ⟨rfl, rfl⟩
              | true =>
                simp only [go_sem, Nat.reduceEqDiff, Nat.reduceAdd, Nat.reduceLeDiff, Nat.reduceLT, ↓reduceIte, reduceCtorEq, Int.reduceLT, Int.reduceToNat, Int.reduceEq, Int.reduceBEq, Int.reduceBNe, Nat.reduceBEq, rd_def, n1, n2, n3, n4, n5, n6, q0, q1, q2]
                all_goals exact labL_avfs _ _
        · have e2 : ((c : Int) == 2) = false := by simp; omega
          by_cases k13 : c = 1 ∨ c = 3
          · simp only [if_pos k13]
            by_cases k1 : c = 1
            · have e1 : ((c : Int) == 1) = true := by rw [k1]; rfl
              simp only [go_sem, Nat.reduceEqDiff, Nat.reduceAdd, Nat.reduceLeDiff, Nat.reduceLT, ↓reduceIte, reduceCtorEq, Int.reduceLT, Int.reduceToNat, Int.reduceEq, Int.reduceBEq, Int.reduceBNe, Nat.reduceBEq, rd_def, n1, n2, n3, n4, n5, n6, e1, e2]
              have htk := decR_ok 5 x1
              refine ccall (fn_decR 5 x1 (h.n + 1) _ (by omega) (by simp) (by simp [bk_apply, rdB, n1, n2, n5, n6])) (by simp only [go_sem, Nat.reduceEqDiff, Nat.reduceAdd, Nat.reduceLeDiff, Nat.reduceLT, ↓reduceIte, reduceCtorEq, Int.reduceLT, Int.reduceToNat, Int.reduceEq, Int.reduceBEq, Int.reduceBNe, Nat.reduceBEq]) ?_
              unfold decFR
              rcases hd : decR 5 x1 with ⟨⟨tk, tn, tv, tl⟩, x2⟩
              rw [hd] at htk
              simp only at htk ⊢
              rw [avf_mk]
              simp only [go_sem, Nat.reduceEqDiff, Nat.reduceAdd, Nat.reduceLeDiff, Nat.reduceLT, ↓reduceIte, reduceCtorEq, Int.reduceLT, Int.reduceToNat, Int.reduceEq, Int.reduceBEq, Int.reduceBNe, Nat.reduceBEq, rd_def, n1, n2, n3, n4, n5, n6]
              refine ccall (fn_rnumber x2 (h.n + 1) _ (by simp) (by simp [bk_apply, rdB, n1, n2, n5, n6])) (by simp only [go_sem, Nat.reduceEqDiff, Nat.reduceAdd, Nat.reduceLeDiff, Nat.reduceLT, ↓reduceIte, reduceCtorEq, Int.reduceLT, Int.reduceToNat, Int.reduceEq, Int.reduceBEq, Int.reduceBNe, Nat.reduceBEq]) ?_
              rcases hd2 : numQ x2 with ⟨a, x3⟩
              simp only
              simp only [go_sem, Nat.reduceEqDiff, Nat.reduceAdd, Nat.reduceLeDiff, Nat.reduceLT, ↓reduceIte, reduceCtorEq, Int.reduceLT, Int.reduceToNat, Int.reduceEq, Int.reduceBEq, Int.reduceBNe, Nat.reduceBEq, rd_def, n1, n2, n3, n4, n5, n6]
              refine ccall (fn_rnumber x3 (h.n + 1) _ (by simp) (by simp [bk_apply, rdB, n1, n2, n5, n6])) (by simp only [go_sem, Nat.reduceEqDiff, Nat.reduceAdd, Nat.reduceLeDiff, Nat.reduceLT, ↓reduceIte, reduceCtorEq, Int.reduceLT, Int.reduceToNat, Int.reduceEq, Int.reduceBEq, Int.reduceBNe, Nat.reduceBEq]) ?_
              rcases hd3 : numQ x3 with ⟨b, xs, xb⟩
              have hM := fn_rFrameF (c : Int) (.mk tk tn tv tl) a b 0 htk
              unfold okK frK
              simp only
              generalize okFr (c : Int) (.mk tk tn tv tl) a b 0 = m at *
              unfold frF at hM ⊢
              simp only at hM ⊢
              simp only [go_sem, Nat.reduceEqDiff, Nat.reduceAdd, Nat.reduceLeDiff, Nat.reduceLT, ↓reduceIte, reduceCtorEq, Int.reduceLT, Int.reduceToNat, Int.reduceEq, Int.reduceBEq, Int.reduceBNe, Nat.reduceBEq, rd_def, n1, n2, n3, n4, n5, n6]
              cases xb with
              | true =>
                simp only [go_sem, Nat.reduceEqDiff, Nat.reduceAdd, Nat.reduceLeDiff, Nat.reduceLT, ↓reduceIte, reduceCtorEq, Int.reduceLT, Int.reduceToNat, Int.reduceEq, Int.reduceBEq, Int.reduceBNe, Nat.reduceBEq, rd_def, n1, n2, n3, n4, n5, n6]
                exact ⟨rfl, rfl⟩
              | false =>
                cases he : (xs == []) with
                | false =>
                  simp only [go_sem, Nat.reduceEqDiff, Nat.reduceAdd, Nat.reduceLeDiff, Nat.reduceLT, ↓reduceIte, reduceCtorEq, Int.reduceLT, Int.reduceToNat, Int.reduceEq, Int.reduceBEq, Int.reduceBNe, Nat.reduceBEq, rd_def, n1, n2, n3, n4, n5, n6, he]
                  exact ⟨rfl, rfl⟩
                | true =>
                  simp only [go_sem, Nat.reduceEqDiff, Nat.reduceAdd, Nat.reduceLeDiff, Nat.reduceLT, ↓reduceIte, reduceCtorEq, Int.reduceLT, Int.reduceToNat, Int.reduceEq, Int.reduceBEq, Int.reduceBNe, Nat.reduceBEq, rd_def, n1, n2, n3, n4, n5, n6, he]
                  refine pcall hM (by simp only [go_sem, Nat.reduceEqDiff, Nat.reduceAdd, Nat.reduceLeDiff, Nat.reduceLT, ↓reduceIte, reduceCtorEq, Int.reduceLT, Int.reduceToNat, Int.reduceEq, Int.reduceBEq, Int.reduceBNe, Nat.reduceBEq]) ?_
                  cases m with
                  | false =>
                    simp only [go_sem, Nat.reduceEqDiff, Nat.reduceAdd, Nat.reduceLeDiff, Nat.reduceLT, ↓reduceIte, reduceCtorEq, Int.reduceLT, Int.reduceToNat, Int.reduceEq, Int.reduceBEq, Int.reduceBNe, Nat.reduceBEq, rd_def, n1, n2, n3, n4, n5, n6]
                    exact ⟨rfl, rfl⟩
                  | true =>
                    simp only [go_sem, Nat.reduceEqDiff, Nat.reduceAdd, Nat.reduceLeDiff, Nat.reduceLT, ↓reduceIte, reduceCtorEq, Int.reduceLT, Int.reduceToNat, Int.reduceEq, Int.reduceBEq, Int.reduceBNe, Nat.reduceBEq, rd_def, n1, n2, n3, n4, n5, n6, q0, q1, q2]
                    all_goals exact labL_avfs _ _
            · have e1 : ((c : Int) == 1) = false := by simp; omega
              have e3 : ((c : Int) == 3) = true := by rw [show c = 3 by omega]; rfl
              simp only [go_sem, Nat.reduceEqDiff, Nat.reduceAdd, Nat.reduceLeDiff, Nat.reduceLT, ↓reduceIte, reduceCtorEq, Int.reduceLT, Int.reduceToNat, Int.reduceEq, Int.reduceBEq, Int.reduceBNe, Nat.reduceBEq, rd_def, n1, n2, n3, n4, n5, n6, e1, e2, e3]
              have htk := decR_ok 5 x1
              refine ccall (fn_decR 5 x1 (h.n + 1) _ (by omega) (by simp) (by simp [bk_apply, rdB, n1, n2, n5, n6])) (by simp only [go_sem, Nat.reduceEqDiff, Nat.reduceAdd, Nat.reduceLeDiff, Nat.reduceLT, ↓reduceIte, reduceCtorEq, Int.reduceLT, Int.reduceToNat, Int.reduceEq, Int.reduceBEq, Int.reduceBNe, Nat.reduceBEq]) ?_
              unfold decFR
              rcases hd : decR 5 x1 with ⟨⟨tk, tn, tv, tl⟩, x2⟩
              rw [hd] at htk
              simp only at htk ⊢
              rw [avf_mk]
              simp only [go_sem, Nat.reduceEqDiff, Nat.reduceAdd, Nat.reduceLeDiff, Nat.reduceLT, ↓reduceIte, reduceCtorEq, Int.reduceLT, Int.reduceToNat, Int.reduceEq, Int.reduceBEq, Int.reduceBNe, Nat.reduceBEq, rd_def, n1, n2, n3, n4, n5, n6]
              refine ccall (fn_rnumber x2 (h.n + 1) _ (by simp) (by simp [bk_apply, rdB, n1, n2, n5, n6])) (by simp only [go_sem, Nat.reduceEqDiff, Nat.reduceAdd, Nat.reduceLeDiff, Nat.reduceLT, ↓reduceIte, reduceCtorEq, Int.reduceLT, Int.reduceToNat, Int.reduceEq, Int.reduceBEq, Int.reduceBNe, Nat.reduceBEq]) ?_
              rcases hd2 : numQ x2 with ⟨a, x3⟩
              simp only
              simp only [go_sem, Nat.reduceEqDiff, Nat.reduceAdd, Nat.reduceLeDiff, Nat.reduceLT, ↓reduceIte, reduceCtorEq, Int.reduceLT, Int.reduceToNat, Int.reduceEq, Int.reduceBEq, Int.reduceBNe, Nat.reduceBEq, rd_def, n1, n2, n3, n4, n5, n6]
              refine ccall (fn_rnumber x3 (h.n + 1) _ (by simp) (by simp [bk_apply, rdB, n1, n2, n5, n6])) (by simp only [go_sem, Nat.reduceEqDiff, Nat.reduceAdd, Nat.reduceLeDiff, Nat.reduceLT, ↓reduceIte, reduceCtorEq, Int.reduceLT, Int.reduceToNat, Int.reduceEq, Int.reduceBEq, Int.reduceBNe, Nat.reduceBEq]) ?_
              rcases hd3 : numQ x3 with ⟨b, xs, xb⟩
              have hM := fn_rFrameF (c : Int) (.mk tk tn tv tl) a b 0 htk
              unfold okK frK
              simp only
              generalize okFr (c : Int) (.mk tk tn tv tl) a b 0 = m at *
              unfold frF at hM ⊢
              simp only at hM ⊢
              simp only [go_sem, Nat.reduceEqDiff, Nat.reduceAdd, Nat.reduceLeDiff, Nat.reduceLT, ↓reduceIte, reduceCtorEq, Int.reduceLT, Int.reduceToNat, Int.reduceEq, Int.reduceBEq, Int.reduceBNe, Nat.reduceBEq, rd_def, n1, n2, n3, n4, n5, n6]
              cases xb with
              | true =>
                simp only [go_sem, Nat.reduceEqDiff, Nat.reduceAdd, Nat.reduceLeDiff, Nat.reduceLT, ↓reduceIte, reduceCtorEq, Int.reduceLT, Int.reduceToNat, Int.reduceEq, Int.reduceBEq, Int.reduceBNe, Nat.reduceBEq, rd_def, n1, n2, n3, n4, n5, n6]
                exact ⟨rfl, rfl⟩
              | false =>
                cases he : (xs == []) with
                | false =>
                  simp only [go_sem, Nat.reduceEqDiff, Nat.reduceAdd, Nat.reduceLeDiff, Nat.reduceLT, ↓reduceIte, reduceCtorEq, Int.reduceLT, Int.reduceToNat, Int.reduceEq, Int.reduceBEq, Int.reduceBNe, Nat.reduceBEq, rd_def, n1, n2, n3, n4, n5, n6, he]
                  exact ⟨rfl, rfl⟩
                | true =>
                  simp only [go_sem, Nat.reduceEqDiff, Nat.reduceAdd, Nat.reduceLeDiff, Nat.reduceLT, ↓reduceIte, reduceCtorEq, Int.reduceLT, Int.reduceToNat, Int.reduceEq, Int.reduceBEq, Int.reduceBNe, Nat.reduceBEq, rd_def, n1, n2, n3, n4, n5, n6, he]
                  refine pcall hM (by simp only [go_sem, Nat.reduceEqDiff, Nat.reduceAdd, Nat.reduceLeDiff, Nat.reduceLT, ↓reduceIte, reduceCtorEq, Int.reduceLT, Int.reduceToNat, Int.reduceEq, Int.reduceBEq, Int.reduceBNe, Nat.reduceBEq]) ?_
                  cases m with
                  | false =>
                    simp only [go_sem, Nat.reduceEqDiff, Nat.reduceAdd, Nat.reduceLeDiff, Nat.reduceLT, ↓reduceIte, reduceCtorEq, Int.reduceLT, Int.reduceToNat, Int.reduceEq, Int.reduceBEq, Int.reduceBNe, Nat.reduceBEq, rd_def, n1, n2, n3, n4, n5, n6]
                    exact ⟨rfl, rfl⟩
                  | true =>
                    simp only [go_sem, Nat.reduceEqDiff, Nat.reduceAdd, Nat.reduceLeDiff, Nat.reduceLT, ↓reduceIte, reduceCtorEq, Int.reduceLT, Int.reduceToNat, Int.reduceEq, Int.reduceBEq, Int.reduceBNe, Nat.reduceBEq, rd_def, n1, n2, n3, n4, n5, n6, q0, q1, q2]
                    all_goals exact labL_avfs _ _
          · have e1 : ((c : Int) == 1) = false := by simp; omega
            have e3 : ((c : Int) == 3) = false := by simp; omega
            simp only [if_neg k13, if_neg k2]
            obtain ⟨xs, xb⟩ := x1
            have htk : (T.mk 0 [] 0 []).ok := by rw [ok_mk]; simp
            have hM := fn_rFrameF (c : Int) (.mk 0 [] 0 []) 0 0 0 htk
            unfold okK frK
            simp only
            generalize okFr (c : Int) (.mk 0 [] 0 []) 0 0 0 = m at *
            unfold frF flS at hM ⊢
            simp only [List.map_nil] at hM ⊢
            simp only [go_sem, Nat.reduceEqDiff, Nat.reduceAdd, Nat.reduceLeDiff, Nat.reduceLT, ↓reduceIte, reduceCtorEq, Int.reduceLT, Int.reduceToNat, Int.reduceEq, Int.reduceBEq, Int.reduceBNe, Nat.reduceBEq, rd_def, n1, n2, n3, n4, n5, n6, e1, e2, e3]
            cases xb with
            | true =>
              simp only [go_sem, Nat.reduceEqDiff, Nat.reduceAdd, Nat.reduceLeDiff, Nat.reduceLT, ↓reduceIte, reduceCtorEq, Int.reduceLT, Int.reduceToNat, Int.reduceEq, Int.reduceBEq, Int.reduceBNe, Nat.reduceBEq, rd_def, n1, n2, n3, n4, n5, n6]
              exact ⟨rfl, rfl⟩
            | false =>
              cases he : (xs == []) with
              | false =>
                simp only [go_sem, Nat.reduceEqDiff, Nat.reduceAdd, Nat.reduceLeDiff, Nat.reduceLT, ↓reduceIte, reduceCtorEq, Int.reduceLT, Int.reduceToNat, Int.reduceEq, Int.reduceBEq, Int.reduceBNe, Nat.reduceBEq, rd_def, n1, n2, n3, n4, n5, n6, he]
                exact ⟨rfl, rfl⟩
              | true =>
                simp only [go_sem, Nat.reduceEqDiff, Nat.reduceAdd, Nat.reduceLeDiff, Nat.reduceLT, ↓reduceIte, reduceCtorEq, Int.reduceLT, Int.reduceToNat, Int.reduceEq, Int.reduceBEq, Int.reduceBNe, Nat.reduceBEq, rd_def, n1, n2, n3, n4, n5, n6, he]
                refine pcall hM (by simp only [go_sem, Nat.reduceEqDiff, Nat.reduceAdd, Nat.reduceLeDiff, Nat.reduceLT, ↓reduceIte, reduceCtorEq, Int.reduceLT, Int.reduceToNat, Int.reduceEq, Int.reduceBEq, Int.reduceBNe, Nat.reduceBEq]) ?_
                cases m with
                | false =>
                  simp only [go_sem, Nat.reduceEqDiff, Nat.reduceAdd, Nat.reduceLeDiff, Nat.reduceLT, ↓reduceIte, reduceCtorEq, Int.reduceLT, Int.reduceToNat, Int.reduceEq, Int.reduceBEq, Int.reduceBNe, Nat.reduceBEq, rd_def, n1, n2, n3, n4, n5, n6]
                  exact ⟨rfl, rfl⟩
                | true =>
                  simp only [go_sem, Nat.reduceEqDiff, Nat.reduceAdd, Nat.reduceLeDiff, Nat.reduceLT, ↓reduceIte, reduceCtorEq, Int.reduceLT, Int.reduceToNat, Int.reduceEq, Int.reduceBEq, Int.reduceBNe, Nat.reduceBEq, rd_def, n1, n2, n3, n4, n5, n6, q0, q1, q2]
                  all_goals exact labL_avfs _ _
/-! It is as the program takes it. -/
theorem numQ_bad {r : Rd} (h : (numQ r).2.2 = false) : r.2 = false := by
  rw [numQ_eq h] at h
  rcases hp : numP r with ⟨n, s, b⟩
  rw [hp] at h; simp only at h; subst h
  rw [(numP_inv hp).2]
theorem numP_bad {r : Rd} (h : (numP r).2.2 = false) : r.2 = false := by
  rcases hp : numP r with ⟨n, s, b⟩
  rw [hp] at h; simp only at h; subst h
  rw [(numP_inv hp).2]
theorem rd_ok {r : Rd} (h : r.2 = false) : r = (r.1, false) := by cases r; simp only at h; subst h; rfl
theorem decR_bad {r : Rd} (d : Nat) (h : (decR d r).2.2 = false) : r.2 = false := by
  cases hb : r.2 with
  | false => rfl
  | true =>
    exfalso
    have ho : oneR r = (0, (r.1, true)) := by
      obtain ⟨s, b⟩ := r; simp only at hb; subst hb; rfl
    cases d <;> (rw [decR, stepR, ho] at h; simp at h)
theorem decF_agree {r : Rd} : ((decF r).2.2.2.2 = false ∧ mayB (decF r).1 = true) → decFR r = decF r := by
  rintro ⟨h1, h2⟩
  unfold decF at h1 h2
  simp only at h1 h2
  have a1 := numP_eq h1
  have h3 := numP_bad h1
  have a2 := numP_eq h3
  have h4 := numP_bad h3
  have h5 : r.2 = false := by
    have := decW_inv 5 r h4
    rw [this]
  have a3 : decR 5 r = decW 5 r := by
    rw [rd_ok h5]; rw [rd_ok h5] at h4 h2; exact dec_agree r.1 ⟨h4, h2⟩
  unfold decFR decF
  rw [a3, a2, a1]
theorem decF_agree' {r : Rd} : ((decFR r).2.2.2.2 = false ∧ mayB (decFR r).1 = true) → decFR r = decF r := by
  rintro ⟨h1, h2⟩
  unfold decFR at h1 h2
  simp only at h1 h2
  have a1 := numQ_eq h1
  have h3 := numQ_bad h1
  have a2 := numQ_eq h3
  have h4 := numQ_bad h3
  have h5 : r.2 = false := decR_bad 5 h4
  have a3 : decW 5 r = decR 5 r := by
    rw [rd_ok h5]; rw [rd_ok h5] at h4 h2; exact dec_agree' r.1 ⟨h4, h2⟩
  unfold decFR decF
  rw [a3, ← a2, ← a1]
theorem okFr_may {k : Int} {t : T} {a b n : Int} (hk : k = 1 ∨ k = 3) (h : okFr k t a b n = true) : mayB t = true := by
  rcases okFr_facts h with ⟨h1, _⟩ | h1
  · omega
  · exact h1.2.2.2.1
theorem decK_agree (x : Rd) (h : okK (decK x) = true ∨ okK (decKR x) = true) : decKR x = decK x := by
  unfold decK decKR at h ⊢
  by_cases k13 : (oneR x).1 = 1 ∨ (oneR x).1 = 3
  · simp only [if_pos k13] at h ⊢
    have ki : (((oneR x).1 : Nat) : Int) = 1 ∨ (((oneR x).1 : Nat) : Int) = 3 := by omega
    have : decFR (oneR x).2 = decF (oneR x).2 := by
      rcases h with h | h
      · simp only [okK, Bool.and_eq_true, Bool.not_eq_true'] at h
        exact decF_agree ⟨h.1, okFr_may ki h.2.2⟩
      · simp only [okK, Bool.and_eq_true, Bool.not_eq_true'] at h
        exact decF_agree' ⟨h.1, okFr_may ki h.2.2⟩
    rw [this]
  · simp only [if_neg k13] at h ⊢
    by_cases k2 : (oneR x).1 = 2
    · simp only [if_pos k2] at h ⊢
      have : numQ (oneR x).2 = numP (oneR x).2 := by
        rcases h with h | h
        · simp only [okK, Bool.and_eq_true, Bool.not_eq_true'] at h; exact numP_eq h.1
        · simp only [okK, Bool.and_eq_true, Bool.not_eq_true'] at h; exact numQ_eq h.1
      rw [this]
    · simp only [if_neg k2]
theorem okK_agree (x : Rd) : okK (decKR x) = okK (decK x) := by
  by_cases h : okK (decK x) = true ∨ okK (decKR x) = true
  · rw [decK_agree x h]
  · simp only [not_or, Bool.not_eq_true] at h; rw [h.1, h.2]
theorem decK_empty : okK (decK ([], false)) = false := by
  unfold decK
  have : oneR ([], false) = (0, ([], true)) := rfl
  rw [this]; rfl
theorem fn_rTakeF (s : List UInt8) : PFn Try.prog 56 [.str s] (.tup (if okTk s = true then [frTk s, .str (lenR s).2.1, .bool true] else [fr0, .str [], .bool false])) := by
  have h := fn_rTakeFr s
  have e : okTk s = (!(lenR s).2.2 && okK (decK ((lenR s).1, false))) := rfl
  have e2 : frTk s = frK (decK ((lenR s).1, false)) := rfl
  rw [e, e2]
  unfold outR at h
  unfold lenR
  rcases hN : numP (s, false) with ⟨n, rest, bad⟩
  rw [hN] at h
  simp only at h ⊢
  have tb : ∀ (n : Int) (q : List UInt8), takeR (q, true) n = ([], (q, true)) := fun n q => by unfold takeR; simp
  cases bad with
  | true =>
    have : takeR (if n > 600 then (rest, true) else (rest, true)) n = ([], (rest, true)) := by rw [ite_self]; exact tb _ _
    rw [this]; simpa using h
  | false =>
    simp only [Bool.false_eq_true, if_false] at h
    cases hb : betw 1 600 n with
    | false =>
      rw [hb, if_pos rfl] at h
      by_cases c : n > 600
      · rw [if_pos c, tb]; simpa using h
      · rw [if_neg c]
        have c0 : n ≤ 0 := by
          have : ¬ (1 ≤ n ∧ n ≤ 600) := fun hh => by
            have : betw 1 600 n = true := by simpa [betw] using hh
            rw [hb] at this; cases this
          omega
        by_cases c1 : n < 0
        · have : takeR (rest, false) n = ([], (rest, true)) := by unfold takeR; simp [c1]
          rw [this]; simpa using h
        · have hn0 : n = 0 := by omega
          have : takeR (rest, false) n = ([], (rest, false)) := by unfold takeR; rw [hn0]; simp
          rw [this]
          simp only [decK_empty, Bool.and_false, Bool.false_eq_true, if_false]
          exact h
    | true =>
      rw [hb, if_neg (by simp)] at h
      have hb' : 1 ≤ n ∧ n ≤ 600 := by simpa [betw] using hb
      rw [if_neg (by omega : ¬ n > 600)]
      by_cases c : n > (rest.length : Int)
      · rw [if_pos c] at h
        have : takeR (rest, false) n = ([], (rest, true)) := by unfold takeR; simp [c]
        rw [this]; simpa using h
      · rw [if_neg c] at h
        have : takeR (rest, false) n = (rest.take n.toNat, (rest.drop n.toNat, false)) := by unfold takeR; rw [if_neg]; simp; omega
        rw [this]
        simp only [Bool.not_false, Bool.true_and]
        rw [okK_agree] at h
        cases hk : okK (decK (rest.take n.toNat, false)) with
        | false => rw [hk] at h; simpa using h
        | true =>
          rw [hk, decK_agree _ (.inl hk)] at h
          simpa using h
end Go.Proofs.Ythaoooohomfkcaa.Ab
