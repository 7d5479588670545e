/- Frames as plain data; whether one may be; whether two are alike. -/
import Derived.Test.YthaoooohomfkcaaWy5
namespace Go.Proofs.Ythaoooohomfkcaa.Ab
set_option linter.unusedVariables false
set_option linter.unusedSimpArgs false
set_option maxRecDepth 10000
attribute [local go_sem] Nat.zero_le Bool.not_true Bool.not_false Bool.false_eq_true if_false if_true forall_const true_and and_true List.map Option.map Bool.and_self Bool.and_true Bool.true_and Bool.false_and Bool.and_false List.getElem?_cons_zero List.getElem?_nil List.getElem?_cons_succ Int.natCast_nonneg Int.toNat_natCast List.length_map List.length_cons List.length_nil Nat.zero_add Nat.le_refl List.drop_zero List.drop_succ_cons List.take_succ_cons List.take_zero List.take_nil ne_eq not_true_eq_false not_false_eq_true upd_same Nat.add_assoc Nat.left_eq_add Nat.add_eq_left Nat.add_left_cancel_iff Nat.succ_ne_self Nat.one_ne_zero Nat.add_zero Nat.le_add_right ite_self List.set_cons_zero List.set_cons_succ List.all_cons List.all_nil bne_self_eq_false List.isEmpty_cons Int.cast_ofNat_Int Nat.mul_one List.nil_append or_self or_true true_or List.cons_append List.append_nil Option.none_beq_some Option.some_beq_some beq_self_eq_true
theorem c126 : compF Try.prog ow Try.f126 = (some (18, ([(.t 2)], (.seq (.ops [(none, (.box 1 (.t 0))), (none, (.set 2 (.bool false)))]) (.seq (.ops [(none, (.fa (some 3) (.t 1) 0)), (none, (.ld (some 4) (.t 3) (.one none))), (none, (.bin (some 5) .geq (.t 4) (.k (.int .i64 (-1073741824))) false false)), (none, (.cp 6 5)), ((some (6, true)), (.fa (some 7) (.t 1) 0)), ((some (6, true)), (.ld (some 8) (.t 7) (.one none))), ((some (6, true)), (.fa (some 9) (.t 1) 1)), ((some (6, true)), (.ld (some 10) (.t 9) (.one none))), ((some (6, true)), (.bin (some 11) .leq (.t 8) (.t 10) false false)), (none, (.pick (some 12) (.t 6) (.t 11) (.k (.bool false)))), (none, (.cp 13 12)), ((some (13, true)), (.fa (some 14) (.t 1) 1)), ((some (13, true)), (.ld (some 15) (.t 14) (.one none))), ((some (13, true)), (.bin (some 16) .leq (.t 15) (.k (.int .i64 1073741824)) false false)), (none, (.pick (some 17) (.t 13) (.t 16) (.k (.bool false)))), (none, (.mv 2 17))]) .ret))))) := by kernel_rfl
theorem c112 : compF Try.prog ow Try.f112 = (some (22, ([(.t 2)], (.seq (.ops [(none, (.box 1 (.t 0))), (none, (.set 2 (.bool false)))]) (.seq (.ops [(none, (.fa (some 3) (.t 1) 0)), (none, (.fa (some 4) (.t 3) 0)), (none, (.ld (some 5) (.t 4) (.one none))), (none, (.bin (some 6) .eql (.t 5) (.k (.int .i64 3)) false false)), (none, (.cp 7 6)), ((some (7, true)), (.fa (some 8) (.t 1) 0)), ((some (7, true)), (.ld (some 9) (.t 8) (.agg 4))), ((some (7, true)), (.call (some 10) (.k (.func 62 [] [])) [(.t 9)] none)), (none, (.pick (some 11) (.t 7) (.t 10) (.k (.bool false)))), (none, (.cp 12 11)), ((some (12, true)), (.fa (some 13) (.t 1) 0)), ((some (12, true)), (.ld (some 14) (.t 13) (.agg 4))), ((some (12, true)), (.call (some 15) (.k (.func 68 [] [])) [(.t 14)] none)), (none, (.pick (some 16) (.t 12) (.t 15) (.k (.bool false)))), (none, (.cp 17 16)), ((some (17, true)), (.fa (some 18) (.t 1) 4)), ((some (17, true)), (.ld (some 19) (.t 18) (.agg 2))), ((some (17, true)), (.call (some 20) (.k (.func 126 [] [])) [(.t 19)] none)), (none, (.pick (some 21) (.t 17) (.t 20) (.k (.bool false)))), (none, (.mv 2 21))]) .ret))))) := by kernel_rfl
theorem c113 : compF Try.prog ow Try.f113 = (some (32, ([(.t 2)], (.seq (.ops [(none, (.box 1 (.t 0))), (none, (.set 2 (.bool false)))]) (.seq (.ops [(none, (.fa (some 3) (.t 1) 0)), (none, (.fa (some 4) (.t 3) 0)), (none, (.ld (some 5) (.t 4) (.one none))), (none, (.bin (some 6) .eql (.t 5) (.k (.int .i64 0)) false false)), (none, (.cp 7 6)), ((some (7, true)), (.fa (some 8) (.t 1) 0)), ((some (7, true)), (.fa (some 9) (.t 8) 1)), ((some (7, true)), (.ld (some 10) (.t 9) (.one none))), ((some (7, true)), (.bin (some 11) .eql (.t 10) (.k (.str [])) false false)), (none, (.pick (some 12) (.t 7) (.t 11) (.k (.bool false)))), (none, (.cp 13 12)), ((some (13, true)), (.fa (some 14) (.t 1) 0)), ((some (13, true)), (.fa (some 15) (.t 14) 2)), ((some (13, true)), (.ld (some 16) (.t 15) (.one none))), ((some (13, true)), (.bin (some 17) .eql (.t 16) (.k (.int .i64 0)) false false)), (none, (.pick (some 18) (.t 13) (.t 17) (.k (.bool false)))), (none, (.cp 19 18)), ((some (19, true)), (.fa (some 20) (.t 1) 0)), ((some (19, true)), (.fa (some 21) (.t 20) 3)), ((some (19, true)), (.ld (some 22) (.t 21) (.one (some 4)))), ((some (19, true)), (.len (some 23) (.t 22) false true)), ((some (19, true)), (.bin (some 24) .eql (.t 23) (.k (.int .i64 0)) false false)), (none, (.pick (some 25) (.t 19) (.t 24) (.k (.bool false)))), (none, (.cp 26 25)), ((some (26, true)), (.fa (some 27) (.t 1) 4)), ((some (26, true)), (.ld (some 28) (.t 27) (.agg 2))), ((some (26, true)), (.bld (some 29) [(.int .i64 0), (.int .i64 0)] [(0, 1), (1, 1)] [])), ((some (26, true)), (.x (some 30) (.eqs false [(.i .i64), (.i .i64)]) [(.t 28), (.t 29)])), (none, (.pick (some 31) (.t 26) (.t 30) (.k (.bool false)))), (none, (.mv 2 31))]) .ret))))) := by kernel_rfl
theorem c93 : compF Try.prog ow Try.f93 = (some (26, ([(.t 2)], (.seq (.ops [(none, (.box 1 (.t 0))), (none, (.set 2 (.bool false)))]) (.seq (.seq (.ops [(none, (.fa (some 3) (.t 1) 0)), (none, (.ld (some 4) (.t 3) (.one none)))]) (.block 0 (.seq (.seq (.ops [(none, (.bin (some 6) .eql (.t 4) (.k (.int .i64 1)) false false)), (none, (.mv 5 6))]) (.cond (.t 5) .skip (.ops [(none, (.bin (some 7) .eql (.t 4) (.k (.int .i64 3)) false false)), (none, (.mv 5 7))]))) (.cond (.t 5) (.seq (.ops [(none, (.fa (some 8) (.t 1) 1)), (none, (.ld (some 9) (.t 8) (.agg 6))), (none, (.call (some 10) (.k (.func 112 [] [])) [(.t 9)] none)), (none, (.cp 11 10)), ((some (11, true)), (.fa (some 12) (.t 1) 7)), ((some (11, true)), (.ld (some 13) (.t 12) (.one none))), ((some (11, true)), (.bin (some 14) .eql (.t 13) (.k (.int .i64 0)) false false)), (none, (.pick (some 15) (.t 11) (.t 14) (.k (.bool false)))), (none, (.mv 2 15))]) .ret) (.seq (.ops [(none, (.bin (some 17) .eql (.t 4) (.k (.int .i64 2)) false false)), (none, (.mv 16 17))]) (.cond (.t 16) (.seq (.ops [(none, (.fa (some 18) (.t 1) 1)), (none, (.ld (some 19) (.t 18) (.agg 6))), (none, (.call (some 20) (.k (.func 113 [] [])) [(.t 19)] none)), (none, (.cp 21 20)), ((some (21, true)), (.fa (some 22) (.t 1) 7)), ((some (21, true)), (.ld (some 23) (.t 22) (.one none))), ((some (21, true)), (.call (some 24) (.k (.func 84 [] [])) [(.t 23)] none)), (none, (.pick (some 25) (.t 21) (.t 24) (.k (.bool false)))), (none, (.mv 2 25))]) .ret) .skip)))))) (.seq (.ops [(none, (.set 2 (.bool false)))]) .ret)))))) := by kernel_rfl
theorem c97 : compF Try.prog ow Try.f97 = (some (17, ([(.t 4)], (.seq (.ops [(none, (.box 2 (.t 0))), (none, (.box 3 (.t 1))), (none, (.set 4 (.bool false)))]) (.seq (.ops [(none, (.fa (some 5) (.t 2) 0)), (none, (.ld (some 6) (.t 5) (.agg 4))), (none, (.fa (some 7) (.t 3) 0)), (none, (.ld (some 8) (.t 7) (.agg 4))), (none, (.call (some 9) (.k (.func 15 [] [])) [(.t 6), (.t 8)] none)), (none, (.cp 10 9)), ((some (10, true)), (.fa (some 11) (.t 2) 4)), ((some (10, true)), (.ld (some 12) (.t 11) (.agg 2))), ((some (10, true)), (.fa (some 13) (.t 3) 4)), ((some (10, true)), (.ld (some 14) (.t 13) (.agg 2))), ((some (10, true)), (.x (some 15) (.eqs false [(.i .i64), (.i .i64)]) [(.t 12), (.t 14)])), (none, (.pick (some 16) (.t 10) (.t 15) (.k (.bool false)))), (none, (.mv 4 16))]) .ret))))) := by kernel_rfl
theorem c52 : compF Try.prog ow Try.f52 = (some (24, ([(.t 4)], (.seq (.ops [(none, (.box 2 (.t 0))), (none, (.box 3 (.t 1))), (none, (.set 4 (.bool false)))]) (.seq (.ops [(none, (.fa (some 5) (.t 2) 0)), (none, (.ld (some 6) (.t 5) (.one none))), (none, (.fa (some 7) (.t 3) 0)), (none, (.ld (some 8) (.t 7) (.one none))), (none, (.bin (some 9) .eql (.t 6) (.t 8) false false)), (none, (.cp 10 9)), ((some (10, true)), (.fa (some 11) (.t 2) 1)), ((some (10, true)), (.ld (some 12) (.t 11) (.agg 6))), ((some (10, true)), (.fa (some 13) (.t 3) 1)), ((some (10, true)), (.ld (some 14) (.t 13) (.agg 6))), ((some (10, true)), (.call (some 15) (.k (.func 97 [] [])) [(.t 12), (.t 14)] none)), (none, (.pick (some 16) (.t 10) (.t 15) (.k (.bool false)))), (none, (.cp 17 16)), ((some (17, true)), (.fa (some 18) (.t 2) 7)), ((some (17, true)), (.ld (some 19) (.t 18) (.one none))), ((some (17, true)), (.fa (some 20) (.t 3) 7)), ((some (17, true)), (.ld (some 21) (.t 20) (.one none))), ((some (17, true)), (.bin (some 22) .eql (.t 19) (.t 21) false false)), (none, (.pick (some 23) (.t 17) (.t 22) (.k (.bool false)))), (none, (.mv 4 23))]) .ret))))) := by kernel_rfl
def facA : T → Int → Int → AV | .mk tk tn tv tl, a, b => .agg [.int .i64 tk, .str tn, .int .i64 tv, .sl .sh 4 (tl.map T.av), .int .i64 a, .int .i64 b]
def facF : T → Int → Int → AV | .mk tk tn tv tl, a, b => .agg [.int .i64 tk, .str tn, .int .i64 tv, .sl (flS tl) 4 (tl.map T.avf), .int .i64 a, .int .i64 b]
def frA (k : Int) : T → Int → Int → Int → AV | .mk tk tn tv tl, a, b, n => .agg [.int .i64 k, .int .i64 tk, .str tn, .int .i64 tv, .sl .sh 4 (tl.map T.av), .int .i64 a, .int .i64 b, .int .i64 n]
def frF (k : Int) : T → Int → Int → Int → AV | .mk tk tn tv tl, a, b, n => .agg [.int .i64 k, .int .i64 tk, .str tn, .int .i64 tv, .sl (flS tl) 4 (tl.map T.avf), .int .i64 a, .int .i64 b, .int .i64 n]
theorem fk_avfs (l : List T) : fkL (l.map T.avf) = l.map T.av := by
  rw [fkL_map, List.map_map]; exact List.map_congr_left fun x _ => fk_avf x
theorem fk_frF (k : Int) (t : T) (a b n : Int) : fk (frF k t a b n) = frA k t a b n := by
  cases t; simp [frF, frA, fk, fkL, fk_avfs]
theorem fk_frA (k : Int) (t : T) (a b n : Int) : fk (frA k t a b n) = frA k t a b n := by
  have h : ∀ x : T, fk x.av = x.av := by
    refine T.ind fun k n v l ih => ?_
    have : fkL (l.map T.av) = l.map T.av := by
      rw [fkL_map, List.map_map]; exact List.map_congr_left fun x hx => ih x hx
    rw [av_mk]; simp [fk, fkL, this]
  cases t with
  | mk tk tn tv tl =>
    have : fkL (tl.map T.av) = tl.map T.av := by
      rw [fkL_map, List.map_map]; exact List.map_congr_left fun x _ => h x
    simp [frA, fk, fkL, this]
theorem evX_span (hp : Hp) (a b c d : Int) : evX (.eqs false [.i .i64, .i .i64]) hp [.agg [.int .i64 a, .int .i64 b], .agg [.int .i64 c, .int .i64 d]] = some (.bool (a == c && b == d), hp) := by
  simp [evX, cellsEq, cellEq]
def spanB (a b : Int) : Bool := decide (a ≥ -1073741824) && (decide (a ≤ b) && decide (b ≤ 1073741824))
theorem fn_spanMay (a b : Int) : PFn Try.prog 126 [.agg [.int .i64 a, .int .i64 b]] (.bool (spanB a b)) := by
  intro h
  refine fnC mixed Try.func126 c126 (by simp) ?_
  unfold spanB
  simp only [go_sem, Nat.reduceEqDiff, Nat.reduceAdd, Nat.reduceLeDiff, Nat.reduceLT, ↓reduceIte, reduceCtorEq, Int.reduceLT, Int.reduceToNat, Int.reduceEq, Int.reduceBEq, Int.reduceBNe, Nat.reduceBEq]
  refine cog (fun h1 => ?_) (fun h1 => ?_)
  · simp only [go_sem, Nat.reduceEqDiff, Nat.reduceAdd, Nat.reduceLeDiff, Nat.reduceLT, ↓reduceIte, reduceCtorEq, Int.reduceLT, Int.reduceToNat, Int.reduceEq, Int.reduceBEq, Int.reduceBNe, Nat.reduceBEq, h1]
    refine cog (fun h2 => ?_) (fun h2 => ?_)
    · simp only [go_sem, Nat.reduceEqDiff, Nat.reduceAdd, Nat.reduceLeDiff, Nat.reduceLT, ↓reduceIte, reduceCtorEq, Int.reduceLT, Int.reduceToNat, Int.reduceEq, Int.reduceBEq, Int.reduceBNe, Nat.reduceBEq, h1, h2]
    · simp only [go_sem, Nat.reduceEqDiff, Nat.reduceAdd, Nat.reduceLeDiff, Nat.reduceLT, ↓reduceIte, reduceCtorEq, Int.reduceLT, Int.reduceToNat, Int.reduceEq, Int.reduceBEq, Int.reduceBNe, Nat.reduceBEq, h1, h2]
  · simp only [go_sem, Nat.reduceEqDiff, Nat.reduceAdd, Nat.reduceLeDiff, Nat.reduceLT, ↓reduceIte, reduceCtorEq, Int.reduceLT, Int.reduceToNat, Int.reduceEq, Int.reduceBEq, Int.reduceBNe, Nat.reduceBEq, h1]
def groundB (t : T) : Bool := decide ((namesL [t]).length = 0)
def kindT : T → Int | .mk k _ _ _ => k
def okFa (t : T) (a b : Int) : Bool := kindT t == 3 && (mayB t && (groundB t && spanB a b))
theorem fn_facIs (t : T) (a b : Int) (ht : t.ok) : PFn Try.prog 112 [facA t a b] (.bool (okFa t a b)) := by
  intro h
  have hM := fn_May t ht
  have hI := fn_Is t ht
  have hL := may_len (t := t)
  obtain ⟨tk, tn, tv, tl⟩ := t
  unfold facA okFa kindT
  rw [av_mk] at hM hI
  simp only
  generalize hm : mayB (T.mk tk tn tv tl) = m at *
  generalize hg : groundB (T.mk tk tn tv tl) = g
  unfold groundB at hg
  rw [hg] at hI
  refine fnC mixed Try.func112 c112 (by simp) ?_
  simp only [go_sem, Nat.reduceEqDiff, Nat.reduceAdd, Nat.reduceLeDiff, Nat.reduceLT, ↓reduceIte, reduceCtorEq, Int.reduceLT, Int.reduceToNat, Int.reduceEq, Int.reduceBEq, Int.reduceBNe, Nat.reduceBEq]
  cases hk : (tk == 3) with
  | false => simp only [go_sem, Nat.reduceEqDiff, Nat.reduceAdd, Nat.reduceLeDiff, Nat.reduceLT, ↓reduceIte, reduceCtorEq, Int.reduceLT, Int.reduceToNat, Int.reduceEq, Int.reduceBEq, Int.reduceBNe, Nat.reduceBEq, hk]
  | true =>
    simp only [go_sem, Nat.reduceEqDiff, Nat.reduceAdd, Nat.reduceLeDiff, Nat.reduceLT, ↓reduceIte, reduceCtorEq, Int.reduceLT, Int.reduceToNat, Int.reduceEq, Int.reduceBEq, Int.reduceBNe, Nat.reduceBEq, hk]
    refine pcall hM (by simp only [go_sem, Nat.reduceEqDiff, Nat.reduceAdd, Nat.reduceLeDiff, Nat.reduceLT, ↓reduceIte, reduceCtorEq, Int.reduceLT, Int.reduceToNat, Int.reduceEq, Int.reduceBEq, Int.reduceBNe, Nat.reduceBEq]) ?_
    cases m with
    | false => simp only [go_sem, Nat.reduceEqDiff, Nat.reduceAdd, Nat.reduceLeDiff, Nat.reduceLT, ↓reduceIte, reduceCtorEq, Int.reduceLT, Int.reduceToNat, Int.reduceEq, Int.reduceBEq, Int.reduceBNe, Nat.reduceBEq]
    | true =>
      have hn := (hL rfl).2.2
      simp only [go_sem, Nat.reduceEqDiff, Nat.reduceAdd, Nat.reduceLeDiff, Nat.reduceLT, ↓reduceIte, reduceCtorEq, Int.reduceLT, Int.reduceToNat, Int.reduceEq, Int.reduceBEq, Int.reduceBNe, Nat.reduceBEq]
      refine pcall (hI (by omega)) (by simp only [go_sem, Nat.reduceEqDiff, Nat.reduceAdd, Nat.reduceLeDiff, Nat.reduceLT, ↓reduceIte, reduceCtorEq, Int.reduceLT, Int.reduceToNat, Int.reduceEq, Int.reduceBEq, Int.reduceBNe, Nat.reduceBEq]) ?_
      cases g with
      | false => simp only [go_sem, Nat.reduceEqDiff, Nat.reduceAdd, Nat.reduceLeDiff, Nat.reduceLT, ↓reduceIte, reduceCtorEq, Int.reduceLT, Int.reduceToNat, Int.reduceEq, Int.reduceBEq, Int.reduceBNe, Nat.reduceBEq]
      | true =>
        simp only [go_sem, Nat.reduceEqDiff, Nat.reduceAdd, Nat.reduceLeDiff, Nat.reduceLT, ↓reduceIte, reduceCtorEq, Int.reduceLT, Int.reduceToNat, Int.reduceEq, Int.reduceBEq, Int.reduceBNe, Nat.reduceBEq]
        refine pcall (fn_spanMay a b) (by simp only [go_sem, Nat.reduceEqDiff, Nat.reduceAdd, Nat.reduceLeDiff, Nat.reduceLT, ↓reduceIte, reduceCtorEq, Int.reduceLT, Int.reduceToNat, Int.reduceEq, Int.reduceBEq, Int.reduceBNe, Nat.reduceBEq]) ?_
        simp only [go_sem, Nat.reduceEqDiff, Nat.reduceAdd, Nat.reduceLeDiff, Nat.reduceLT, ↓reduceIte, reduceCtorEq, Int.reduceLT, Int.reduceToNat, Int.reduceEq, Int.reduceBEq, Int.reduceBNe, Nat.reduceBEq]
def noneB : T → Int → Int → Bool | .mk tk tn tv tl, a, b => tk == 0 && (tn == [] && (tv == 0 && (decide (tl.length = 0) && (a == 0 && b == 0))))
theorem fn_none (t : T) (a b : Int) : PFn Try.prog 113 [facA t a b] (.bool (noneB t a b)) := by
  intro h
  obtain ⟨tk, tn, tv, tl⟩ := t
  unfold facA noneB
  refine fnC mixed Try.func113 c113 (by simp) ?_
  have q : ∀ hp : Hp, evX (.eqs false [.i .i64, .i .i64]) hp [.agg [.int .i64 a, .int .i64 b], .agg [.int .i64 0, .int .i64 0]] = some (.bool (a == 0 && b == 0), hp) := fun hp => evX_span hp a b 0 0
  simp only [go_sem, Nat.reduceEqDiff, Nat.reduceAdd, Nat.reduceLeDiff, Nat.reduceLT, ↓reduceIte, reduceCtorEq, Int.reduceLT, Int.reduceToNat, Int.reduceEq, Int.reduceBEq, Int.reduceBNe, Nat.reduceBEq]
  cases h1 : (tk == 0) with
  | false => simp only [go_sem, Nat.reduceEqDiff, Nat.reduceAdd, Nat.reduceLeDiff, Nat.reduceLT, ↓reduceIte, reduceCtorEq, Int.reduceLT, Int.reduceToNat, Int.reduceEq, Int.reduceBEq, Int.reduceBNe, Nat.reduceBEq, h1]
  | true =>
    cases h2 : (tn == []) with
    | false => simp only [go_sem, Nat.reduceEqDiff, Nat.reduceAdd, Nat.reduceLeDiff, Nat.reduceLT, ↓reduceIte, reduceCtorEq, Int.reduceLT, Int.reduceToNat, Int.reduceEq, Int.reduceBEq, Int.reduceBNe, Nat.reduceBEq, h1, h2]
    | true =>
      cases h3 : (tv == 0) with
      | false => simp only [go_sem, Nat.reduceEqDiff, Nat.reduceAdd, Nat.reduceLeDiff, Nat.reduceLT, ↓reduceIte, reduceCtorEq, Int.reduceLT, Int.reduceToNat, Int.reduceEq, Int.reduceBEq, Int.reduceBNe, Nat.reduceBEq, h1, h2, h3]
      | true =>
        cases h4 : decide (tl.length = 0) with
        | false => simp only [go_sem, Nat.reduceEqDiff, Nat.reduceAdd, Nat.reduceLeDiff, Nat.reduceLT, ↓reduceIte, reduceCtorEq, Int.reduceLT, Int.reduceToNat, Int.reduceEq, Int.reduceBEq, Int.reduceBNe, Nat.reduceBEq, h1, h2, h3, len0, h4]
        | true => simp only [go_sem, Nat.reduceEqDiff, Nat.reduceAdd, Nat.reduceLeDiff, Nat.reduceLT, ↓reduceIte, reduceCtorEq, Int.reduceLT, Int.reduceToNat, Int.reduceEq, Int.reduceBEq, Int.reduceBNe, Nat.reduceBEq, h1, h2, h3, len0, h4, q]
def okFr (k : Int) (t : T) (a b n : Int) : Bool := if k = 1 ∨ k = 3 then okFa t a b && n == 0 else if k = 2 then noneB t a b && okN n else false
theorem fn_wMay (k : Int) (t : T) (a b n : Int) (ht : t.ok) : PFn Try.prog 93 [frA k t a b n] (.bool (okFr k t a b n)) := by
  intro h
  have hI := fn_facIs t a b ht
  have hN := fn_none t a b
  unfold okFr
  generalize okFa t a b = m at *
  generalize noneB t a b = m' at *
  obtain ⟨tk, tn, tv, tl⟩ := t
  unfold facA at hI hN
  unfold frA
  simp only at hI hN ⊢
  refine fnC mixed Try.func93 c93 (by simp) ?_
  by_cases c : k = 1 ∨ k = 3
  · rw [if_pos c]
    by_cases k1 : k = 1
    · have hk : (k == 1) = true := by rw [k1]; rfl
      simp only [go_sem, Nat.reduceEqDiff, Nat.reduceAdd, Nat.reduceLeDiff, Nat.reduceLT, ↓reduceIte, reduceCtorEq, Int.reduceLT, Int.reduceToNat, Int.reduceEq, Int.reduceBEq, Int.reduceBNe, Nat.reduceBEq, hk]
      refine pcall hI (by simp only [go_sem, Nat.reduceEqDiff, Nat.reduceAdd, Nat.reduceLeDiff, Nat.reduceLT, ↓reduceIte, reduceCtorEq, Int.reduceLT, Int.reduceToNat, Int.reduceEq, Int.reduceBEq, Int.reduceBNe, Nat.reduceBEq]) ?_
      cases m with
      | false => simp only [go_sem, Nat.reduceEqDiff, Nat.reduceAdd, Nat.reduceLeDiff, Nat.reduceLT, ↓reduceIte, reduceCtorEq, Int.reduceLT, Int.reduceToNat, Int.reduceEq, Int.reduceBEq, Int.reduceBNe, Nat.reduceBEq]
      | true => simp only [go_sem, Nat.reduceEqDiff, Nat.reduceAdd, Nat.reduceLeDiff, Nat.reduceLT, ↓reduceIte, reduceCtorEq, Int.reduceLT, Int.reduceToNat, Int.reduceEq, Int.reduceBEq, Int.reduceBNe, Nat.reduceBEq]
    · have hk : (k == 1) = false := by simpa using k1
      have hk3 : (k == 3) = true := by rw [show k = 3 by omega]; rfl
      simp only [go_sem, Nat.reduceEqDiff, Nat.reduceAdd, Nat.reduceLeDiff, Nat.reduceLT, ↓reduceIte, reduceCtorEq, Int.reduceLT, Int.reduceToNat, Int.reduceEq, Int.reduceBEq, Int.reduceBNe, Nat.reduceBEq, hk, hk3]
      refine pcall hI (by simp only [go_sem, Nat.reduceEqDiff, Nat.reduceAdd, Nat.reduceLeDiff, Nat.reduceLT, ↓reduceIte, reduceCtorEq, Int.reduceLT, Int.reduceToNat, Int.reduceEq, Int.reduceBEq, Int.reduceBNe, Nat.reduceBEq]) ?_
      cases m with
      | false => simp only [go_sem, Nat.reduceEqDiff, Nat.reduceAdd, Nat.reduceLeDiff, Nat.reduceLT, ↓reduceIte, reduceCtorEq, Int.reduceLT, Int.reduceToNat, Int.reduceEq, Int.reduceBEq, Int.reduceBNe, Nat.reduceBEq]
      | true => simp only [go_sem, Nat.reduceEqDiff, Nat.reduceAdd, Nat.reduceLeDiff, Nat.reduceLT, ↓reduceIte, reduceCtorEq, Int.reduceLT, Int.reduceToNat, Int.reduceEq, Int.reduceBEq, Int.reduceBNe, Nat.reduceBEq]
  · rw [if_neg c]
    have hk : (k == 1) = false := by simp; omega
    have hk3 : (k == 3) = false := by simp; omega
    by_cases k2 : k = 2
    · have hk2 : (k == 2) = true := by rw [k2]; rfl
      rw [if_pos k2]
      simp only [go_sem, Nat.reduceEqDiff, Nat.reduceAdd, Nat.reduceLeDiff, Nat.reduceLT, ↓reduceIte, reduceCtorEq, Int.reduceLT, Int.reduceToNat, Int.reduceEq, Int.reduceBEq, Int.reduceBNe, Nat.reduceBEq, hk, hk3, hk2]
      refine pcall hN (by simp only [go_sem, Nat.reduceEqDiff, Nat.reduceAdd, Nat.reduceLeDiff, Nat.reduceLT, ↓reduceIte, reduceCtorEq, Int.reduceLT, Int.reduceToNat, Int.reduceEq, Int.reduceBEq, Int.reduceBNe, Nat.reduceBEq]) ?_
      cases m' with
      | false => simp only [go_sem, Nat.reduceEqDiff, Nat.reduceAdd, Nat.reduceLeDiff, Nat.reduceLT, ↓reduceIte, reduceCtorEq, Int.reduceLT, Int.reduceToNat, Int.reduceEq, Int.reduceBEq, Int.reduceBNe, Nat.reduceBEq]
      | true =>
        simp only [go_sem, Nat.reduceEqDiff, Nat.reduceAdd, Nat.reduceLeDiff, Nat.reduceLT, ↓reduceIte, reduceCtorEq, Int.reduceLT, Int.reduceToNat, Int.reduceEq, Int.reduceBEq, Int.reduceBNe, Nat.reduceBEq]
        refine pcall (fn_Number n) (by simp only [go_sem, Nat.reduceEqDiff, Nat.reduceAdd, Nat.reduceLeDiff, Nat.reduceLT, ↓reduceIte, reduceCtorEq, Int.reduceLT, Int.reduceToNat, Int.reduceEq, Int.reduceBEq, Int.reduceBNe, Nat.reduceBEq]) ?_
        simp only [go_sem, Nat.reduceEqDiff, Nat.reduceAdd, Nat.reduceLeDiff, Nat.reduceLT, ↓reduceIte, reduceCtorEq, Int.reduceLT, Int.reduceToNat, Int.reduceEq, Int.reduceBEq, Int.reduceBNe, Nat.reduceBEq]
        rfl
    · have hk2 : (k == 2) = false := by simpa using k2
      rw [if_neg k2]
      simp only [go_sem, Nat.reduceEqDiff, Nat.reduceAdd, Nat.reduceLeDiff, Nat.reduceLT, ↓reduceIte, reduceCtorEq, Int.reduceLT, Int.reduceToNat, Int.reduceEq, Int.reduceBEq, Int.reduceBNe, Nat.reduceBEq, hk, hk3, hk2]
theorem fn_EqFact (t u : T) (a b c d : Int) (ht : t.ok) : PFn Try.prog 97 [facA t a b, facA u c d] (.bool (eqT t u && (a == c && b == d))) := by
  intro h
  have hE := fn_eqT t ht u
  generalize eqT t u = m at *
  obtain ⟨tk, tn, tv, tl⟩ := t
  obtain ⟨uk, un, uv, ul⟩ := u
  rw [av_mk, av_mk] at hE
  unfold facA
  refine fnC mixed Try.func97 c97 (by simp) ?_
  have n1 : ¬ (h.n = h.n + 1) := by omega
  have n2 : ¬ (h.n + 1 = h.n) := by omega
  simp only [go_sem, Nat.reduceEqDiff, Nat.reduceAdd, Nat.reduceLeDiff, Nat.reduceLT, ↓reduceIte, reduceCtorEq, Int.reduceLT, Int.reduceToNat, Int.reduceEq, Int.reduceBEq, Int.reduceBNe, Nat.reduceBEq, n1, n2]
  refine pcall hE (by simp only [go_sem, Nat.reduceEqDiff, Nat.reduceAdd, Nat.reduceLeDiff, Nat.reduceLT, ↓reduceIte, reduceCtorEq, Int.reduceLT, Int.reduceToNat, Int.reduceEq, Int.reduceBEq, Int.reduceBNe, Nat.reduceBEq]) ?_
  have q := fun hp => evX_span hp a b c d
  cases m with
  | false => simp only [go_sem, Nat.reduceEqDiff, Nat.reduceAdd, Nat.reduceLeDiff, Nat.reduceLT, ↓reduceIte, reduceCtorEq, Int.reduceLT, Int.reduceToNat, Int.reduceEq, Int.reduceBEq, Int.reduceBNe, Nat.reduceBEq, n1, n2]
  | true => simp only [go_sem, Nat.reduceEqDiff, Nat.reduceAdd, Nat.reduceLeDiff, Nat.reduceLT, ↓reduceIte, reduceCtorEq, Int.reduceLT, Int.reduceToNat, Int.reduceEq, Int.reduceBEq, Int.reduceBNe, Nat.reduceBEq, n1, n2, q]
theorem fn_EqFrame (k : Int) (t : T) (a b n : Int) (k' : Int) (u : T) (c d n' : Int) (ht : t.ok) : PFn Try.prog 52 [frA k t a b n, frA k' u c d n'] (.bool (k == k' && ((eqT t u && (a == c && b == d)) && n == n'))) := by
  intro h
  have hE := fn_EqFact t u a b c d ht
  generalize (eqT t u && (a == c && b == d)) = m at *
  obtain ⟨tk, tn, tv, tl⟩ := t
  obtain ⟨uk, un, uv, ul⟩ := u
  unfold facA at hE
  unfold frA
  simp only at hE ⊢
  refine fnC mixed Try.func52 c52 (by simp) ?_
  have n1 : ¬ (h.n = h.n + 1) := by omega
  have n2 : ¬ (h.n + 1 = h.n) := by omega
  cases hk : (k == k') with
  | false => simp only [go_sem, Nat.reduceEqDiff, Nat.reduceAdd, Nat.reduceLeDiff, Nat.reduceLT, ↓reduceIte, reduceCtorEq, Int.reduceLT, Int.reduceToNat, Int.reduceEq, Int.reduceBEq, Int.reduceBNe, Nat.reduceBEq, n1, n2, hk]
  | true =>
    simp only [go_sem, Nat.reduceEqDiff, Nat.reduceAdd, Nat.reduceLeDiff, Nat.reduceLT, ↓reduceIte, reduceCtorEq, Int.reduceLT, Int.reduceToNat, Int.reduceEq, Int.reduceBEq, Int.reduceBNe, Nat.reduceBEq, n1, n2, hk]
    refine pcall hE (by simp only [go_sem, Nat.reduceEqDiff, Nat.reduceAdd, Nat.reduceLeDiff, Nat.reduceLT, ↓reduceIte, reduceCtorEq, Int.reduceLT, Int.reduceToNat, Int.reduceEq, Int.reduceBEq, Int.reduceBNe, Nat.reduceBEq]) ?_
    cases m with
    | false => simp only [go_sem, Nat.reduceEqDiff, Nat.reduceAdd, Nat.reduceLeDiff, Nat.reduceLT, ↓reduceIte, reduceCtorEq, Int.reduceLT, Int.reduceToNat, Int.reduceEq, Int.reduceBEq, Int.reduceBNe, Nat.reduceBEq, n1, n2]
    | true => simp only [go_sem, Nat.reduceEqDiff, Nat.reduceAdd, Nat.reduceLeDiff, Nat.reduceLT, ↓reduceIte, reduceCtorEq, Int.reduceLT, Int.reduceToNat, Int.reduceEq, Int.reduceBEq, Int.reduceBNe, Nat.reduceBEq, n1, n2]
end Go.Proofs.Ythaoooohomfkcaa.Ab
