/- What the wire's laws are asked: how heavy. -/
import Derived.Test.YthaoooohomfkcaaWy5
namespace Go.Proofs.Ythaoooohomfkcaa.Ab
set_option linter.unusedVariables false
set_option linter.unusedSimpArgs false
set_option maxRecDepth 10000
attribute [local go_sem] Nat.zero_le Bool.not_true Bool.not_false Bool.false_eq_true if_false if_true forall_const true_and and_true List.map Option.map Bool.and_self Bool.and_true Bool.true_and Bool.false_and Bool.and_false List.getElem?_cons_zero List.getElem?_nil List.getElem?_cons_succ Int.natCast_nonneg Int.toNat_natCast List.length_map List.length_cons List.length_nil Nat.zero_add Nat.le_refl List.drop_zero List.drop_succ_cons List.take_succ_cons List.take_zero List.take_nil ne_eq not_true_eq_false not_false_eq_true upd_same Nat.add_assoc Nat.left_eq_add Nat.add_eq_left Nat.add_left_cancel_iff Nat.succ_ne_self Nat.one_ne_zero Nat.add_zero Nat.le_add_right ite_self List.set_cons_zero List.set_cons_succ List.all_cons List.all_nil bne_self_eq_false List.isEmpty_cons Int.cast_ofNat_Int Nat.mul_one List.nil_append or_self or_true true_or List.cons_append List.append_nil Option.none_beq_some Option.some_beq_some beq_self_eq_true
theorem c41 : compF Try.prog ow Try.f41 = (some (4, ([(.t 2)], (.seq (.ops [(none, (.set 2 (.int .i64 0)))]) (.seq (.ops [(none, (.mv 3 0)), (none, (.mv 2 3))]) .ret))))) := by kernel_rfl
theorem c36 : compF Try.prog ow Try.f36 = (some (40, ([(.t 2)], (.seq (.ops [(none, (.box 1 (.t 0))), (none, (.set 2 (.bool false)))]) (.seq (.ops [(none, (.fa (some 5) (.t 1) 2)), (none, (.ld (some 6) (.t 5) (.one (some 1)))), (none, (.len (some 7) (.t 6) false true)), (none, (.fa (some 8) (.t 1) 3)), (none, (.ld (some 9) (.t 8) (.one (some 8)))), (none, (.len (some 10) (.t 9) false true)), (none, (.bin (some 11) .add (.t 7) (.t 10) false false)), (none, (.mv 3 11))]) (.seq (.seq (.ops [(none, (.set 4 (.int .i64 0)))]) (.block 0 (.loop (.seq (.seq (.ops [(none, (.cp 12 4)), (none, (.fa (some 13) (.t 1) 3)), (none, (.ld (some 14) (.t 13) (.one (some 8)))), (none, (.len (some 15) (.t 14) false true)), (none, (.bin (some 16) .lss (.t 12) (.t 15) false false)), (none, (.cp 17 16)), ((some (17, true)), (.cp 18 3)), ((some (17, true)), (.bin (some 19) .lss (.t 18) (.k (.int .i64 1048576)) false false)), (none, (.pick (some 20) (.t 17) (.t 19) (.k (.bool false))))]) (.cond (.t 20) .skip (.exit 0))) (.seq (.block 1 (.ops [(none, (.cp 23 3)), (none, (.fa (some 24) (.t 1) 3)), (none, (.ld (some 25) (.t 24) (.one (some 8)))), (none, (.cp 26 4)), (none, (.ia (some 27) (.t 25) (.t 26) (some 8) none)), (none, (.fa (some 28) (.t 27) 1)), (none, (.fa (some 29) (.t 28) 0)), (none, (.ld (some 30) (.t 29) (.agg 4))), (none, (.call (some 31) (.k (.func 83 [] [])) [(.t 30), (.k (.int .i64 30))] none)), (none, (.bin (some 32) .add (.t 23) (.t 31) false false)), (none, (.mv 3 32))])) (.ops [(none, (.cp 21 4)), (none, (.bin (some 22) .add (.t 21) (.k (.int .i64 1)) false false)), (none, (.mv 4 22))])))))) (.seq (.ops [(none, (.cp 33 3)), (none, (.bin (some 34) .gtr (.t 33) (.k (.int .i64 2000)) false false)), (none, (.cp 35 34)), ((some (35, false)), (.fa (some 36) (.t 1) 0)), ((some (35, false)), (.ld (some 37) (.t 36) (.agg 2))), ((some (35, false)), (.call (some 38) (.k (.func 11 [] [])) [(.t 37)] none)), (none, (.pick (some 39) (.t 35) (.k (.bool true)) (.t 38))), (none, (.mv 2 39))]) .ret))))))) := by kernel_rfl
theorem c48 : compF Try.prog ow Try.f48 = (some (14, ([(.t 0)], (.seq (.ops [(none, (.set 0 (.bool false)))]) (.seq (.ops [(none, (.call (some 4) (.k (.func 37 [] [])) [(.k (.int .i64 (-1)))] none)), (none, (.cp 3 4)), (none, (.ext (some 5) (.t 3) 0)), (none, (.ext (some 6) (.t 3) 1)), (none, (.mv 1 5)), (none, (.mv 2 6))]) (.seq (.ops [(none, (.cp 7 2)), (none, (.call (some 8) (.k (.func 41 [] [])) [(.t 7)] none)), (none, (.bin (some 9) .eql (.t 8) (.k (.int .i64 0)) false false)), (none, (.cp 10 9)), ((some (10, true)), (.cp 11 1)), ((some (10, true)), (.bin (some 12) .eql (.t 11) (.k (.str [1])) false false)), (none, (.pick (some 13) (.t 10) (.t 12) (.k (.bool false)))), (none, (.mv 0 13))]) .ret)))))) := by kernel_rfl
theorem fn_num20 (c : Int) : PFn Try.prog 41 [.int .i64 c] (.int .i64 c) := by
  intro h
  refine fnC mixed Try.func41 c41 (by simp) ?_
  simp only [go_sem, Nat.reduceEqDiff, Nat.reduceAdd, Nat.reduceLeDiff, Nat.reduceLT, ↓reduceIte, reduceCtorEq, Int.reduceLT, Int.reduceToNat, Int.reduceEq, Int.reduceBEq, Int.reduceBNe, Nat.reduceBEq]
theorem fn_wakes20 : PFn Try.prog 48 [] (.bool true) := by
  intro h
  refine fnC mixed Try.func48 c48 (by simp) ?_
  have hn := fn_wNumber (-1)
  have e : vbs (zz (-1)) = [1] := by unfold vbs; rw [show zz (-1) = 1 from rfl, vb_lt (by omega)]; rfl
  rw [e] at hn
  have o : okN (-1) = true := by decide
  rw [o] at hn
  simp only [if_true] at hn
  simp only [go_sem, Nat.reduceEqDiff, Nat.reduceAdd, Nat.reduceLeDiff, Nat.reduceLT, ↓reduceIte, reduceCtorEq, Int.reduceLT, Int.reduceToNat, Int.reduceEq, Int.reduceBEq, Int.reduceBNe, Nat.reduceBEq]
  refine pcall hn (by simp only [go_sem, Nat.reduceEqDiff, Nat.reduceAdd, Nat.reduceLeDiff, Nat.reduceLT, ↓reduceIte, reduceCtorEq, Int.reduceLT, Int.reduceToNat, Int.reduceEq, Int.reduceBEq, Int.reduceBNe, Nat.reduceBEq]) ?_
  simp only [go_sem, Nat.reduceEqDiff, Nat.reduceAdd, Nat.reduceLeDiff, Nat.reduceLT, ↓reduceIte, reduceCtorEq, Int.reduceLT, Int.reduceToNat, Int.reduceEq, Int.reduceBEq, Int.reduceBNe, Nat.reduceBEq]
  refine pcall (fn_num20 0) (by simp only [go_sem, Nat.reduceEqDiff, Nat.reduceAdd, Nat.reduceLeDiff, Nat.reduceLT, ↓reduceIte, reduceCtorEq, Int.reduceLT, Int.reduceToNat, Int.reduceEq, Int.reduceBEq, Int.reduceBNe, Nat.reduceBEq]) ?_
  simp only [go_sem, Nat.reduceEqDiff, Nat.reduceAdd, Nat.reduceLeDiff, Nat.reduceLT, ↓reduceIte, reduceCtorEq, Int.reduceLT, Int.reduceToNat, Int.reduceEq, Int.reduceBEq, Int.reduceBNe, Nat.reduceBEq]
  try rfl
structure Fr where
  k : Int
  t : T
  a : Int
  b : Int
  n : Int
def Fr.av (f : Fr) : AV := .agg [.int .i64 f.k, .int .i64 (match f.t with | .mk k _ _ _ => k), .str (match f.t with | .mk _ n _ _ => n), .int .i64 (match f.t with | .mk _ _ v _ => v), .sl .sh 4 (match f.t with | .mk _ _ _ l => l.map T.av), .int .i64 f.a, .int .i64 f.b, .int .i64 f.n]
theorem Fr.cells_take (f : Fr) : AV.agg ((f.av.cells.drop 1).take 4) = f.t.av := by
  obtain ⟨k, t, a, b, n⟩ := f
  cases t
  rw [av_mk]; rfl
theorem Fr.len (f : Fr) : f.av.cells.length = 8 := rfl
def wFs : List Fr → Int → Int | [], n => n | f :: l, n => if decide (n < 1048576) = true then wFs l (IntKind.i64.wrap (n + wT f.t 30)) else n
def heavy20 (l : List T) (s : List (List UInt8)) (ns : List Int) (fs : List Fr) : Bool := decide (wFs fs (IntKind.i64.wrap ((ns.length : Int) + fs.length)) > 2000) || heavyB l s
def ask20 (l : List T) (s : List (List UInt8)) (ns : List Int) (fs : List Fr) : AV := .agg [.sl .sh 4 (l.map T.av), .sl .sh 1 (s.map AV.str), .sl .sh 1 (ns.map (AV.int .i64)), .sl .sh 8 (fs.map Fr.av)]
theorem fn_Heavy20 (l : List T) (s : List (List UInt8)) (ns : List Int) (fs : List Fr) (hl : l.length < 1000000000000000) (ho : ∀ x ∈ l, x.ok) (hs : s.length < 1000000000000000) (hf : fs.length < 1000000000000000) (hfo : ∀ f ∈ fs, f.t.ok) : PFn Try.prog 36 [ask20 l s ns fs] (.bool (heavy20 l s ns fs)) := by
  intro h
  unfold ask20
  refine fnC mixed Try.func36 c36 (by simp) ?_
  simp only [go_sem, Nat.reduceEqDiff, Nat.reduceAdd, Nat.reduceLeDiff, Nat.reduceLT, ↓reduceIte, reduceCtorEq, Int.reduceLT, Int.reduceToNat, Int.reduceEq, Int.reduceBEq, Int.reduceBNe, Nat.reduceBEq]
  refine cloop (fun k t => ∃ (i : Nat) (q : Int), i + k = fs.length ∧ t.fr 1 = .ptr h.n 0 ∧ t.fr 3 = .int .i64 q ∧ t.fr 4 = .int .i64 (i : Nat) ∧ wFs (fs.drop i) q = wFs fs (IntKind.i64.wrap ((ns.length : Int) + fs.length)) ∧ t.hp = ⟨h.n + 1, updB h.bk h.n (.cells [.sl .sh 4 (l.map T.av), .sl .sh 1 (s.map AV.str), .sl .sh 1 (ns.map (AV.int .i64)), .sl .sh 8 (fs.map Fr.av)])⟩) fs.length ⟨0, IntKind.i64.wrap ((ns.length : Int) + fs.length), by simp, by simp [fr_apply, argsF], by simp [fr_apply, argsF], by simp [fr_apply, argsF], by simp, by simp⟩ ?_
  rintro k ⟨f, hp⟩ ⟨i, q, hk, f1, f3, f4, he, rfl⟩
  simp only at f1 f3 f4
  simp only [go_sem, Nat.reduceEqDiff, Nat.reduceAdd, Nat.reduceLeDiff, Nat.reduceLT, ↓reduceIte, reduceCtorEq, Int.reduceLT, Int.reduceToNat, Int.reduceEq, Int.reduceBEq, Int.reduceBNe, Nat.reduceBEq, f1, f3, f4]
  by_cases hi : i < fs.length
  · have hd : decide ((i : Int) < (fs.length : Int)) = true := by simpa using hi
    have hx : (fs.map Fr.av)[i]? = some fs[i].av := by simp [hi]
    rw [List.drop_eq_getElem_cons hi, wFs] at he
    have hcl : List.length fs[i].av.cells = 8 := rfl
    have hct := Fr.cells_take fs[i]
    simp only [go_sem, Nat.reduceEqDiff, Nat.reduceAdd, Nat.reduceLeDiff, Nat.reduceLT, ↓reduceIte, reduceCtorEq, Int.reduceLT, Int.reduceToNat, Int.reduceEq, Int.reduceBEq, Int.reduceBNe, Nat.reduceBEq, hd, f1, f3, f4]
    refine cif (fun h1 => ?_) (fun h1 => ?_)
    · rw [if_pos h1] at he
      have e1 : IntKind.i64.wrap ((i : Int) + 1) = ((i + 1 : Nat) : Int) := by rw [wrap64] <;> omega
      have p1 : (1 : Nat) ≤ fs[i].av.cells.length := by rw [hcl]; omega
      have p4 : (4 : Nat) ≤ (fs[i].av.cells.drop 1).length := by rw [List.length_drop, hcl]; omega
      simp only [go_sem, Nat.reduceEqDiff, Nat.reduceAdd, Nat.reduceLeDiff, Nat.reduceLT, ↓reduceIte, reduceCtorEq, Int.reduceLT, Int.reduceToNat, Int.reduceEq, Int.reduceBEq, Int.reduceBNe, Nat.reduceBEq, f1, f3, f4, hx, p1, p4, hct]
      refine pcall (fn_weight fs[i].t (hfo _ (List.getElem_mem hi)) 30) (by simp only [go_sem, Nat.reduceEqDiff, Nat.reduceAdd, Nat.reduceLeDiff, Nat.reduceLT, ↓reduceIte, reduceCtorEq, Int.reduceLT, Int.reduceToNat, Int.reduceEq, Int.reduceBEq, Int.reduceBNe, Nat.reduceBEq]) ?_
      simp only [go_sem, Nat.reduceEqDiff, Nat.reduceAdd, Nat.reduceLeDiff, Nat.reduceLT, ↓reduceIte, reduceCtorEq, Int.reduceLT, Int.reduceToNat, Int.reduceEq, Int.reduceBEq, Int.reduceBNe, Nat.reduceBEq, f1, f3, f4, e1]
      exact ⟨k - 1, by omega, i + 1, _, by omega, rfl, rfl, he⟩
    · rw [if_neg (by simpa using h1)] at he
      simp only [go_sem, Nat.reduceEqDiff, Nat.reduceAdd, Nat.reduceLeDiff, Nat.reduceLT, ↓reduceIte, reduceCtorEq, Int.reduceLT, Int.reduceToNat, Int.reduceEq, Int.reduceBEq, Int.reduceBNe, Nat.reduceBEq, f1, f3, f4]
      have hh : heavy20 l s ns fs = (decide (q > 2000) || heavyB l s) := by unfold heavy20; rw [← he]
      rw [hh]
      by_cases h2 : q > 2000
      · have h3 : decide (q > 2000) = true := by simpa using h2
        simp only [go_sem, Nat.reduceEqDiff, Nat.reduceAdd, Nat.reduceLeDiff, Nat.reduceLT, ↓reduceIte, reduceCtorEq, Int.reduceLT, Int.reduceToNat, Int.reduceEq, Int.reduceBEq, Int.reduceBNe, Nat.reduceBEq, f1, f3, f4, h3, Bool.true_or]
      · have h3 : decide (q > 2000) = false := by simpa using h2
        simp only [go_sem, Nat.reduceEqDiff, Nat.reduceAdd, Nat.reduceLeDiff, Nat.reduceLT, ↓reduceIte, reduceCtorEq, Int.reduceLT, Int.reduceToNat, Int.reduceEq, Int.reduceBEq, Int.reduceBNe, Nat.reduceBEq, f1, f3, f4, h3, Bool.false_or]
        refine pcall (fn_Heavy l s hl ho hs) (by simp only [go_sem, Nat.reduceEqDiff, Nat.reduceAdd, Nat.reduceLeDiff, Nat.reduceLT, ↓reduceIte, reduceCtorEq, Int.reduceLT, Int.reduceToNat, Int.reduceEq, Int.reduceBEq, Int.reduceBNe, Nat.reduceBEq]) ?_
        simp only [go_sem, Nat.reduceEqDiff, Nat.reduceAdd, Nat.reduceLeDiff, Nat.reduceLT, ↓reduceIte, reduceCtorEq, Int.reduceLT, Int.reduceToNat, Int.reduceEq, Int.reduceBEq, Int.reduceBNe, Nat.reduceBEq, f1, f3, f4]
  · have hd : decide ((i : Int) < (fs.length : Int)) = false := by simpa using hi
    rw [List.drop_eq_nil_of_le (by omega), wFs] at he
    simp only [go_sem, Nat.reduceEqDiff, Nat.reduceAdd, Nat.reduceLeDiff, Nat.reduceLT, ↓reduceIte, reduceCtorEq, Int.reduceLT, Int.reduceToNat, Int.reduceEq, Int.reduceBEq, Int.reduceBNe, Nat.reduceBEq, f1, f3, f4, hd]
    have hh : heavy20 l s ns fs = (decide (q > 2000) || heavyB l s) := by unfold heavy20; rw [← he]
    rw [hh]
    by_cases h2 : q > 2000
    · have h3 : decide (q > 2000) = true := by simpa using h2
      simp only [go_sem, Nat.reduceEqDiff, Nat.reduceAdd, Nat.reduceLeDiff, Nat.reduceLT, ↓reduceIte, reduceCtorEq, Int.reduceLT, Int.reduceToNat, Int.reduceEq, Int.reduceBEq, Int.reduceBNe, Nat.reduceBEq, f1, f3, f4, h3, Bool.true_or]
    · have h3 : decide (q > 2000) = false := by simpa using h2
      simp only [go_sem, Nat.reduceEqDiff, Nat.reduceAdd, Nat.reduceLeDiff, Nat.reduceLT, ↓reduceIte, reduceCtorEq, Int.reduceLT, Int.reduceToNat, Int.reduceEq, Int.reduceBEq, Int.reduceBNe, Nat.reduceBEq, f1, f3, f4, h3, Bool.false_or]
      refine pcall (fn_Heavy l s hl ho hs) (by simp only [go_sem, Nat.reduceEqDiff, Nat.reduceAdd, Nat.reduceLeDiff, Nat.reduceLT, ↓reduceIte, reduceCtorEq, Int.reduceLT, Int.reduceToNat, Int.reduceEq, Int.reduceBEq, Int.reduceBNe, Nat.reduceBEq]) ?_
      simp only [go_sem, Nat.reduceEqDiff, Nat.reduceAdd, Nat.reduceLeDiff, Nat.reduceLT, ↓reduceIte, reduceCtorEq, Int.reduceLT, Int.reduceToNat, Int.reduceEq, Int.reduceBEq, Int.reduceBNe, Nat.reduceBEq, f1, f3, f4]
end Go.Proofs.Ythaoooohomfkcaa.Ab
