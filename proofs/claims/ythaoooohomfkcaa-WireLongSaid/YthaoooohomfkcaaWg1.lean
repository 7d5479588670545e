/- WireLong's walk: the law. -/
import Derived.Test.YthaoooohomfkcaaWg0
import Derived.Test.YthaoooohomfkcaaWu0
import Derived.Test.YthaoooohomfkcaaWq0
namespace Go.Proofs.Ythaoooohomfkcaa.Ab
set_option linter.unusedVariables false
set_option linter.unusedSimpArgs false
set_option maxRecDepth 10000
attribute [local go_sem] Nat.zero_le Bool.not_true Bool.not_false Bool.false_eq_true if_false if_true forall_const true_and and_true List.map Option.map Bool.and_self Bool.and_true Bool.true_and Bool.false_and Bool.and_false List.getElem?_cons_zero List.getElem?_nil List.getElem?_cons_succ Int.natCast_nonneg Int.toNat_natCast List.length_map List.length_cons List.length_nil Nat.zero_add Nat.le_refl List.drop_zero List.drop_succ_cons List.take_succ_cons List.take_zero List.take_nil ne_eq not_true_eq_false not_false_eq_true upd_same Nat.add_assoc Nat.left_eq_add Nat.add_eq_left Nat.add_left_cancel_iff Nat.succ_ne_self Nat.one_ne_zero Nat.add_zero Nat.le_add_right ite_self List.set_cons_zero List.set_cons_succ List.all_cons List.all_nil bne_self_eq_false List.isEmpty_cons Int.cast_ofNat_Int Nat.mul_one List.nil_append or_self or_true true_or List.cons_append List.append_nil Option.none_beq_some Option.some_beq_some beq_self_eq_true
theorem c8 : compF Try.prog ow Try.f8 = (some (102, ([(.t 2)], (.seq (.ops [(none, (.box 1 (.t 0))), (none, (.set 2 (.bool false)))]) (.seq (.ops [(none, (.set 3 (.str [97, 97, 97, 97, 97, 97, 97, 97, 97, 97, 97, 97, 97, 97, 97, 97])))]) (.seq (.ops [(none, (.cp 15 3)), (none, (.bld (some 16) [(.int .i64 0), (.str []), (.int .i64 0), (.sl .full 4 [])] [(0, 1), (1, 1), (2, 1), (3, 1)] [(0, (.k (.int .i64 3))), (1, (.t 15))])), (none, (.alloc 4 [(.int .i64 0), (.str []), (.int .i64 0), (.sl .full 4 [])])), (none, (.st (.t 4) (.t 16) 4))]) (.seq (.seq (.ops [(none, (.set 5 (.int .i64 0)))]) (.block 0 (.loop (.seq (.seq (.ops [(none, (.cp 17 5)), (none, (.bin (some 18) .lss (.t 17) (.k (.int .i64 4)) false false))]) (.cond (.t 18) .skip (.exit 0))) (.seq (.block 1 (.seq (.ops [(none, (.cp 21 3)), (none, (.bld (some 22) [(.int .i64 0), (.str []), (.int .i64 0), (.sl .full 4 [])] [(0, 1), (1, 1), (2, 1), (3, 1)] [(0, (.k (.int .i64 3))), (1, (.t 21))])), (none, (.alloc 6 [(.int .i64 0), (.str []), (.int .i64 0), (.sl .full 4 [])])), (none, (.st (.t 6) (.t 22) 4))]) (.seq (.seq (.ops [(none, (.set 7 (.int .i64 0)))]) (.block 2 (.loop (.seq (.seq (.ops [(none, (.cp 23 7)), (none, (.bin (some 24) .lss (.t 23) (.k (.int .i64 4)) false false))]) (.cond (.t 24) .skip (.exit 2))) (.seq (.block 3 (.seq (.ops [(none, (.cp 27 3)), (none, (.bld (some 28) [(.int .i64 0), (.str []), (.int .i64 0), (.sl .full 4 [])] [(0, 1), (1, 1), (2, 1), (3, 1)] [(0, (.k (.int .i64 3))), (1, (.t 27))])), (none, (.alloc 8 [(.int .i64 0), (.str []), (.int .i64 0), (.sl .full 4 [])])), (none, (.st (.t 8) (.t 28) 4))]) (.seq (.seq (.ops [(none, (.cp 29 5)), (none, (.bin (some 30) .lss (.t 29) (.k (.int .i64 3)) false false)), (none, (.cp 31 30)), ((some (31, true)), (.cp 32 7)), ((some (31, true)), (.bin (some 33) .eql (.t 32) (.k (.int .i64 0)) false false)), (none, (.pick (some 34) (.t 31) (.t 33) (.k (.bool false))))]) (.cond (.t 34) (.ops [(none, (.cp 35 3)), (none, (.bld (some 36) [(.int .i64 0), (.str []), (.int .i64 0), (.sl .full 4 [])] [(0, 1), (1, 1), (2, 1), (3, 1)] [(0, (.k (.int .i64 3))), (1, (.t 35))])), (none, (.bs 37 4 [(.t 36)])), (none, (.fa (some 38) (.t 8) 3)), (none, (.st (.t 38) (.t 37) 1))]) .skip)) (.ops [(none, (.fa (some 39) (.t 6) 3)), (none, (.ldT 40 (.t 39) (some 4))), (none, (.ld (some 41) (.t 8) (.agg 4))), (none, (.bs 42 4 [(.t 41)])), (none, (.app 43 (.t 40) (.t 42) 4 56 true true)), (none, (.fa (some 44) (.t 6) 3)), (none, (.st (.t 44) (.t 43) 1))])))) (.ops [(none, (.cp 25 7)), (none, (.bin (some 26) .add (.t 25) (.k (.int .i64 1)) false false)), (none, (.mv 7 26))])))))) (.ops [(none, (.fa (some 45) (.t 4) 3)), (none, (.ldT 46 (.t 45) (some 4))), (none, (.ld (some 47) (.t 6) (.agg 4))), (none, (.bs 48 4 [(.t 47)])), (none, (.app 49 (.t 46) (.t 48) 4 56 true true)), (none, (.fa (some 50) (.t 4) 3)), (none, (.st (.t 50) (.t 49) 1))])))) (.ops [(none, (.cp 19 5)), (none, (.bin (some 20) .add (.t 19) (.k (.int .i64 1)) false false)), (none, (.mv 5 20))])))))) (.seq (.ops [(none, (.ld (some 51) (.t 4) (.agg 4))), (none, (.bld (some 52) [(.int .i64 0), (.int .i64 0)] [(0, 1), (1, 1)] [(0, (.k (.int .i64 (-1073741824)))), (1, (.k (.int .i64 1073741824)))])), (none, (.bld (some 53) [(.int .i64 0), (.str []), (.int .i64 0), (.sl .full 4 []), (.int .i64 0), (.int .i64 0)] [(0, 4), (4, 2)] [(0, (.t 51)), (1, (.t 52))])), (none, (.bld (some 54) [(.int .i64 0), (.int .i64 0), (.str []), (.int .i64 0), (.sl .full 4 []), (.int .i64 0), (.int .i64 0), (.int .i64 0)] [(0, 1), (1, 6), (7, 1)] [(0, (.k (.int .i64 3))), (1, (.t 53))])), (none, (.alloc 9 [(.int .i64 0), (.int .i64 0), (.str []), (.int .i64 0), (.sl .full 4 []), (.int .i64 0), (.int .i64 0), (.int .i64 0)])), (none, (.st (.t 9) (.t 54) 8))]) (.seq (.ops [(none, (.ld (some 56) (.t 9) (.agg 8))), (none, (.call (some 57) (.k (.func 49 [] [])) [(.t 56)] none)), (none, (.cp 55 57)), (none, (.ext (some 58) (.t 55) 0)), (none, (.ext (some 59) (.t 55) 1)), (none, (.mv 10 58)), (none, (.mv 11 59))]) (.seq (.ops [(none, (.cp 61 10)), (none, (.call (some 62) (.k (.func 50 [] [])) [(.t 61)] none)), (none, (.cp 60 62)), (none, (.ext (some 63) (.t 60) 0)), (none, (.ext (some 64) (.t 60) 1)), (none, (.ext (some 65) (.t 60) 2)), (none, (.alloc 12 [(.int .i64 0), (.int .i64 0), (.str []), (.int .i64 0), (.sl .full 4 []), (.int .i64 0), (.int .i64 0), (.int .i64 0)])), (none, (.st (.t 12) (.t 63) 8)), (none, (.mv 13 64)), (none, (.mv 14 65))]) (.seq (.ops [(none, (.ld (some 66) (.t 9) (.agg 8))), (none, (.call (some 67) (.k (.func 53 [] [])) [(.t 66)] none)), (none, (.cp 68 67)), ((some (68, true)), (.cp 69 11)), ((some (68, true)), (.call (some 70) (.k (.func 41 [] [])) [(.t 69)] none)), ((some (68, true)), (.bin (some 71) .eql (.t 70) (.k (.int .i64 0)) false false)), (none, (.pick (some 72) (.t 68) (.t 71) (.k (.bool false)))), (none, (.cp 73 72)), ((some (73, true)), (.cp 74 14)), ((some (73, true)), (.call (some 75) (.k (.func 41 [] [])) [(.t 74)] none)), ((some (73, true)), (.bin (some 76) .eql (.t 75) (.k (.int .i64 0)) false false)), (none, (.pick (some 77) (.t 73) (.t 76) (.k (.bool false)))), (none, (.cp 78 77)), ((some (78, true)), (.cp 79 10)), ((some (78, true)), (.ld (some 80) (.t 9) (.agg 8))), ((some (78, true)), (.call (some 81) (.k (.func 51 [] [])) [(.t 80)] none)), ((some (78, true)), (.bin (some 82) .eql (.t 79) (.t 81) false false)), (none, (.pick (some 83) (.t 78) (.t 82) (.k (.bool false)))), (none, (.cp 84 83)), ((some (84, true)), (.cp 85 13)), ((some (84, true)), (.bin (some 86) .eql (.t 85) (.k (.str [])) false false)), (none, (.pick (some 87) (.t 84) (.t 86) (.k (.bool false)))), (none, (.cp 88 87)), ((some (88, true)), (.ld (some 89) (.t 12) (.agg 8))), ((some (88, true)), (.ld (some 90) (.t 9) (.agg 8))), ((some (88, true)), (.call (some 91) (.k (.func 52 [] [])) [(.t 89), (.t 90)] none)), (none, (.pick (some 92) (.t 88) (.t 91) (.k (.bool false)))), (none, (.cp 93 92)), ((some (93, true)), (.fa (some 94) (.t 1) 2)), ((some (93, true)), (.ld (some 95) (.t 94) (.one (some 1)))), ((some (93, true)), (.len (some 96) (.t 95) false true)), ((some (93, true)), (.bin (some 97) .geq (.t 96) (.k (.int .i64 0)) false false)), (none, (.pick (some 98) (.t 93) (.t 97) (.k (.bool false)))), (none, (.cp 99 98)), ((some (99, true)), (.call (some 100) (.k (.func 48 [] [])) [] none)), (none, (.pick (some 101) (.t 99) (.t 100) (.k (.bool false)))), (none, (.mv 2 101))]) .ret))))))))))) := by kernel_rfl
attribute [local go_sem] strip_flS strip_flT isOwn_flS avf_agg strip_avf isOwn_avf avf_len avf_take avf_okc avf_put avf_cstrip
def L16 : List UInt8 := [97, 97, 97, 97, 97, 97, 97, 97, 97, 97, 97, 97, 97, 97, 97, 97]
mutual
/-- a term as it is made here: arguments are memory of its own -/
def T.avo : T → AV | .mk k n v l => .agg [.int .i64 k, .str n, .int .i64 v, .sl (flT l) 4 (avos l)]
def avos : List T → List AV | [] => [] | t :: l => t.avo :: avos l
end
theorem avos_map : ∀ l, avos l = l.map T.avo
  | [] => by rw [avos]; rfl
  | t :: l => by rw [avos, avos_map l]; rfl
theorem avo_mk (k : Int) (n : List UInt8) (v : Int) (l : List T) : (T.mk k n v l).avo = .agg [.int .i64 k, .str n, .int .i64 v, .sl (flT l) 4 (l.map T.avo)] := by rw [T.avo, avos_map]
theorem fk_avo : ∀ t : T, fk t.avo = t.av := by
  refine T.ind fun k n v l ih => ?_
  rw [avo_mk, av_mk]
  have : fkL (l.map T.avo) = l.map T.av := by
    rw [fkL_map, List.map_map]; exact List.map_congr_left fun x hx => ih x hx
  simp [fk, fkL, this]
def lwT (k i : Nat) : T := .mk 3 L16 0 (if k < 3 ∧ i = 0 then [.mk 3 L16 0 []] else [])
def lwsT (k i : Nat) : List T := (List.range i).map (lwT k)
def luT (k : Nat) : T := .mk 3 L16 0 (lwsT k 4)
def lusT (k : Nat) : List T := (List.range k).map luT
def ltT : T := .mk 3 L16 0 (lusT 4)
theorem lwsT_succ (k i : Nat) : lwsT k (i + 1) = lwsT k i ++ [lwT k i] := by simp [lwsT, List.range_succ]
theorem lusT_succ (k : Nat) : lusT (k + 1) = lusT k ++ [luT k] := by simp [lusT, List.range_succ]
theorem lwsT_len (k i : Nat) : (lwsT k i).length = i := by simp [lwsT]
theorem lusT_len (k : Nat) : (lusT k).length = k := by simp [lusT]
theorem flT_snoc (l : List T) (x : T) : flT (l ++ [x]) = .own := by cases l <;> rfl
theorem may_tT : mayB ltT = true := by decide +kernel
theorem noteT_no : ∀ t : T, hasV t = false → ∀ acc, noteT t acc = acc := by
  refine T.ind ?_
  intro k n v l ih hv acc
  have hs : ∀ m : List T, (∀ x ∈ m, hasV x = false → ∀ acc, noteT x acc = acc) → hasVs m = false → ∀ acc, noteTs m acc = acc := by
    intro m
    induction m with
    | nil => intro _ _ acc; rw [noteTs]
    | cons x m ihm =>
      intro ih hv acc
      rw [hasVs, Bool.or_eq_false_iff] at hv
      rw [noteTs, ih x (by simp) hv.1, ihm (fun y hy => ih y (by simp [hy])) hv.2]
  rw [hasV, Bool.or_eq_false_iff] at hv
  rw [noteT, hs l ih hv.2, if_neg (by simpa using hv.1)]
theorem ground_of {t : T} (h : hasV t = false) : groundB t = true := by
  unfold groundB namesL
  rw [noteTs, noteT_no t h, noteTs]
  simp
theorem hasV_tT : hasV ltT = false := by decide +kernel
theorem okFr_tT : okFr 3 ltT (-1073741824) 1073741824 0 = true := by
  unfold okFr
  rw [if_pos (by omega)]
  unfold okFa
  rw [may_tT, ground_of hasV_tT]
  decide +kernel
theorem ok_tT : ltT.ok := by
  have h0 : (T.mk 3 L16 0 []).ok := by rw [ok_mk]; simp [L16]
  have hw : ∀ k i, (lwT k i).ok := by
    intro k i
    unfold lwT
    rw [ok_mk]
    split
    · refine ⟨by simp, by simp [L16], fun t ht => ?_⟩
      simp at ht; rw [ht]; exact h0
    · simp [L16]
  have hu : ∀ k, (luT k).ok := by
    intro k
    unfold luT
    rw [ok_mk]
    refine ⟨by rw [lwsT_len]; omega, by simp [L16], fun t ht => ?_⟩
    unfold lwsT at ht; simp at ht; obtain ⟨i, _, rfl⟩ := ht; exact hw k i
  unfold ltT
  rw [ok_mk]
  refine ⟨by rw [lusT_len]; omega, by simp [L16], fun t ht => ?_⟩
  unfold lusT at ht; simp at ht; obtain ⟨i, _, rfl⟩ := ht; exact hu i
def askB (l : List T) (s : List (List UInt8)) (ns : List Int) (fs : List Fr) : Blk := .cells [.sl .sh 4 (l.map T.av), .sl .sh 1 (s.map AV.str), .sl .sh 1 (ns.map (AV.int .i64)), .sl .sh 8 (fs.map Fr.av)]
def cellsT (l : List T) : Blk := .cells [.int .i64 3, .str L16, .int .i64 0, .sl (flT l) 4 (l.map T.avo)]
def frX : AV := .agg [.int .i64 3, .int .i64 3, .str L16, .int .i64 0, .sl .sh 4 ((lusT 4).map T.avo), .int .i64 (-1073741824), .int .i64 1073741824, .int .i64 0]
theorem fk_frX : fk frX = frA 3 ltT (-1073741824) 1073741824 0 := by
  have : fkL ((lusT 4).map T.avo) = (lusT 4).map T.av := by
    rw [fkL_map, List.map_map]; exact List.map_congr_left fun x _ => fk_avo x
  simp [frX, frA, ltT, fk, fkL, this]
def frSL : List UInt8 := frS 3 ltT (-1073741824) 1073741824 0
theorem fnX_Frame : PFn Try.prog 49 [frX] (.tup [.str frSL, .int .i64 0]) := by
  have h := fn_wFrame 3 ltT (-1073741824) 1073741824 0 ok_tT
  rw [okFr_tT] at h
  simp only [if_true] at h
  refine pfn_fk ?_
  simp only [List.map_cons, List.map_nil, fk_frX]
  exact h
theorem fnX_Take : PFn Try.prog 50 [.str frSL] (.tup [frF 3 ltT (-1073741824) 1073741824 0, .str [], .int .i64 0]) := by
  have h := fn_wTakeF frSL
  obtain ⟨t1, t2, t3⟩ := okTk_frS okFr_tT []
  rw [List.append_nil] at t1 t2 t3
  unfold frSL at h ⊢
  rw [t1, t2, t3] at h
  simpa only [if_true] using h
theorem fnX_rFrame : PFn Try.prog 53 [frX] (.bool true) := by
  have h := fn_rFrame0 ltT (-1073741824) 1073741824 ok_tT hasV_tT
  rw [may_tT, show (kindT ltT == 3 && (true && spanB (-1073741824) 1073741824)) = true by decide +kernel] at h
  refine pfn_fk ?_
  simp only [List.map_cons, List.map_nil, fk_frX]
  exact h
theorem fnX_Bytes : PFn Try.prog 51 [frX] (.str frSL) := by
  have h := fn_rBytes 3 ltT (-1073741824) 1073741824 ok_tT okFr_tT (.inr rfl)
  refine pfn_fk ?_
  simp only [List.map_cons, List.map_nil, fk_frX]
  exact h
theorem fnX_Eq : PFn Try.prog 52 [frF 3 ltT (-1073741824) 1073741824 0, frX] (.bool true) := by
  have h := fn_EqFrame 3 ltT (-1073741824) 1073741824 0 3 ltT (-1073741824) 1073741824 0 ok_tT
  rw [eqT_refl] at h
  simp only [beq_self_eq_true, Bool.and_self] at h
  refine pfn_fk ?_
  simp only [List.map_cons, List.map_nil, fk_frX, fk_frF]
  exact h
set_option maxHeartbeats 3200000 in
theorem fn_WireLong (l : List T) (s : List (List UInt8)) (ns : List Int) (fs : List Fr) : PFn Try.prog 8 [ask20 l s ns fs] (.bool true) := by
  intro h
  refine fnC mixed Try.func8 c8 (by simp) ?_
  unfold ask20
  have eL : ([97, 97, 97, 97, 97, 97, 97, 97, 97, 97, 97, 97, 97, 97, 97, 97] : List UInt8) = L16 := rfl
  rw [eL]
  generalize hLL : L16 = LL
  simp only [go_sem, Nat.reduceEqDiff, Nat.reduceAdd, Nat.reduceLeDiff, Nat.reduceLT, ↓reduceIte, reduceCtorEq, Int.reduceLT, Int.reduceToNat, Int.reduceEq, Int.reduceBEq, Int.reduceBNe, Nat.reduceBEq]
  have x1 : ¬ h.n = h.n + 1 := by omega
  have x2 : ¬ h.n + 1 = h.n := by omega
  refine cloop (fun q t => ∃ k : Nat, k + q = 4 ∧ t.fr 1 = .ptr h.n 0 ∧ t.fr 3 = .str L16 ∧ t.fr 4 = .ptr (h.n + 1) 0 ∧ t.fr 5 = .int .i64 (k : Nat) ∧ h.n + 2 ≤ t.hp.n ∧ t.hp.bk h.n = askB l s ns fs ∧ t.hp.bk (h.n + 1) = cellsT (lusT k) ∧ Shrink h t.hp h) 4 ⟨0, by simp, by simp [fr_apply, argsF], by simp [fr_apply, hLL], by simp [fr_apply], by simp [fr_apply], by simp, by simp [bk_apply, x1, askB], by simp [bk_apply, x1, cellsT, lusT, flT, hLL], by simp [shrink_upd, shrink_n]⟩ ?_
  subst hLL
  rintro q ⟨f, hp⟩ ⟨k, hk, f1, f3, f4, f5, hn, hb0, hb1, hsh⟩
  simp only at f1 f3 f4 f5 hn hb0 hb1 hsh
  unfold askB at hb0
  by_cases hk4 : k < 4
  · have hi' : decide ((k : Int) < 4) = true := decide_eq_true (by omega)
    have hw : IntKind.i64.wrap ((k : Int) + 1) = ((k + 1 : Nat) : Int) := by rw [wrap64] <;> omega
    have y0 : ¬ h.n = hp.n := by omega
    have y1 : ¬ h.n + 1 = hp.n := by omega
    have y2 : ¬ hp.n = h.n := by omega
    have y3 : ¬ hp.n = h.n + 1 := by omega
    have hsn : h.n ≤ hp.n := by omega
    have hsg := shrink_grow (n := hp.n + 1) hsh (by omega)
    simp only [go_sem, Nat.reduceEqDiff, Nat.reduceAdd, Nat.reduceLeDiff, Nat.reduceLT, ↓reduceIte, reduceCtorEq, Int.reduceLT, Int.reduceToNat, Int.reduceEq, Int.reduceBEq, Int.reduceBNe, Nat.reduceBEq, f1, f3, f4, f5, hi']
    refine cloop (fun q' t => ∃ i : Nat, i + q' = 4 ∧ t.fr 1 = .ptr h.n 0 ∧ t.fr 3 = .str L16 ∧ t.fr 4 = .ptr (h.n + 1) 0 ∧ t.fr 5 = .int .i64 (k : Nat) ∧ t.fr 6 = .ptr hp.n 0 ∧ t.fr 7 = .int .i64 (i : Nat) ∧ hp.n + 1 ≤ t.hp.n ∧ t.hp.bk h.n = askB l s ns fs ∧ t.hp.bk (h.n + 1) = cellsT (lusT k) ∧ t.hp.bk hp.n = cellsT (lwsT k i) ∧ Shrink h t.hp h) 4 ⟨0, by simp, by simp [fr_apply, f1], by simp [fr_apply, f3], by simp [fr_apply, f4], by simp [fr_apply, f5], by simp [fr_apply], by simp [fr_apply], by simp, by simp [bk_apply, y0, hb0, askB], by simp [bk_apply, y1, hb1], by simp [bk_apply, cellsT, lwsT, flT], by simp [shrink_upd, hsg, hsn]⟩ ?_
    clear hsg
    rintro q' ⟨f', hp'⟩ ⟨i, hi, g1, g3, g4, g5, g6, g7, hn', hc0, hc1, hc2, hsh'⟩
    simp only at g1 g3 g4 g5 g6 g7 hn' hc0 hc1 hc2 hsh'
    by_cases hi4 : i < 4
    · have hj' : decide ((i : Int) < 4) = true := decide_eq_true (by omega)
      have hwi : IntKind.i64.wrap ((i : Int) + 1) = ((i + 1 : Nat) : Int) := by rw [wrap64] <;> omega
      have z0 : ¬ h.n = hp'.n := by omega
      have z1 : ¬ h.n + 1 = hp'.n := by omega
      have z2 : ¬ hp.n = hp'.n := by omega
      have z3 : ¬ hp'.n = h.n := by omega
      have z4 : ¬ hp'.n = h.n + 1 := by omega
      have z5 : ¬ hp'.n = hp.n := by omega
      have hsn' : h.n ≤ hp'.n := by omega
      have hsg := shrink_grow (n := hp'.n + 1) hsh' (by omega)
      have fin : ∀ bk : Nat → Blk, bk h.n = hp'.bk h.n → bk (h.n + 1) = hp'.bk (h.n + 1) → bk hp.n = cellsT (lwsT k (i + 1)) → Shrink h ⟨hp'.n + 1, bk⟩ h → (h.n ≤ hp.n) := fun _ _ _ _ _ => hsn
      by_cases i0 : i = 0
      · subst i0
        have e0 : ((0 : Int) == 0) = true := rfl
        have a1 : 1 * 56 ≤ 140737488355328 := by omega
        have hc2' : hp'.bk hp.n = .cells [.int .i64 3, .str L16, .int .i64 0, .sl .full 4 []] := hc2
        by_cases k3 : k < 3
        · have d3 : decide ((k : Int) < 3) = true := decide_eq_true (by omega)
          have hX : (lwT k 0).avo = .agg [.int .i64 3, .str L16, .int .i64 0, .sl .own 4 [.agg [.int .i64 3, .str L16, .int .i64 0, .sl .full 4 []]]] := by
            unfold lwT; rw [if_pos ⟨k3, rfl⟩, avo_mk]; simp only [List.map_cons, List.map_nil]; rw [avo_mk]; rfl
          have hdone : cellsT (lwsT k 1) = .cells [.int .i64 3, .str L16, .int .i64 0, .sl .own 4 [(lwT k 0).avo]] := by
            have : lwsT k 1 = [lwT k 0] := by unfold lwsT; simp [List.range_succ]
            rw [this]; rfl
          rw [hX] at hdone
          simp only [go_sem, Nat.reduceEqDiff, Nat.reduceAdd, Nat.reduceLeDiff, Nat.reduceLT, ↓reduceIte, reduceCtorEq, Int.reduceLT, Int.reduceToNat, Int.reduceEq, Int.reduceBEq, Int.reduceBNe, Nat.reduceBEq, g1, g3, g4, g5, g6, g7, hj', d3, e0, Int.cast_ofNat_Int, decide_true, decide_false, z0, z1, z2, z3, z4, z5, y0, y1, y2, y3, hc2', a1, hwi]
          exact ⟨q' - 1, by omega, 1, by omega, rfl, by omega, hc0, hc1, hdone.symm, by simp [shrink_upd, hsg, hsn', hsn]⟩
        · have d3 : decide ((k : Int) < 3) = false := decide_eq_false (by omega)
          have hX : (lwT k 0).avo = .agg [.int .i64 3, .str L16, .int .i64 0, .sl .full 4 []] := by
            unfold lwT; rw [if_neg (by omega), avo_mk]; rfl
          have hdone : cellsT (lwsT k 1) = .cells [.int .i64 3, .str L16, .int .i64 0, .sl .own 4 [(lwT k 0).avo]] := by
            have : lwsT k 1 = [lwT k 0] := by unfold lwsT; simp [List.range_succ]
            rw [this]; rfl
          rw [hX] at hdone
          simp only [go_sem, Nat.reduceEqDiff, Nat.reduceAdd, Nat.reduceLeDiff, Nat.reduceLT, ↓reduceIte, reduceCtorEq, Int.reduceLT, Int.reduceToNat, Int.reduceEq, Int.reduceBEq, Int.reduceBNe, Nat.reduceBEq, g1, g3, g4, g5, g6, g7, hj', d3, e0, Int.cast_ofNat_Int, decide_true, decide_false, z0, z1, z2, z3, z4, z5, y0, y1, y2, y3, hc2', a1, hwi]
          exact ⟨q' - 1, by omega, 1, by omega, rfl, by omega, hc0, hc1, hdone.symm, by simp [shrink_upd, hsg, hsn', hsn]⟩
      · have e0 : ((i : Int) == 0) = false := by simp; omega
        have hX : (lwT k i).avo = .agg [.int .i64 3, .str L16, .int .i64 0, .sl .full 4 []] := by
          unfold lwT; rw [if_neg (by omega), avo_mk]; rfl
        have hfl : flT (lwsT k i) = .own := by
          have := lwsT_len k i
          cases hw : lwsT k i with
          | nil => rw [hw] at this; simp at this; omega
          | cons a b => rfl
        have hc2' : hp'.bk hp.n = .cells [.int .i64 3, .str L16, .int .i64 0, .sl .own 4 ((lwsT k i).map T.avo)] := by rw [hc2, cellsT, hfl]
        have hln := lwsT_len k i
        have a1 : (i + 1) * 56 ≤ 140737488355328 := by omega
        have a2 : i ≤ 9223372036854775806 := by omega
        have hdone : cellsT (lwsT k (i + 1)) = .cells [.int .i64 3, .str L16, .int .i64 0, .sl .own 4 ((lwsT k i).map T.avo ++ [(lwT k i).avo])] := by
          rw [lwsT_succ, cellsT, flT_snoc, List.map_append]; rfl
        rw [hX] at hdone
        by_cases k3 : k < 3
        · have d3 : decide ((k : Int) < 3) = true := decide_eq_true (by omega)
          simp only [go_sem, Nat.reduceEqDiff, Nat.reduceAdd, Nat.reduceLeDiff, Nat.reduceLT, ↓reduceIte, reduceCtorEq, Int.reduceLT, Int.reduceToNat, Int.reduceEq, Int.reduceBEq, Int.reduceBNe, Nat.reduceBEq, g1, g3, g4, g5, g6, g7, hj', d3, e0, z0, z1, z2, z3, z4, z5, y0, y1, y2, y3, hc2', hln, a1, a2, hwi]
          exact ⟨q' - 1, by omega, i + 1, by omega, rfl, by omega, hc0, hc1, hdone.symm, by simp [shrink_upd, hsg, hsn', hsn]⟩
        · have d3 : decide ((k : Int) < 3) = false := decide_eq_false (by omega)
          simp only [go_sem, Nat.reduceEqDiff, Nat.reduceAdd, Nat.reduceLeDiff, Nat.reduceLT, ↓reduceIte, reduceCtorEq, Int.reduceLT, Int.reduceToNat, Int.reduceEq, Int.reduceBEq, Int.reduceBNe, Nat.reduceBEq, g1, g3, g4, g5, g6, g7, hj', d3, e0, z0, z1, z2, z3, z4, z5, y0, y1, y2, y3, hc2', hln, a1, a2, hwi]
          exact ⟨q' - 1, by omega, i + 1, by omega, rfl, by omega, hc0, hc1, hdone.symm, by simp [shrink_upd, hsg, hsn', hsn]⟩
    · have hi4' : i = 4 := by omega
      subst hi4'
      have hj' : decide (((4 : Nat) : Int) < 4) = false := by decide
      have hfl : flT (lwsT k 4) = .own := by
        have := lwsT_len k 4
        cases hw : lwsT k 4 with
        | nil => rw [hw] at this; simp at this
        | cons a b => rfl
      have hc2' : hp'.bk hp.n = .cells [.int .i64 3, .str L16, .int .i64 0, .sl .own 4 ((lwsT k 4).map T.avo)] := by rw [hc2, cellsT, hfl]
      have hU : (luT k).avo = .agg [.int .i64 3, .str L16, .int .i64 0, .sl .own 4 ((lwsT k 4).map T.avo)] := by unfold luT; rw [avo_mk, hfl]
      have hdone : cellsT (lusT (k + 1)) = .cells [.int .i64 3, .str L16, .int .i64 0, .sl .own 4 ((lusT k).map T.avo ++ [(luT k).avo])] := by
        rw [lusT_succ, cellsT, flT_snoc, List.map_append]; rfl
      rw [hU] at hdone
      have hln := lusT_len k
      have a1 : (k + 1) * 56 ≤ 140737488355328 := by omega
      have a2 : k ≤ 9223372036854775806 := by omega
      cases k with
      | zero =>
        have hc1' : hp'.bk (h.n + 1) = .cells [.int .i64 3, .str L16, .int .i64 0, .sl .full 4 []] := hc1
        have a3 : 1 * 56 ≤ 140737488355328 := by omega
        have hw0 : IntKind.i64.wrap ((0 : Int) + 1) = 1 := by decide
        have hdone' : cellsT (lusT 1) = .cells [.int .i64 3, .str L16, .int .i64 0, .sl .own 4 [.agg [.int .i64 3, .str L16, .int .i64 0, .sl .own 4 ((lwsT 0 4).map T.avo)]]] := hdone
        simp only [go_sem, Nat.reduceEqDiff, Nat.reduceAdd, Nat.reduceLeDiff, Nat.reduceLT, ↓reduceIte, reduceCtorEq, Int.reduceLT, Int.reduceToNat, Int.reduceEq, Int.reduceBEq, Int.reduceBNe, Nat.reduceBEq, g1, g3, g4, g5, g6, g7, hj', x1, x2, y0, y1, y2, y3, hc1', hc2', a3, hw0, Int.lt_irrefl, decide_false, Int.cast_ofNat_Int]
        exact ⟨q - 1, by omega, 1, by omega, rfl, by omega, hc0, hdone'.symm, by simp [shrink_upd, hsh']⟩
      | succ k =>
        have hfl2 : flT (lusT (k + 1)) = .own := by rw [lusT_succ, flT_snoc]
        have hc1' : hp'.bk (h.n + 1) = .cells [.int .i64 3, .str L16, .int .i64 0, .sl .own 4 ((lusT (k + 1)).map T.avo)] := by rw [hc1, cellsT, hfl2]
        have a1' : (k + 2) * 56 ≤ 140737488355328 := by omega
        have a2' : k ≤ 9223372036854775805 := by omega
        simp only [go_sem, Nat.reduceEqDiff, Nat.reduceAdd, Nat.reduceLeDiff, Nat.reduceLT, ↓reduceIte, reduceCtorEq, Int.reduceLT, Int.reduceToNat, Int.reduceEq, Int.reduceBEq, Int.reduceBNe, Nat.reduceBEq, g1, g3, g4, g5, g6, g7, hj', x1, x2, y0, y1, y2, y3, hc1', hc2', hln, a1, a2, a1', a2', hw, Int.lt_irrefl, decide_false, Int.cast_ofNat_Int]
        exact ⟨q - 1, by omega, k + 2, by omega, rfl, by omega, hc0, hdone.symm, by simp [shrink_upd, hsh']⟩
  · have hk4' : k = 4 := by omega
    subst hk4'
    have hfl2 : flT (lusT 4) = .own := by rw [show (4 : Nat) = 3 + 1 from rfl, lusT_succ, flT_snoc]
    have hb1' : hp.bk (h.n + 1) = .cells [.int .i64 3, .str L16, .int .i64 0, .sl .own 4 ((lusT 4).map T.avo)] := by rw [hb1, cellsT, hfl2]
    have y0 : ¬ h.n = hp.n := by omega
    have y1 : ¬ h.n + 1 = hp.n := by omega
    have y2 : ¬ hp.n = h.n := by omega
    have y3 : ¬ hp.n = h.n + 1 := by omega
    simp only [go_sem, Nat.reduceEqDiff, Nat.reduceAdd, Nat.reduceLeDiff, Nat.reduceLT, ↓reduceIte, reduceCtorEq, Int.reduceLT, Int.reduceToNat, Int.reduceEq, Int.reduceBEq, Int.reduceBNe, Nat.reduceBEq, f1, f3, f4, f5, x1, x2, y0, y1, y2, y3, hb1', Int.lt_irrefl, decide_false, Int.cast_ofNat_Int]
    have hF := fnX_Frame
    have hT := fnX_Take
    have hR := fnX_rFrame
    have hB := fnX_Bytes
    have hE := fnX_Eq
    generalize frSL = S at hF hT hB
    unfold frX at hF hR hB hE
    unfold frF ltT at hT hE
    simp only at hT hE
    refine pcall hF (by simp only [go_sem, Nat.reduceEqDiff, Nat.reduceAdd, Nat.reduceLeDiff, Nat.reduceLT, ↓reduceIte, reduceCtorEq, Int.reduceLT, Int.reduceToNat, Int.reduceEq, Int.reduceBEq, Int.reduceBNe, Nat.reduceBEq]) ?_
    simp only [go_sem, Nat.reduceEqDiff, Nat.reduceAdd, Nat.reduceLeDiff, Nat.reduceLT, ↓reduceIte, reduceCtorEq, Int.reduceLT, Int.reduceToNat, Int.reduceEq, Int.reduceBEq, Int.reduceBNe, Nat.reduceBEq, x1, x2, y0, y1, y2, y3]
    refine pcall hT (by simp only [go_sem, Nat.reduceEqDiff, Nat.reduceAdd, Nat.reduceLeDiff, Nat.reduceLT, ↓reduceIte, reduceCtorEq, Int.reduceLT, Int.reduceToNat, Int.reduceEq, Int.reduceBEq, Int.reduceBNe, Nat.reduceBEq]) ?_
    have w0 : ¬ hp.n = hp.n + 1 := by omega
    have w1 : ¬ hp.n + 1 = hp.n := by omega
    have w2 : ¬ h.n = hp.n + 1 := by omega
    have w3 : ¬ hp.n + 1 = h.n := by omega
    have hge : decide ((ns.length : Int) ≥ 0) = true := decide_eq_true (by omega)
    simp only [go_sem, Nat.reduceEqDiff, Nat.reduceAdd, Nat.reduceLeDiff, Nat.reduceLT, ↓reduceIte, reduceCtorEq, Int.reduceLT, Int.reduceToNat, Int.reduceEq, Int.reduceBEq, Int.reduceBNe, Nat.reduceBEq, x1, x2, y0, y1, y2, y3, w0, w1, w2, w3]
    refine pcall hR (by simp only [go_sem, Nat.reduceEqDiff, Nat.reduceAdd, Nat.reduceLeDiff, Nat.reduceLT, ↓reduceIte, reduceCtorEq, Int.reduceLT, Int.reduceToNat, Int.reduceEq, Int.reduceBEq, Int.reduceBNe, Nat.reduceBEq]) ?_
    simp only [go_sem, Nat.reduceEqDiff, Nat.reduceAdd, Nat.reduceLeDiff, Nat.reduceLT, ↓reduceIte, reduceCtorEq, Int.reduceLT, Int.reduceToNat, Int.reduceEq, Int.reduceBEq, Int.reduceBNe, Nat.reduceBEq, x1, x2, y0, y1, y2, y3, w0, w1, w2, w3]
    refine pcall (fn_num20 0) (by simp only [go_sem, Nat.reduceEqDiff, Nat.reduceAdd, Nat.reduceLeDiff, Nat.reduceLT, ↓reduceIte, reduceCtorEq, Int.reduceLT, Int.reduceToNat, Int.reduceEq, Int.reduceBEq, Int.reduceBNe, Nat.reduceBEq]) ?_
    simp only [go_sem, Nat.reduceEqDiff, Nat.reduceAdd, Nat.reduceLeDiff, Nat.reduceLT, ↓reduceIte, reduceCtorEq, Int.reduceLT, Int.reduceToNat, Int.reduceEq, Int.reduceBEq, Int.reduceBNe, Nat.reduceBEq, x1, x2, y0, y1, y2, y3, w0, w1, w2, w3]
    refine pcall (fn_num20 0) (by simp only [go_sem, Nat.reduceEqDiff, Nat.reduceAdd, Nat.reduceLeDiff, Nat.reduceLT, ↓reduceIte, reduceCtorEq, Int.reduceLT, Int.reduceToNat, Int.reduceEq, Int.reduceBEq, Int.reduceBNe, Nat.reduceBEq]) ?_
    simp only [go_sem, Nat.reduceEqDiff, Nat.reduceAdd, Nat.reduceLeDiff, Nat.reduceLT, ↓reduceIte, reduceCtorEq, Int.reduceLT, Int.reduceToNat, Int.reduceEq, Int.reduceBEq, Int.reduceBNe, Nat.reduceBEq, x1, x2, y0, y1, y2, y3, w0, w1, w2, w3]
    refine pcall hB (by simp only [go_sem, Nat.reduceEqDiff, Nat.reduceAdd, Nat.reduceLeDiff, Nat.reduceLT, ↓reduceIte, reduceCtorEq, Int.reduceLT, Int.reduceToNat, Int.reduceEq, Int.reduceBEq, Int.reduceBNe, Nat.reduceBEq]) ?_
    simp only [go_sem, Nat.reduceEqDiff, Nat.reduceAdd, Nat.reduceLeDiff, Nat.reduceLT, ↓reduceIte, reduceCtorEq, Int.reduceLT, Int.reduceToNat, Int.reduceEq, Int.reduceBEq, Int.reduceBNe, Nat.reduceBEq, x1, x2, y0, y1, y2, y3, w0, w1, w2, w3]
    refine pcall hE (by simp only [go_sem, Nat.reduceEqDiff, Nat.reduceAdd, Nat.reduceLeDiff, Nat.reduceLT, ↓reduceIte, reduceCtorEq, Int.reduceLT, Int.reduceToNat, Int.reduceEq, Int.reduceBEq, Int.reduceBNe, Nat.reduceBEq]) ?_
    simp only [go_sem, Nat.reduceEqDiff, Nat.reduceAdd, Nat.reduceLeDiff, Nat.reduceLT, ↓reduceIte, reduceCtorEq, Int.reduceLT, Int.reduceToNat, Int.reduceEq, Int.reduceBEq, Int.reduceBNe, Nat.reduceBEq, f1, x1, x2, y0, y1, y2, y3, w0, w1, w2, w3, hb0, hge, decide_true]
    refine pcall fn_wakes20 (by simp only [go_sem, Nat.reduceEqDiff, Nat.reduceAdd, Nat.reduceLeDiff, Nat.reduceLT, ↓reduceIte, reduceCtorEq, Int.reduceLT, Int.reduceToNat, Int.reduceEq, Int.reduceBEq, Int.reduceBNe, Nat.reduceBEq]) ?_
    simp only [go_sem, Nat.reduceEqDiff, Nat.reduceAdd, Nat.reduceLeDiff, Nat.reduceLT, ↓reduceIte, reduceCtorEq, Int.reduceLT, Int.reduceToNat, Int.reduceEq, Int.reduceBEq, Int.reduceBNe, Nat.reduceBEq]
    have hs2 := shrink_grow (n := hp.n + 2) hsh (by omega)
    have hs3 : h.n ≤ hp.n := by omega
    have hs4 : h.n ≤ hp.n + 1 := by omega
    simp [shrink_upd, hs2, hs3, hs4]
end Go.Proofs.Ythaoooohomfkcaa.Ab
