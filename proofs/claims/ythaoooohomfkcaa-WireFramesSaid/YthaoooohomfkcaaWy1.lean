/- A term out of bytes. -/
import Derived.Test.YthaoooohomfkcaaWy0
namespace Go.Proofs.Ythaoooohomfkcaa.Ab
set_option linter.unusedVariables false
set_option linter.unusedSimpArgs false
set_option maxRecDepth 10000
attribute [local go_sem] Nat.zero_le Bool.not_true Bool.not_false Bool.false_eq_true if_false if_true forall_const true_and and_true List.map Option.map Bool.and_self Bool.and_true Bool.true_and Bool.false_and Bool.and_false List.getElem?_cons_zero List.getElem?_nil List.getElem?_cons_succ Int.natCast_nonneg Int.toNat_natCast List.length_map List.length_cons List.length_nil Nat.zero_add Nat.le_refl List.drop_zero List.drop_succ_cons List.take_succ_cons List.take_zero List.take_nil ne_eq not_true_eq_false not_false_eq_true upd_same Nat.add_assoc Nat.left_eq_add Nat.add_eq_left Nat.add_left_cancel_iff Nat.succ_ne_self Nat.one_ne_zero Nat.add_zero Nat.le_add_right ite_self List.set_cons_zero List.set_cons_succ List.all_cons List.all_nil bne_self_eq_false List.isEmpty_cons Int.cast_ofNat_Int Nat.mul_one List.nil_append or_self or_true true_or List.cons_append List.append_nil Option.none_beq_some Option.some_beq_some beq_self_eq_true
theorem c91 : compF Try.prog ow Try.f91 = (some (68, ([(.c 4 (.agg 4))], (.seq (.ops [(none, (.alloc 4 [(.int .i64 0), (.str []), (.int .i64 0), (.sl .full 4 [])]))]) (.seq (.ops [(none, (.cp 7 0)), (none, (.call (some 8) (.k (.func 95 [] [])) [(.t 7)] (some 100))), (none, (.cvt (some 9) (.t 8) (some .i64) false false)), (none, (.bld (some 10) [(.int .i64 0), (.str []), (.int .i64 0), (.sl .full 4 [])] [(0, 1), (1, 1), (2, 1), (3, 1)] [(0, (.t 9))])), (none, (.alloc 5 [(.int .i64 0), (.str []), (.int .i64 0), (.sl .full 4 [])])), (none, (.st (.t 5) (.t 10) 4))]) (.seq (.seq (.ops [(none, (.cp 11 1)), (none, (.bin (some 12) .eql (.t 11) (.k (.int .i64 0)) false false)), (none, (.cp 13 12)), ((some (13, false)), (.fa (some 14) (.t 5) 0)), ((some (13, false)), (.ld (some 15) (.t 14) (.one none))), ((some (13, false)), (.bin (some 16) .lss (.t 15) (.k (.int .i64 1)) false false)), (none, (.pick (some 17) (.t 13) (.k (.bool true)) (.t 16))), (none, (.cp 18 17)), ((some (18, false)), (.fa (some 19) (.t 5) 0)), ((some (18, false)), (.ld (some 20) (.t 19) (.one none))), ((some (18, false)), (.bin (some 21) .gtr (.t 20) (.k (.int .i64 3)) false false)), (none, (.pick (some 22) (.t 18) (.k (.bool true)) (.t 21)))]) (.cond (.t 22) (.seq (.ops [(none, (.cp 23 0)), (none, (.nil (some 24) (.t 23))), (none, (.fa (some 25) (.t 24) 1)), (none, (.st (.t 25) (.k (.bool true)) 1))]) (.seq (.ops [(none, (.ld (some 26) (.t 5) (.agg 4))), (none, (.st (.t 4) (.t 26) 4))]) .ret)) .skip)) (.seq (.seq (.ops [(none, (.fa (some 27) (.t 5) 0)), (none, (.ld (some 28) (.t 27) (.one none))), (none, (.bin (some 29) .eql (.t 28) (.k (.int .i64 2)) false false))]) (.cond (.t 29) (.seq (.ops [(none, (.cp 30 0)), (none, (.call (some 31) (.k (.func 89 [] [])) [(.t 30)] (some 100))), (none, (.fa (some 32) (.t 5) 2)), (none, (.st (.t 32) (.t 31) 1))]) (.seq (.ops [(none, (.ld (some 33) (.t 5) (.agg 4))), (none, (.st (.t 4) (.t 33) 4))]) .ret)) .skip)) (.seq (.ops [(none, (.cp 34 0)), (none, (.cp 35 0)), (none, (.call (some 36) (.k (.func 95 [] [])) [(.t 35)] (some 100))), (none, (.cvt (some 37) (.t 36) (some .i64) false false)), (none, (.call (some 38) (.k (.func 94 [] [])) [(.t 34), (.t 37)] (some 100))), (none, (.fa (some 39) (.t 5) 1)), (none, (.st (.t 39) (.t 38) 1))]) (.seq (.seq (.ops [(none, (.fa (some 40) (.t 5) 0)), (none, (.ld (some 41) (.t 40) (.one none))), (none, (.bin (some 42) .eql (.t 41) (.k (.int .i64 1)) false false))]) (.cond (.t 42) (.seq (.ops [(none, (.ld (some 43) (.t 5) (.agg 4))), (none, (.st (.t 4) (.t 43) 4))]) .ret) .skip)) (.seq (.seq (.ops [(none, (.cp 44 0)), (none, (.call (some 45) (.k (.func 95 [] [])) [(.t 44)] (some 100))), (none, (.cvt (some 46) (.t 45) (some .i64) false false)), (none, (.mv 6 46))]) (.block 0 (.loop (.seq (.seq (.ops [(none, (.cp 47 6)), (none, (.bin (some 48) .gtr (.t 47) (.k (.int .i64 0)) false false)), (none, (.cp 49 48)), ((some (49, true)), (.cp 50 0)), ((some (49, true)), (.nil (some 51) (.t 50))), ((some (49, true)), (.fa (some 52) (.t 51) 1)), ((some (49, true)), (.ld (some 53) (.t 52) (.one none))), ((some (49, true)), (.un (some 54) .not (.t 53))), (none, (.pick (some 55) (.t 49) (.t 54) (.k (.bool false))))]) (.cond (.t 55) .skip (.exit 0))) (.seq (.block 1 (.opsT (.one none (.fa (some 58) (.t 5) 3) (.one none (.cp 60 0) (.one none (.cp 61 1) (.one none (.bin (some 62) .sub (.t 61) (.k (.int .i64 1)) false false) (.alt none (.ldT 59 (.t 58) (some 4)) (.one none (.call (some 63) (.k (.func 91 [] [])) [(.t 60), (.t 62)] (some 100)) (.one none (.bs 64 4 [(.t 63)]) (.one none (.app 65 (.t 59) (.t 64) 4 56 true true) (.one none (.fa (some 66) (.t 5) 3) (.one none (.st (.t 66) (.t 65) 1) .done))))) (.alt none (.call (some 63) (.k (.func 91 [] [])) [(.t 60), (.t 62)] (some 100)) (.one none (.ldT 59 (.t 58) (some 4)) (.one none (.bs 64 4 [(.t 63)]) (.one none (.app 65 (.t 59) (.t 64) 4 56 true true) (.one none (.fa (some 66) (.t 5) 3) (.one none (.st (.t 66) (.t 65) 1) .done))))) .nil)))))))) (.ops [(none, (.cp 56 6)), (none, (.bin (some 57) .sub (.t 56) (.k (.int .i64 1)) false false)), (none, (.mv 6 57))])))))) (.seq (.ops [(none, (.ld (some 67) (.t 5) (.agg 4))), (none, (.st (.t 4) (.t 67) 4))]) .ret))))))))))) := by kernel_rfl
theorem oneR_lt (r : Rd) : (oneR r).1 < 256 := by
  obtain ⟨s, b⟩ := r
  cases b with
  | true => simp [oneR]
  | false => cases s with
    | nil => simp [oneR]
    | cons c s => exact c.toNat_lt
/-- so many, one behind the other, till one is bad -/
def repR (f : Rd → T × Rd) : Nat → Rd → List T × Rd
  | 0, r => ([], r)
  | m + 1, r => if r.2 = true then ([], r) else ((f r).1 :: (repR f m (f r).2).1, (repR f m (f r).2).2)
/-- what the name's bytes give -/
def nameR (r : Rd) : List UInt8 × Rd := takeR (oneR r).2 (oneR r).1
def decW : Nat → Rd → T × Rd
  | 0, r => (.mk (oneR r).1 [] 0 [], ((oneR r).2.1, true))
  | d + 1, r =>
    if (oneR r).1 < 1 ∨ 3 < (oneR r).1 then (.mk (oneR r).1 [] 0 [], ((oneR r).2.1, true))
    else if (oneR r).1 = 2 then (.mk 2 [] (numP (oneR r).2).1 [], (numP (oneR r).2).2)
    else if (oneR r).1 = 1 then (.mk 1 (nameR (oneR r).2).1 0 [], (nameR (oneR r).2).2)
    else (.mk 3 (nameR (oneR r).2).1 0 (repR (decW d) (oneR (nameR (oneR r).2).2).1 (oneR (nameR (oneR r).2).2).2).1, (repR (decW d) (oneR (nameR (oneR r).2).2).1 (oneR (nameR (oneR r).2).2).2).2)
def flT : List T → Fl | [] => .full | _ => .own
def flS : List T → Fl | [] => .full | _ => .sh
mutual
/-- a term as it is taken: no arguments are a nil slice -/
def T.avf : T → AV | .mk k n v l => .agg [.int .i64 k, .str n, .int .i64 v, .sl (flS l) 4 (avfs l)]
def avfs : List T → List AV | [] => [] | t :: l => t.avf :: avfs l
end
theorem avfs_map : ∀ l, avfs l = l.map T.avf
  | [] => by rw [avfs]; rfl
  | t :: l => by rw [avfs, avfs_map l]; rfl
theorem avf_mk (k : Int) (n : List UInt8) (v : Int) (l : List T) : (T.mk k n v l).avf = .agg [.int .i64 k, .str n, .int .i64 v, .sl (flS l) 4 (l.map T.avf)] := by rw [T.avf, avfs_map]
theorem strip_flS (l : List T) (xs : List AV) : strip (.sl (flS l) 4 xs) = .sl (flS l) 4 xs := by cases l <;> rfl
theorem strip_flT (l : List T) (xs : List AV) : strip (.sl (flT l) 4 xs) = .sl (flS l) 4 xs := by cases l <;> rfl
theorem isOwn_flS (l : List T) (xs : List AV) : isOwn (.sl (flS l) 4 xs) = false := by cases l <;> rfl
theorem avf_agg (t : T) : AV.agg t.avf.cells = t.avf := by cases t; rw [avf_mk]; rfl
theorem strip_avf (t : T) : strip t.avf = t.avf := by cases t; rw [avf_mk]; rfl
theorem isOwn_avf (t : T) : isOwn t.avf = false := by cases t; rw [avf_mk]; rfl
theorem avf_len (t : T) : t.avf.cells.length = 4 := by cases t; rw [avf_mk]; rfl
theorem avf_take (t : T) : List.take 4 t.avf.cells = t.avf.cells := by cases t; rw [avf_mk]; rfl
theorem avf_okc (t : T) : okc t.avf = true := by cases t; rw [avf_mk]; rfl
theorem avf_put (a b c d : AV) (t : T) : putCells [a, b, c, d] 0 t.avf.cells = t.avf.cells := by cases t; rw [avf_mk]; rfl
theorem avf_cstrip (t : T) : t.avf.cells.map strip = t.avf.cells := by
  cases t; rw [avf_mk]; simp only [AV.cells, List.map_cons, List.map_nil, strip_flS]; rfl
theorem fk_avf : ∀ t : T, fk t.avf = t.av := by
  refine T.ind fun k n v l ih => ?_
  rw [avf_mk, av_mk]
  have : fkL (l.map T.avf) = l.map T.av := by
    rw [fkL_map, List.map_map]; exact List.map_congr_left fun x hx => ih x hx
  simp [fk, fkL, this]
theorem lab_avf (n : Nat) : ∀ t : T, labOK n t.avf = true := by
  refine T.ind fun k s v l ih => ?_
  have : ∀ m : List T, (∀ x ∈ m, labOK n x.avf = true) → labL n (m.map T.avf) = true := by
    intro m
    induction m with
    | nil => intro _; rfl
    | cons x m ihm => intro ih; simp [labL, ih x (by simp), ihm (fun y hy => ih y (by simp [hy]))]
  rw [avf_mk]
  simp [labOK, labL, this l ih]
attribute [local go_sem] strip_flS strip_flT isOwn_flS avf_agg strip_avf isOwn_avf avf_len avf_take avf_okc avf_put avf_cstrip
theorem rd_def (n : Nat) (bk : Nat → Blk) (lb : Nat) (r : Rd) : Hp.rd ⟨n, bk⟩ lb r = ⟨n, updB bk lb (.cells [.str r.1, .bool r.2])⟩ := rfl
theorem rd_eta (h : Hp) (lb : Nat) (r : Rd) : h.rd lb r = ⟨h.n, updB h.bk lb (.cells [.str r.1, .bool r.2])⟩ := rfl
theorem wn {n : Nat} (h : n < 256) : IntKind.i64.wrap (n : Int) = n := by rw [wrap64] <;> omega
theorem fn_decW : ∀ (d : Nat) (r : Rd) (lb : Nat) (h : Hp), d < 1000000 → lb < h.n → h.bk lb = rdB r → Fn Try.prog 91 [.ptr lb 0, .int .i64 (d : Nat)] h (decW d r).1.avf (h.rd lb (decW d r).2) := by
  intro d
  induction d with
  | zero =>
    intro r lb h hd hl hb
    have n0 : ¬ lb = h.n := by omega
    have n1 : ¬ lb = h.n + 1 := by omega
    have m0 : ¬ h.n = lb := by omega
    have m1 : ¬ h.n + 1 = lb := by omega
    have p0 : ¬ h.n = h.n + 1 := by omega
    have p1 : ¬ h.n + 1 = h.n := by omega
    have hk := oneR_lt r
    have hw := wn hk
    rw [decW]
    refine fnC mixed Try.func91 c91 (by simp) ?_
    simp only [go_sem, Nat.reduceEqDiff, Nat.reduceAdd, Nat.reduceLeDiff, Nat.reduceLT, ↓reduceIte, reduceCtorEq, Int.reduceLT, Int.reduceToNat, Int.reduceEq, Int.reduceBEq, Int.reduceBNe, Nat.reduceBEq]
    refine ccall (fn_one r lb ⟨h.n + 1, updB h.bk h.n (.cells [.int .i64 0, .str [], .int .i64 0, .sl .full 4 []])⟩ (by simp; omega) (by simp [bk_apply, n0, hb])) (by simp only [go_sem, Nat.reduceEqDiff, Nat.reduceAdd, Nat.reduceLeDiff, Nat.reduceLT, ↓reduceIte, reduceCtorEq, Int.reduceLT, Int.reduceToNat, Int.reduceEq, Int.reduceBEq, Int.reduceBNe, Nat.reduceBEq]) ?_
    simp only [go_sem, Nat.reduceEqDiff, Nat.reduceAdd, Nat.reduceLeDiff, Nat.reduceLT, ↓reduceIte, reduceCtorEq, Int.reduceLT, Int.reduceToNat, Int.reduceEq, Int.reduceBEq, Int.reduceBNe, Nat.reduceBEq, rd_def, n0, n1, m0, m1, p0, p1, hw]
    exact ⟨rfl, lab_avf _ _, shrink_rd (fun l hl hne => by simp [bk_apply, hne, show l ≠ h.n by omega, show l ≠ h.n + 1 by omega]) (by simp [bk_apply, rdB, n0, n1]) (by omega)⟩
  | succ d ih =>
    intro r lb h hd hl hb
    have n0 : ¬ lb = h.n := by omega
    have n1 : ¬ lb = h.n + 1 := by omega
    have m0 : ¬ h.n = lb := by omega
    have m1 : ¬ h.n + 1 = lb := by omega
    have p0 : ¬ h.n = h.n + 1 := by omega
    have p1 : ¬ h.n + 1 = h.n := by omega
    have hk := oneR_lt r
    have hw := wn hk
    have hd1 : (((d + 1 : Nat) : Int) == 0) = false := by simp; omega
    rw [decW]
    refine fnC mixed Try.func91 c91 (by simp) ?_
    simp only [go_sem, Nat.reduceEqDiff, Nat.reduceAdd, Nat.reduceLeDiff, Nat.reduceLT, ↓reduceIte, reduceCtorEq, Int.reduceLT, Int.reduceToNat, Int.reduceEq, Int.reduceBEq, Int.reduceBNe, Nat.reduceBEq]
    refine ccall (fn_one r lb ⟨h.n + 1, updB h.bk h.n (.cells [.int .i64 0, .str [], .int .i64 0, .sl .full 4 []])⟩ (by simp; omega) (by simp [bk_apply, n0, hb])) (by simp only [go_sem, Nat.reduceEqDiff, Nat.reduceAdd, Nat.reduceLeDiff, Nat.reduceLT, ↓reduceIte, reduceCtorEq, Int.reduceLT, Int.reduceToNat, Int.reduceEq, Int.reduceBEq, Int.reduceBNe, Nat.reduceBEq]) ?_
    by_cases c1 : (oneR r).1 < 1 ∨ 3 < (oneR r).1
    · rw [if_pos c1]
      by_cases c2 : (oneR r).1 < 1
      · have e1 : decide (((oneR r).1 : Int) < 1) = true := by simp; omega
        simp only [go_sem, Nat.reduceEqDiff, Nat.reduceAdd, Nat.reduceLeDiff, Nat.reduceLT, ↓reduceIte, reduceCtorEq, Int.reduceLT, Int.reduceToNat, Int.reduceEq, Int.reduceBEq, Int.reduceBNe, Nat.reduceBEq, rd_def, n0, n1, m0, m1, p0, p1, hw, hd1, e1]
        exact ⟨rfl, lab_avf _ _, shrink_rd (fun l hl hne => by simp [bk_apply, hne, show l ≠ h.n by omega, show l ≠ h.n + 1 by omega]) (by simp [bk_apply, rdB, n0, n1]) (by omega)⟩
      · have e1 : decide (((oneR r).1 : Int) < 1) = false := by simp; omega
        have e2 : decide (((oneR r).1 : Int) > 3) = true := by simp; omega
        simp only [go_sem, Nat.reduceEqDiff, Nat.reduceAdd, Nat.reduceLeDiff, Nat.reduceLT, ↓reduceIte, reduceCtorEq, Int.reduceLT, Int.reduceToNat, Int.reduceEq, Int.reduceBEq, Int.reduceBNe, Nat.reduceBEq, rd_def, n0, n1, m0, m1, p0, p1, hw, hd1, e1, e2]
        exact ⟨rfl, lab_avf _ _, shrink_rd (fun l hl hne => by simp [bk_apply, hne, show l ≠ h.n by omega, show l ≠ h.n + 1 by omega]) (by simp [bk_apply, rdB, n0, n1]) (by omega)⟩
    have e1 : decide (((oneR r).1 : Int) < 1) = false := by simp; omega
    have e2 : decide (((oneR r).1 : Int) > 3) = false := by simp; omega
    rw [if_neg c1]
    by_cases c2 : (oneR r).1 = 2
    · rw [if_pos c2]
      have e3 : (((oneR r).1 : Int) == 2) = true := by rw [c2]; rfl
      simp only [go_sem, Nat.reduceEqDiff, Nat.reduceAdd, Nat.reduceLeDiff, Nat.reduceLT, ↓reduceIte, reduceCtorEq, Int.reduceLT, Int.reduceToNat, Int.reduceEq, Int.reduceBEq, Int.reduceBNe, Nat.reduceBEq, rd_def, n0, n1, m0, m1, p0, p1, hw, hd1, e1, e2, e3]
      refine ccall (fn_number (oneR r).2 lb _ (by simp; omega) (by simp [bk_apply, rdB, n0, n1])) (by simp only [go_sem, Nat.reduceEqDiff, Nat.reduceAdd, Nat.reduceLeDiff, Nat.reduceLT, ↓reduceIte, reduceCtorEq, Int.reduceLT, Int.reduceToNat, Int.reduceEq, Int.reduceBEq, Int.reduceBNe, Nat.reduceBEq]) ?_
      simp only [go_sem, Nat.reduceEqDiff, Nat.reduceAdd, Nat.reduceLeDiff, Nat.reduceLT, ↓reduceIte, reduceCtorEq, Int.reduceLT, Int.reduceToNat, Int.reduceEq, Int.reduceBEq, Int.reduceBNe, Nat.reduceBEq, rd_def, n0, n1, m0, m1, p0, p1]
      exact ⟨by rw [c2]; rfl, lab_avf _ _, shrink_rd (fun l hl hne => by simp [bk_apply, hne, show l ≠ h.n by omega, show l ≠ h.n + 1 by omega]) (by simp [bk_apply, rdB, n0, n1]) (by omega)⟩
    rw [if_neg c2]
    have e3 : (((oneR r).1 : Int) == 2) = false := by simp; omega
    simp only [go_sem, Nat.reduceEqDiff, Nat.reduceAdd, Nat.reduceLeDiff, Nat.reduceLT, ↓reduceIte, reduceCtorEq, Int.reduceLT, Int.reduceToNat, Int.reduceEq, Int.reduceBEq, Int.reduceBNe, Nat.reduceBEq, rd_def, n0, n1, m0, m1, p0, p1, hw, hd1, e1, e2, e3]
    have hw2 := wn (oneR_lt (oneR r).2)
    refine ccall (fn_one (oneR r).2 lb _ (by simp; omega) (by simp [bk_apply, rdB, n0, n1])) (by simp only [go_sem, Nat.reduceEqDiff, Nat.reduceAdd, Nat.reduceLeDiff, Nat.reduceLT, ↓reduceIte, reduceCtorEq, Int.reduceLT, Int.reduceToNat, Int.reduceEq, Int.reduceBEq, Int.reduceBNe, Nat.reduceBEq]) ?_
    simp only [go_sem, Nat.reduceEqDiff, Nat.reduceAdd, Nat.reduceLeDiff, Nat.reduceLT, ↓reduceIte, reduceCtorEq, Int.reduceLT, Int.reduceToNat, Int.reduceEq, Int.reduceBEq, Int.reduceBNe, Nat.reduceBEq, rd_def, n0, n1, m0, m1, p0, p1, hw2]
    refine ccall (fn_take (oneR (oneR r).2).2 lb ((oneR (oneR r).2).1 : Int) _ (by simp; omega) (by simp [bk_apply, rdB, n0, n1])) (by simp only [go_sem, Nat.reduceEqDiff, Nat.reduceAdd, Nat.reduceLeDiff, Nat.reduceLT, ↓reduceIte, reduceCtorEq, Int.reduceLT, Int.reduceToNat, Int.reduceEq, Int.reduceBEq, Int.reduceBNe, Nat.reduceBEq]) ?_
    rw [show takeR (oneR (oneR r).2).2 ((oneR (oneR r).2).1 : Int) = nameR (oneR r).2 from rfl]
    simp only [go_sem, Nat.reduceEqDiff, Nat.reduceAdd, Nat.reduceLeDiff, Nat.reduceLT, ↓reduceIte, reduceCtorEq, Int.reduceLT, Int.reduceToNat, Int.reduceEq, Int.reduceBEq, Int.reduceBNe, Nat.reduceBEq, rd_def, n0, n1, m0, m1, p0, p1]
    by_cases c3 : (oneR r).1 = 1
    · rw [if_pos c3]
      have e4 : (((oneR r).1 : Int) == 1) = true := by rw [c3]; rfl
      simp only [go_sem, Nat.reduceEqDiff, Nat.reduceAdd, Nat.reduceLeDiff, Nat.reduceLT, ↓reduceIte, reduceCtorEq, Int.reduceLT, Int.reduceToNat, Int.reduceEq, Int.reduceBEq, Int.reduceBNe, Nat.reduceBEq, rd_def, n0, n1, m0, m1, p0, p1, e4]
      exact ⟨by rw [c3]; rfl, lab_avf _ _, shrink_rd (fun l hl hne => by simp [bk_apply, hne, show l ≠ h.n by omega, show l ≠ h.n + 1 by omega]) (by simp [bk_apply, rdB, n0, n1]) (by omega)⟩
    rw [if_neg c3]
    have e4 : (((oneR r).1 : Int) == 1) = false := by simp; omega
    simp only [go_sem, Nat.reduceEqDiff, Nat.reduceAdd, Nat.reduceLeDiff, Nat.reduceLT, ↓reduceIte, reduceCtorEq, Int.reduceLT, Int.reduceToNat, Int.reduceEq, Int.reduceBEq, Int.reduceBNe, Nat.reduceBEq, rd_def, n0, n1, m0, m1, p0, p1, e4]
    generalize hs : nameR (oneR r).2 = s
    have hw3 := wn (oneR_lt s.2)
    refine ccall (fn_one s.2 lb _ (by simp; omega) (by simp [bk_apply, rdB, n0, n1])) (by simp only [go_sem, Nat.reduceEqDiff, Nat.reduceAdd, Nat.reduceLeDiff, Nat.reduceLT, ↓reduceIte, reduceCtorEq, Int.reduceLT, Int.reduceToNat, Int.reduceEq, Int.reduceBEq, Int.reduceBNe, Nat.reduceBEq]) ?_
    simp only [go_sem, Nat.reduceEqDiff, Nat.reduceAdd, Nat.reduceLeDiff, Nat.reduceLT, ↓reduceIte, reduceCtorEq, Int.reduceLT, Int.reduceToNat, Int.reduceEq, Int.reduceBEq, Int.reduceBNe, Nat.reduceBEq, rd_def, n0, n1, m0, m1, p0, p1, hw3]
    have hk3 : (oneR s.2).1 < 256 := oneR_lt _
    have hkk : (oneR r).1 = 3 := by omega
    refine cloop (fun k t => ∃ (q : Rd) (acc : List T), acc.length + k < 256 ∧ t.fr 0 = .ptr lb 0 ∧ t.fr 1 = .int .i64 ((d + 1 : Nat) : Int) ∧ t.fr 4 = .ptr h.n 0 ∧ t.fr 5 = .ptr (h.n + 1) 0 ∧ t.fr 6 = .int .i64 (k : Nat) ∧
      t.hp.n = h.n + 2 ∧ t.hp.bk lb = .cells [.str q.1, .bool q.2] ∧ t.hp.bk h.n = .cells [.int .i64 0, .str [], .int .i64 0, .sl .full 4 []] ∧ t.hp.bk (h.n + 1) = .cells [.int .i64 3, .str s.1, .int .i64 0, .sl (flT acc) 4 (acc.map T.avf)] ∧
      (∀ l, l < h.n → l ≠ lb → t.hp.bk l = h.bk l) ∧
      repR (decW d) (oneR s.2).1 (oneR s.2).2 = (acc ++ (repR (decW d) k q).1, (repR (decW d) k q).2)) (oneR s.2).1 ⟨(oneR s.2).2, [], by simp [fr_apply, argsF, bk_apply, flT, hk3, n0, n1, m0, m1, p0, p1, hkk]; exact fun l hl hne => by simp [hne, show l ≠ h.n by omega, show l ≠ h.n + 1 by omega]⟩ ?_
    rintro k ⟨f, hp⟩ ⟨q, acc, hlen, f0, f1, f4, f5, f6, hn, hb1, hb2, hb3, hbo, he⟩
    simp only at f0 f1 f4 f5 f6 hn hb1 hb2 hb3 hbo
    have fin : repR (decW d) k q = ([], q) → (T.mk 3 s.1 0 (repR (decW d) (oneR s.2).1 (oneR s.2).2).1).avf = .agg [.int .i64 3, .str s.1, .int .i64 0, .sl (flS acc) 4 (acc.map T.avf)] ∧ (repR (decW d) (oneR s.2).1 (oneR s.2).2).2 = q := by
      intro e
      rw [he, e, List.append_nil, avf_mk]
      exact ⟨rfl, rfl⟩
    have lab := fun n => lab_avf n (T.mk 3 s.1 0 (repR (decW d) (oneR s.2).1 (oneR s.2).2).1)
    cases k with
    | zero =>
      obtain ⟨g2, g3⟩ := fin rfl
      have e5 : decide ((0 : Int) > 0) = false := by decide
      simp only [go_sem, Nat.reduceEqDiff, Nat.reduceAdd, Nat.reduceLeDiff, Nat.reduceLT, ↓reduceIte, reduceCtorEq, Int.reduceLT, Int.reduceToNat, Int.reduceEq, Int.reduceBEq, Int.reduceBNe, Nat.reduceBEq, f0, f1, f4, f5, f6, hb1, hb2, hb3, e5, p0, p1, Int.cast_ofNat_Int]
      refine ⟨g2, lab _, ?_⟩
      rw [g3]
      exact shrink_rd (fun l hl hne => by simp only [bk_apply, show l ≠ h.n by omega, if_false]; exact hbo l hl hne) (by simp only [bk_apply, n0, if_false, hb1, rdB]) (by omega)
    | succ k =>
      have e5 : decide (((k + 1 : Nat) : Int) > 0) = true := decide_eq_true (by omega)
      obtain ⟨qs, qb⟩ := q
      cases qb with
      | true =>
        obtain ⟨g2, g3⟩ := fin (by rw [repR, if_pos rfl])
        simp only [go_sem, Nat.reduceEqDiff, Nat.reduceAdd, Nat.reduceLeDiff, Nat.reduceLT, ↓reduceIte, reduceCtorEq, Int.reduceLT, Int.reduceToNat, Int.reduceEq, Int.reduceBEq, Int.reduceBNe, Nat.reduceBEq, f0, f1, f4, f5, f6, hb1, hb2, hb3, e5, p0, p1]
        refine ⟨g2, lab _, ?_⟩
        rw [g3]
        exact shrink_rd (fun l hl hne => by simp only [bk_apply, show l ≠ h.n by omega, if_false]; exact hbo l hl hne) (by simp only [bk_apply, n0, if_false, hb1, rdB]) (by omega)
      | false =>
        have hwd : IntKind.i64.wrap (((d + 1 : Nat) : Int) - 1) = (d : Nat) := by rw [wrap64] <;> omega
        have hwk : IntKind.i64.wrap (((k + 1 : Nat) : Int) - 1) = (k : Nat) := by rw [wrap64] <;> omega
        rw [repR, if_neg (by simp)] at he
        simp only at he
        cases acc with
        | nil =>
          have fl0 : flT [] = .full := rfl
          rw [fl0] at hb3
          have a1 : 1 * 56 ≤ 140737488355328 := by omega
          have a2 : 0 ≤ 9223372036854775805 := by omega
          simp only [go_sem, Nat.reduceEqDiff, Nat.reduceAdd, Nat.reduceLeDiff, Nat.reduceLT, ↓reduceIte, reduceCtorEq, Int.reduceLT, Int.reduceToNat, Int.reduceEq, Int.reduceBEq, Int.reduceBNe, Nat.reduceBEq, f0, f1, f4, f5, f6, hb1, hb2, hb3, e5, p0, p1, hwd]
          refine ⟨?_, ?_⟩
          · refine ccallD rfl (ih (qs, false) lb _ (by omega) (by simp; omega) (by simp [bk_apply, rdB, n0, n1, hb1])) (by simp only [go_sem, Nat.reduceEqDiff, Nat.reduceAdd, Nat.reduceLeDiff, Nat.reduceLT, ↓reduceIte, reduceCtorEq, Int.reduceLT, Int.reduceToNat, Int.reduceEq, Int.reduceBEq, Int.reduceBNe, Nat.reduceBEq]) ?_
            simp only [go_sem, Nat.reduceEqDiff, Nat.reduceAdd, Nat.reduceLeDiff, Nat.reduceLT, ↓reduceIte, reduceCtorEq, Int.reduceLT, Int.reduceToNat, Int.reduceEq, Int.reduceBEq, Int.reduceBNe, Nat.reduceBEq, f0, f1, f4, f5, f6, rd_eta, n0, n1, m0, m1, p0, p1, hb3, hwk, a1, a2]
            first
              | exact ⟨k, by omega, (decW d (qs, false)).2, (x :: acc) ++ [(decW d (qs, false)).1], by simp at hlen ⊢; omega, rfl, hn, rfl, hb2, by simp [flT], fun l hl hne => by simp [hne, show l ≠ h.n + 1 by omega]; exact hbo l hl hne, by rw [he]; simp⟩
              | exact ⟨k, by omega, (decW d (qs, false)).2, [] ++ [(decW d (qs, false)).1], by simp at hlen ⊢; omega, rfl, hn, rfl, hb2, by simp [flT], fun l hl hne => by simp [hne, show l ≠ h.n + 1 by omega]; exact hbo l hl hne, by rw [he]; simp⟩
          · refine ccallD rfl (ih (qs, false) lb _ (by omega) (by simp; omega) (by simp [bk_apply, rdB, n0, n1, hb1])) (by simp only [go_sem, Nat.reduceEqDiff, Nat.reduceAdd, Nat.reduceLeDiff, Nat.reduceLT, ↓reduceIte, reduceCtorEq, Int.reduceLT, Int.reduceToNat, Int.reduceEq, Int.reduceBEq, Int.reduceBNe, Nat.reduceBEq]) ?_
            simp only [go_sem, Nat.reduceEqDiff, Nat.reduceAdd, Nat.reduceLeDiff, Nat.reduceLT, ↓reduceIte, reduceCtorEq, Int.reduceLT, Int.reduceToNat, Int.reduceEq, Int.reduceBEq, Int.reduceBNe, Nat.reduceBEq, f0, f1, f4, f5, f6, rd_eta, n0, n1, m0, m1, p0, p1, hb3, hwk, a1, a2]
            first
              | exact ⟨k, by omega, (decW d (qs, false)).2, (x :: acc) ++ [(decW d (qs, false)).1], by simp at hlen ⊢; omega, rfl, hn, rfl, hb2, by simp [flT], fun l hl hne => by simp [hne, show l ≠ h.n + 1 by omega]; exact hbo l hl hne, by rw [he]; simp⟩
              | exact ⟨k, by omega, (decW d (qs, false)).2, [] ++ [(decW d (qs, false)).1], by simp at hlen ⊢; omega, rfl, hn, rfl, hb2, by simp [flT], fun l hl hne => by simp [hne, show l ≠ h.n + 1 by omega]; exact hbo l hl hne, by rw [he]; simp⟩
        | cons x acc =>
          have fl0 : flT (x :: acc) = .own := rfl
          rw [fl0] at hb3
          have a1 : (acc.length + 2) * 56 ≤ 140737488355328 := by simp at hlen; omega
          have a2 : acc.length ≤ 9223372036854775805 := by simp at hlen; omega
          simp only [go_sem, Nat.reduceEqDiff, Nat.reduceAdd, Nat.reduceLeDiff, Nat.reduceLT, ↓reduceIte, reduceCtorEq, Int.reduceLT, Int.reduceToNat, Int.reduceEq, Int.reduceBEq, Int.reduceBNe, Nat.reduceBEq, f0, f1, f4, f5, f6, hb1, hb2, hb3, e5, p0, p1, hwd]
          refine ⟨?_, ?_⟩
          · refine ccallD rfl (ih (qs, false) lb _ (by omega) (by simp; omega) (by simp [bk_apply, rdB, n0, n1, hb1])) (by simp only [go_sem, Nat.reduceEqDiff, Nat.reduceAdd, Nat.reduceLeDiff, Nat.reduceLT, ↓reduceIte, reduceCtorEq, Int.reduceLT, Int.reduceToNat, Int.reduceEq, Int.reduceBEq, Int.reduceBNe, Nat.reduceBEq]) ?_
            simp only [go_sem, Nat.reduceEqDiff, Nat.reduceAdd, Nat.reduceLeDiff, Nat.reduceLT, ↓reduceIte, reduceCtorEq, Int.reduceLT, Int.reduceToNat, Int.reduceEq, Int.reduceBEq, Int.reduceBNe, Nat.reduceBEq, f0, f1, f4, f5, f6, rd_eta, n0, n1, m0, m1, p0, p1, hb3, hwk, a1, a2]
            first
              | exact ⟨k, by omega, (decW d (qs, false)).2, (x :: acc) ++ [(decW d (qs, false)).1], by simp at hlen ⊢; omega, rfl, hn, rfl, hb2, by simp [flT], fun l hl hne => by simp [hne, show l ≠ h.n + 1 by omega]; exact hbo l hl hne, by rw [he]; simp⟩
              | exact ⟨k, by omega, (decW d (qs, false)).2, [] ++ [(decW d (qs, false)).1], by simp at hlen ⊢; omega, rfl, hn, rfl, hb2, by simp [flT], fun l hl hne => by simp [hne, show l ≠ h.n + 1 by omega]; exact hbo l hl hne, by rw [he]; simp⟩
          · refine ccallD rfl (ih (qs, false) lb _ (by omega) (by simp; omega) (by simp [bk_apply, rdB, n0, n1, hb1])) (by simp only [go_sem, Nat.reduceEqDiff, Nat.reduceAdd, Nat.reduceLeDiff, Nat.reduceLT, ↓reduceIte, reduceCtorEq, Int.reduceLT, Int.reduceToNat, Int.reduceEq, Int.reduceBEq, Int.reduceBNe, Nat.reduceBEq]) ?_
            simp only [go_sem, Nat.reduceEqDiff, Nat.reduceAdd, Nat.reduceLeDiff, Nat.reduceLT, ↓reduceIte, reduceCtorEq, Int.reduceLT, Int.reduceToNat, Int.reduceEq, Int.reduceBEq, Int.reduceBNe, Nat.reduceBEq, f0, f1, f4, f5, f6, rd_eta, n0, n1, m0, m1, p0, p1, hb3, hwk, a1, a2]
            first
              | exact ⟨k, by omega, (decW d (qs, false)).2, (x :: acc) ++ [(decW d (qs, false)).1], by simp at hlen ⊢; omega, rfl, hn, rfl, hb2, by simp [flT], fun l hl hne => by simp [hne, show l ≠ h.n + 1 by omega]; exact hbo l hl hne, by rw [he]; simp⟩
              | exact ⟨k, by omega, (decW d (qs, false)).2, [] ++ [(decW d (qs, false)).1], by simp at hlen ⊢; omega, rfl, hn, rfl, hb2, by simp [flT], fun l hl hne => by simp [hne, show l ≠ h.n + 1 by omega]; exact hbo l hl hne, by rw [he]; simp⟩
end Go.Proofs.Ythaoooohomfkcaa.Ab
