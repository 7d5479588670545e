/- The variables of terms. -/
import Derived.Test.YthaoooohomfkcaaNm0
namespace Go.Proofs.Ythaoooohomfkcaa.Ab
set_option linter.unusedVariables false
set_option linter.unusedSimpArgs false
set_option maxRecDepth 10000
attribute [local go_sem] Nat.zero_le Bool.not_true Bool.not_false Bool.false_eq_true if_false if_true forall_const true_and and_true List.map Option.map Bool.and_self Bool.and_true Bool.true_and Bool.false_and Bool.and_false List.getElem?_cons_zero List.getElem?_nil List.getElem?_cons_succ Int.natCast_nonneg Int.toNat_natCast List.length_map List.length_cons List.length_nil Nat.zero_add Nat.le_refl List.drop_zero List.drop_succ_cons List.take_succ_cons List.take_zero List.take_nil ne_eq not_true_eq_false not_false_eq_true upd_same Nat.add_assoc Nat.left_eq_add Nat.add_eq_left Nat.add_left_cancel_iff Nat.succ_ne_self Nat.one_ne_zero Nat.add_zero Nat.le_add_right ite_self List.set_cons_zero List.set_cons_succ List.all_cons List.all_nil bne_self_eq_false List.isEmpty_cons Int.cast_ofNat_Int Nat.mul_one List.nil_append or_self or_true true_or List.cons_append List.append_nil Option.none_beq_some Option.some_beq_some beq_self_eq_true
theorem c106 : compF Try.prog ow Try.f106 = (some (23, ([], (.seq (.ops [(none, (.box 2 (.t 0)))]) (.seq (.seq (.ops [(none, (.fa (some 6) (.t 2) 0)), (none, (.ld (some 7) (.t 6) (.one none))), (none, (.bin (some 8) .eql (.t 7) (.k (.int .i64 1)) false false))]) (.cond (.t 8) (.ops [(none, (.cp 9 1)), (none, (.fa (some 10) (.t 2) 1)), (none, (.ld (some 11) (.t 10) (.one none))), (none, (.x none (.mup none) [(.t 9), (.t 11), (.k (.bool true))]))]) .skip)) (.seq (.ops [(none, (.fa (some 12) (.t 2) 3)), (none, (.ld (some 13) (.t 12) (.one (some 4)))), (none, (.len (some 14) (.t 13) false true)), (none, (.set 15 (.int .i64 0)))]) (.block 0 (.loop (.seq (.ops [(none, (.bin (some 16) .lss (.t 15) (.t 14) false false))]) (.seq (.cond (.t 16) .skip (.exit 0)) (.seq (.block 1 (.seq (.ops [(none, (.ia (some 17) (.t 13) (.t 15) (some 4) none)), (none, (.ld (some 18) (.t 17) (.agg 4))), (none, (.alloc 5 [(.int .i64 0), (.str []), (.int .i64 0), (.sl .full 4 [])])), (none, (.st (.t 5) (.t 18) 4))]) (.ops [(none, (.ld (some 19) (.t 5) (.agg 4))), (none, (.cp 20 1)), (none, (.call (some 21) (.k (.func 106 [] [])) [(.t 19), (.t 20)] (some 100)))]))) (.ops [(none, (.bin (some 22) .add (.t 15) (.k (.int .i64 1)) false false)), (none, (.cp 15 22))])))))))))))) := by kernel_rfl
theorem c108 : compF Try.prog ow Try.f108 = (some (4, ([(.t 2)], (.seq (.ops [(none, (.box 1 (.t 0))), (none, (.set 2 .fnil))]) (.seq (.ops [(none, (.mkf (some 3) 123 [] [(.t 1)])), (none, (.mv 2 3))]) .ret))))) := by kernel_rfl
theorem c70 : compF Try.prog ow Try.f70 = (some (20, ([(.t 2)], (.seq (.ops [(none, (.set 2 (.sl .full 1 [])))]) (.seq (.ops [(none, (.x (some 6) .mkm [])), (none, (.mv 3 6))]) (.seq (.seq (.ops [(none, (.cp 7 0)), (none, (.len (some 8) (.t 7) false true)), (none, (.set 9 (.int .i64 0)))]) (.block 0 (.loop (.seq (.ops [(none, (.bin (some 10) .lss (.t 9) (.t 8) false false))]) (.seq (.cond (.t 10) .skip (.exit 0)) (.seq (.block 1 (.seq (.ops [(none, (.ia (some 11) (.t 7) (.t 9) (some 4) none)), (none, (.ld (some 12) (.t 11) (.agg 4))), (none, (.alloc 5 [(.int .i64 0), (.str []), (.int .i64 0), (.sl .full 4 [])])), (none, (.st (.t 5) (.t 12) 4))]) (.ops [(none, (.ld (some 13) (.t 5) (.agg 4))), (none, (.cp 14 3)), (none, (.call (some 15) (.k (.func 106 [] [])) [(.t 13), (.t 14)] (some 100)))]))) (.ops [(none, (.bin (some 16) .add (.t 9) (.k (.int .i64 1)) false false)), (none, (.cp 9 16))]))))))) (.seq (.ops [(none, (.cp 17 3)), (none, (.call (some 18) (.k (.func 108 [] [])) [(.t 17)] none)), (none, (.call (some 19) (.k (.func 107 [] [])) [(.t 18)] none)), (none, (.mv 2 19))]) .ret))))))) := by kernel_rfl
theorem c68 : compF Try.prog ow Try.f68 = (some (8, ([(.t 2)], (.seq (.ops [(none, (.box 1 (.t 0))), (none, (.set 2 (.bool false)))]) (.seq (.ops [(none, (.ld (some 3) (.t 1) (.agg 4))), (none, (.bs 4 4 [(.t 3)])), (none, (.call (some 5) (.k (.func 70 [] [])) [(.t 4)] none)), (none, (.len (some 6) (.t 5) false true)), (none, (.bin (some 7) .eql (.t 6) (.k (.int .i64 0)) false false)), (none, (.mv 2 7))]) .ret))))) := by kernel_rfl
def addK (ks : List (List UInt8)) (k : List UInt8) : List (List UInt8) := if k ∈ ks then ks else ks ++ [k]
mutual
def noteT : T → List (List UInt8) → List (List UInt8) | .mk k n v l, acc => noteTs l (if k = 1 then addK acc n else acc)
def noteTs : List T → List (List UInt8) → List (List UInt8) | [], acc => acc | t :: l, acc => noteTs l (noteT t acc)
end
mutual
def nodT : T → Nat | .mk k n v l => nodTs l + 1
def nodTs : List T → Nat | [] => 0 | t :: l => nodT t + nodTs l
end
theorem addK_len (ks : List (List UInt8)) (k : List UInt8) : (addK ks k).length ≤ ks.length + 1 := by unfold addK; split <;> simp
theorem addK_nd {ks : List (List UInt8)} (h : ks.Nodup) (k : List UInt8) : (addK ks k).Nodup := by
  unfold addK; split
  · exact h
  · rename_i hk
    rw [List.nodup_append]
    refine ⟨h, by simp, fun a ha b hb e => ?_⟩
    simp at hb; subst hb; subst e; exact hk ha
theorem addK_all {p : List UInt8 → Prop} {ks : List (List UInt8)} (h : ∀ k ∈ ks, p k) {k : List UInt8} (hk : p k) : ∀ x ∈ addK ks k, p x := by
  unfold addK; split
  · exact h
  · intro x hx
    rcases List.mem_append.1 hx with hx | hx
    · exact h x hx
    · simp at hx; subst hx; exact hk
theorem note_spec : ∀ t : T, t.ok → ∀ acc : List (List UInt8), acc.Nodup → (∀ k ∈ acc, k.length < 1000000000000000) → (noteT t acc).length ≤ acc.length + nodT t ∧ (noteT t acc).Nodup ∧ ∀ k ∈ noteT t acc, k.length < 1000000000000000 := by
  refine T.ind ?_
  intro k n v l ih hok acc h1 h2
  rw [ok_mk] at hok
  rw [noteT, nodT]
  have key : ∀ (m : List T), (∀ x ∈ m, x ∈ l) → ∀ acc : List (List UInt8), acc.Nodup → (∀ k ∈ acc, k.length < 1000000000000000) → (noteTs m acc).length ≤ acc.length + nodTs m ∧ (noteTs m acc).Nodup ∧ ∀ k ∈ noteTs m acc, k.length < 1000000000000000 := by
    intro m
    induction m with
    | nil => intro _ acc h1 h2; rw [noteTs, nodTs]; exact ⟨by omega, h1, h2⟩
    | cons x m ihm =>
      intro hm acc h1 h2
      rw [noteTs, nodTs]
      obtain ⟨q1, q2, q3⟩ := ih x (hm x (by simp)) (hok.2.2 x (hm x (by simp))) acc h1 h2
      obtain ⟨p1, p2, p3⟩ := ihm (fun y hy => hm y (by simp [hy])) _ q2 q3
      exact ⟨by omega, p2, p3⟩
  split
  · obtain ⟨p1, p2, p3⟩ := key l (fun _ h => h) (addK acc n) (addK_nd h1 n) (addK_all h2 hok.2.1)
    have := addK_len acc n
    exact ⟨by omega, p2, p3⟩
  · obtain ⟨p1, p2, p3⟩ := key l (fun _ h => h) acc h1 h2
    exact ⟨by omega, p2, p3⟩
theorem noteTs_spec : ∀ (m : List T), (∀ x ∈ m, x.ok) → ∀ acc : List (List UInt8), acc.Nodup → (∀ k ∈ acc, k.length < 1000000000000000) → (noteTs m acc).length ≤ acc.length + nodTs m ∧ (noteTs m acc).Nodup ∧ ∀ k ∈ noteTs m acc, k.length < 1000000000000000
  | [], _, acc, h1, h2 => by rw [noteTs, nodTs]; exact ⟨by omega, h1, h2⟩
  | x :: m, hm, acc, h1, h2 => by
    rw [noteTs, nodTs]
    obtain ⟨q1, q2, q3⟩ := note_spec x (hm x (by simp)) acc h1 h2
    obtain ⟨p1, p2, p3⟩ := noteTs_spec m (fun y hy => hm y (by simp [hy])) _ q2 q3
    exact ⟨by omega, p2, p3⟩
theorem mfind_no {k : List UInt8} : ∀ {ks : List (List UInt8)} (i : Nat), k ∉ ks → mfind (.str k) (setM ks) i = some none
  | [], i, _ => rfl
  | x :: ks, i, h => by
    simp only [List.mem_cons, not_or] at h
    have : (k == x) = false := by simpa using h.1
    simp only [setM, List.map_cons, mfind, keyEq, this]
    exact mfind_no (i + 1) h.2
theorem mfind_yes {k : List UInt8} : ∀ {ks : List (List UInt8)} (i : Nat), k ∈ ks → ∃ j, mfind (.str k) (setM ks) i = some (some (i + j, .bool true)) ∧ (setM ks).set j (.str k, .bool true) = setM ks
  | [], i, h => by cases h
  | x :: ks, i, h => by
    by_cases e : k = x
    · subst e
      exact ⟨0, by simp [setM, mfind, keyEq], by simp [setM]⟩
    · have hk : k ∈ ks := by simpa [e] using h
      obtain ⟨j, h1, h2⟩ := mfind_yes (i + 1) hk
      have hb : (k == x) = false := by simpa using e
      refine ⟨j + 1, ?_, ?_⟩
      · simp only [setM, List.map_cons, mfind, keyEq, hb]
        rw [show i + (j + 1) = i + 1 + j by omega]; exact h1
      · simp only [setM, List.map_cons, List.set_cons_succ]
        congr 1
theorem evX_add {hp : Hp} {l : Nat} {ks : List (List UInt8)} (k : List UInt8) (hb : hp.bk l = .map (setM ks)) (hl : ks.length < 1000000000) :
    evX (.mup none) hp [.mp l, .str k, .bool true] = some (.junk, ⟨hp.n, updB hp.bk l (.map (setM (addK ks k)))⟩) := by
  have h1 : (setM ks).length < 1000000000 := by simpa [setM] using hl
  simp only [evX, hb, isKeyA, h1, decide_true, Bool.and_self, if_true]
  by_cases hk : k ∈ ks
  · obtain ⟨j, e1, e2⟩ := mfind_yes 0 hk
    rw [Nat.zero_add] at e1
    rw [e1]
    simp only [e2, addK, hk, if_true]
    rfl
  · rw [mfind_no 0 hk]
    simp only [addK, hk, if_false]
    have : setM (ks ++ [k]) = setM ks ++ [(.str k, .bool true)] := by simp [setM]
    rw [this]
    rfl
theorem lab_setM (n : Nat) (ks : List (List UInt8)) : labM n (setM ks) = true := by simp [labM, setM, labOK]
theorem shrink_map {h hp : Hp} {lb : Nat} {ks : List (List UInt8)} (h1 : h.n ≤ hp.n) (h2 : ∀ l, l < h.n → l ≠ lb → hp.bk l = h.bk l) (h3 : hp.bk lb = .map (setM ks)) : Shrink h hp ⟨h.n, updB h.bk lb (.map (setM ks))⟩ := by
  refine ⟨Nat.le_refl _, h1, fun l hl => ?_⟩
  simp only [bk_apply] at hl ⊢
  by_cases e : l = lb
  · subst e; simp [h3, lab_setM]
  · simp [e, h2 l hl e, hl]
theorem noteTs_drop {l : List T} {i : Nat} (hi : i < l.length) (acc : List (List UInt8)) : noteTs (l.drop i) acc = noteTs (l.drop (i + 1)) (noteT l[i] acc) := by
  rw [List.drop_eq_getElem_cons hi, noteTs]
theorem nodTs_drop {l : List T} {i : Nat} (hi : i < l.length) : nodTs (l.drop i) = nodT l[i] + nodTs (l.drop (i + 1)) := by
  rw [List.drop_eq_getElem_cons hi, nodTs]
theorem fn_Note : ∀ t : T, t.ok → ∀ (ks : List (List UInt8)) (lb : Nat) (h : Hp), lb < h.n → h.bk lb = .map (setM ks) → ks.Nodup → (∀ k ∈ ks, k.length < 1000000000000000) → ks.length + nodT t < 1000000000 →
    Fn Try.prog 106 [t.av, .mp lb] h (.tup []) ⟨h.n, updB h.bk lb (.map (setM (noteT t ks)))⟩ := by
  refine T.ind ?_
  intro k n v l ih hok ks lb h hlb hb hnd hsz hsum
  rw [ok_mk] at hok
  rw [av_mk]
  rw [nodT] at hsum
  have n0 : ¬ lb = h.n := by omega
  have n1 : ¬ h.n = lb := by omega
  have hacc : ∃ acc0 : List (List UInt8), acc0 = (if k = 1 then addK ks n else ks) ∧ acc0.Nodup ∧ (∀ k ∈ acc0, k.length < 1000000000000000) ∧ acc0.length + nodTs l < 1000000000 := by
    refine ⟨_, rfl, ?_⟩
    split
    · have := addK_len ks n
      exact ⟨addK_nd hnd n, addK_all hsz hok.2.1, by omega⟩
    · exact ⟨hnd, hsz, by omega⟩
  obtain ⟨acc0, ha, hnd0, hsz0, hsum0⟩ := hacc
  have hnote : noteT (.mk k n v l) ks = noteTs l acc0 := by rw [noteT, ha]
  rw [hnote]
  refine fnC mixed Try.func106 c106 (by simp) ?_
  by_cases hk : k = 1
  · have hd : (k == 1) = true := by simpa using hk
    have hx := evX_add (ks := ks) (hp := ⟨h.n + 1, updB h.bk h.n (.cells [.int .i64 k, .str n, .int .i64 v, .sl .sh 4 (l.map T.av)])⟩) (l := lb) n (by simp [bk_apply, n0, hb]) (by omega)
    rw [if_pos hk] at ha
    simp only at hx
    simp only [go_sem, Nat.reduceEqDiff, Nat.reduceAdd, Nat.reduceLeDiff, Nat.reduceLT, ↓reduceIte, reduceCtorEq, Int.reduceLT, Int.reduceToNat, Int.reduceEq, Int.reduceBEq, Int.reduceBNe, Nat.reduceBEq, hd, hx, n1]
    refine cloop (fun k' t => ∃ (i : Nat) (acc : List (List UInt8)), i + k' = l.length ∧ noteTs (l.drop i) acc = noteTs l acc0 ∧ acc.Nodup ∧ (∀ k ∈ acc, k.length < 1000000000000000) ∧ acc.length + nodTs (l.drop i) < 1000000000 ∧ h.n ≤ t.hp.n ∧ t.hp.bk lb = .map (setM acc) ∧ (∀ l', l' < h.n → l' ≠ lb → t.hp.bk l' = h.bk l') ∧ t.fr 1 = .mp lb ∧ t.fr 13 = .sl .sh 4 (l.map T.av) ∧ t.fr 14 = .int .i64 l.length ∧ t.fr 15 = .int .i64 (i : Nat)) l.length ⟨0, acc0, by simp, by simp, hnd0, hsz0, by simpa using hsum0, Nat.le_succ _, by simp [bk_apply, n0, n1, hb, ha], fun l' hl' hne => by simp [bk_apply, show ¬ l' = h.n by omega, hne], by simp [fr_apply, argsF], by simp [fr_apply, argsF], by simp [fr_apply, argsF], by simp [fr_apply, argsF]⟩ ?_
    rintro k' ⟨f, n', bk⟩ ⟨i, acc, hi0, hno, hnd1, hsz1, hsum1, hn1, hb1, hbo, f1, f13, f14, f15⟩
    simp only at f1 f13 f14 f15 hn1 hb1 hbo
    simp only [go_sem, Nat.reduceEqDiff, Nat.reduceAdd, Nat.reduceLeDiff, Nat.reduceLT, ↓reduceIte, reduceCtorEq, Int.reduceLT, Int.reduceToNat, Int.reduceEq, Int.reduceBEq, Int.reduceBNe, Nat.reduceBEq, f1, f13, f14, f15]
    refine cif (fun hc => ?_) (fun hc => ?_)
    · have hi : i < l.length := by simpa using hc
      rw [noteTs_drop hi] at hno
      rw [nodTs_drop hi] at hsum1
      have m0 : ¬ lb = n' := by omega
      simp only [go_sem, Nat.reduceEqDiff, Nat.reduceAdd, Nat.reduceLeDiff, Nat.reduceLT, ↓reduceIte, reduceCtorEq, Int.reduceLT, Int.reduceToNat, Int.reduceEq, Int.reduceBEq, Int.reduceBNe, Nat.reduceBEq, f1, f13, f14, f15, getAv hi]
      have hx := hok.2.2 _ (List.getElem_mem hi)
      refine ccall (ih _ (List.getElem_mem hi) hx acc lb ⟨n' + 1, updB bk n' (.cells l[i].av.cells)⟩ (by simp only; omega) (by simp [bk_apply, m0, hb1]) hnd1 hsz1 (by omega)) (by simp only [go_sem, Nat.reduceEqDiff, Nat.reduceAdd, Nat.reduceLeDiff, Nat.reduceLT, ↓reduceIte, reduceCtorEq, Int.reduceLT, Int.reduceToNat, Int.reduceEq, Int.reduceBEq, Int.reduceBNe, Nat.reduceBEq, f1]) ?_
      have hw : IntKind.i64.wrap ((i : Int) + 1) = ((i + 1 : Nat) : Int) := by rw [wrap64] <;> omega
      obtain ⟨q1, q2, q3⟩ := note_spec l[i] hx acc hnd1 hsz1
      simp only [go_sem, Nat.reduceEqDiff, Nat.reduceAdd, Nat.reduceLeDiff, Nat.reduceLT, ↓reduceIte, reduceCtorEq, Int.reduceLT, Int.reduceToNat, Int.reduceEq, Int.reduceBEq, Int.reduceBNe, Nat.reduceBEq, f1, f13, f14, f15, hw]
      refine ⟨k' - 1, by omega, i + 1, noteT l[i] acc, by omega, hno, q2, q3, by omega, by omega, rfl, fun l' hl' hne => ?_, rfl⟩
      have : ¬ l' = n' := by omega
      simp [hne, this, hbo l' hl' hne]
    · have hi : l.length ≤ i := by simpa using hc
      rw [List.drop_eq_nil_of_le hi, noteTs] at hno
      subst hno
      have hsh := shrink_map (h := h) (hp := ⟨n', bk⟩) hn1 (fun l' h1 h2 => hbo l' h1 h2) hb1
      simp only [go_sem, Nat.reduceEqDiff, Nat.reduceAdd, Nat.reduceLeDiff, Nat.reduceLT, ↓reduceIte, reduceCtorEq, Int.reduceLT, Int.reduceToNat, Int.reduceEq, Int.reduceBEq, Int.reduceBNe, Nat.reduceBEq, f1, f13, f14, f15, hsh]
  · have hd : (k == 1) = false := by simpa using hk
    rw [if_neg hk] at ha
    simp only [go_sem, Nat.reduceEqDiff, Nat.reduceAdd, Nat.reduceLeDiff, Nat.reduceLT, ↓reduceIte, reduceCtorEq, Int.reduceLT, Int.reduceToNat, Int.reduceEq, Int.reduceBEq, Int.reduceBNe, Nat.reduceBEq, hd, n1]
    refine cloop (fun k' t => ∃ (i : Nat) (acc : List (List UInt8)), i + k' = l.length ∧ noteTs (l.drop i) acc = noteTs l acc0 ∧ acc.Nodup ∧ (∀ k ∈ acc, k.length < 1000000000000000) ∧ acc.length + nodTs (l.drop i) < 1000000000 ∧ h.n ≤ t.hp.n ∧ t.hp.bk lb = .map (setM acc) ∧ (∀ l', l' < h.n → l' ≠ lb → t.hp.bk l' = h.bk l') ∧ t.fr 1 = .mp lb ∧ t.fr 13 = .sl .sh 4 (l.map T.av) ∧ t.fr 14 = .int .i64 l.length ∧ t.fr 15 = .int .i64 (i : Nat)) l.length ⟨0, acc0, by simp, by simp, hnd0, hsz0, by simpa using hsum0, Nat.le_succ _, by simp [bk_apply, n0, n1, hb, ha], fun l' hl' hne => by simp [bk_apply, show ¬ l' = h.n by omega, hne], by simp [fr_apply, argsF], by simp [fr_apply, argsF], by simp [fr_apply, argsF], by simp [fr_apply, argsF]⟩ ?_
    rintro k' ⟨f, n', bk⟩ ⟨i, acc, hi0, hno, hnd1, hsz1, hsum1, hn1, hb1, hbo, f1, f13, f14, f15⟩
    simp only at f1 f13 f14 f15 hn1 hb1 hbo
    simp only [go_sem, Nat.reduceEqDiff, Nat.reduceAdd, Nat.reduceLeDiff, Nat.reduceLT, ↓reduceIte, reduceCtorEq, Int.reduceLT, Int.reduceToNat, Int.reduceEq, Int.reduceBEq, Int.reduceBNe, Nat.reduceBEq, f1, f13, f14, f15]
    refine cif (fun hc => ?_) (fun hc => ?_)
    · have hi : i < l.length := by simpa using hc
      rw [noteTs_drop hi] at hno
      rw [nodTs_drop hi] at hsum1
      have m0 : ¬ lb = n' := by omega
      simp only [go_sem, Nat.reduceEqDiff, Nat.reduceAdd, Nat.reduceLeDiff, Nat.reduceLT, ↓reduceIte, reduceCtorEq, Int.reduceLT, Int.reduceToNat, Int.reduceEq, Int.reduceBEq, Int.reduceBNe, Nat.reduceBEq, f1, f13, f14, f15, getAv hi]
      have hx := hok.2.2 _ (List.getElem_mem hi)
      refine ccall (ih _ (List.getElem_mem hi) hx acc lb ⟨n' + 1, updB bk n' (.cells l[i].av.cells)⟩ (by simp only; omega) (by simp [bk_apply, m0, hb1]) hnd1 hsz1 (by omega)) (by simp only [go_sem, Nat.reduceEqDiff, Nat.reduceAdd, Nat.reduceLeDiff, Nat.reduceLT, ↓reduceIte, reduceCtorEq, Int.reduceLT, Int.reduceToNat, Int.reduceEq, Int.reduceBEq, Int.reduceBNe, Nat.reduceBEq, f1]) ?_
      have hw : IntKind.i64.wrap ((i : Int) + 1) = ((i + 1 : Nat) : Int) := by rw [wrap64] <;> omega
      obtain ⟨q1, q2, q3⟩ := note_spec l[i] hx acc hnd1 hsz1
      simp only [go_sem, Nat.reduceEqDiff, Nat.reduceAdd, Nat.reduceLeDiff, Nat.reduceLT, ↓reduceIte, reduceCtorEq, Int.reduceLT, Int.reduceToNat, Int.reduceEq, Int.reduceBEq, Int.reduceBNe, Nat.reduceBEq, f1, f13, f14, f15, hw]
      refine ⟨k' - 1, by omega, i + 1, noteT l[i] acc, by omega, hno, q2, q3, by omega, by omega, rfl, fun l' hl' hne => ?_, rfl⟩
      have : ¬ l' = n' := by omega
      simp [hne, this, hbo l' hl' hne]
    · have hi : l.length ≤ i := by simpa using hc
      rw [List.drop_eq_nil_of_le hi, noteTs] at hno
      subst hno
      have hsh := shrink_map (h := h) (hp := ⟨n', bk⟩) hn1 (fun l' h1 h2 => hbo l' h1 h2) hb1
      simp only [go_sem, Nat.reduceEqDiff, Nat.reduceAdd, Nat.reduceLeDiff, Nat.reduceLT, ↓reduceIte, reduceCtorEq, Int.reduceLT, Int.reduceToNat, Int.reduceEq, Int.reduceBEq, Int.reduceBNe, Nat.reduceBEq, f1, f13, f14, f15, hsh]
def namesL (l : List T) : List (List UInt8) := (noteTs l []).mergeSort leQ
theorem fn_Names (l : List T) (hl : l.length < 1000000000000000) (hok : ∀ t ∈ l, t.ok) (hn : nodTs l ≤ 1000000) : PFn Try.prog 70 [.sl .sh 4 (l.map T.av)] (.sl .sh 1 ((namesL l).map AV.str)) := by
  intro h
  refine fnC mixed Try.func70 c70 (by simp) ?_
  have hx : evX .mkm h [] = some (.mp h.n, ⟨h.n + 1, updB h.bk h.n (.map (setM []))⟩) := rfl
  simp only [go_sem, Nat.reduceEqDiff, Nat.reduceAdd, Nat.reduceLeDiff, Nat.reduceLT, ↓reduceIte, reduceCtorEq, Int.reduceLT, Int.reduceToNat, Int.reduceEq, Int.reduceBEq, Int.reduceBNe, Nat.reduceBEq, hx]
  refine cloop (fun k' t => ∃ (i : Nat) (acc : List (List UInt8)), i + k' = l.length ∧ noteTs (l.drop i) acc = noteTs l [] ∧ acc.Nodup ∧ (∀ k ∈ acc, k.length < 1000000000000000) ∧ acc.length + nodTs (l.drop i) ≤ 1000000 ∧ h.n < t.hp.n ∧ t.hp.bk h.n = .map (setM acc) ∧ (∀ l', l' < h.n → t.hp.bk l' = h.bk l') ∧ t.fr 3 = .mp h.n ∧ t.fr 7 = .sl .sh 4 (l.map T.av) ∧ t.fr 8 = .int .i64 l.length ∧ t.fr 9 = .int .i64 (i : Nat)) l.length ⟨0, [], by simp, by simp, by simp, by simp, by simpa using hn, by simp, by simp [bk_apply], fun l' hl' => by simp [bk_apply, show ¬ l' = h.n by omega], by simp [fr_apply, argsF], by simp [fr_apply, argsF], by simp [fr_apply, argsF], by simp [fr_apply, argsF]⟩ ?_
  rintro k' ⟨f, n', bk⟩ ⟨i, acc, hi0, hno, hnd1, hsz1, hsum1, hn1, hb1, hbo, f3, f7, f8, f9⟩
  simp only at f3 f7 f8 f9 hn1 hb1 hbo
  simp only [go_sem, Nat.reduceEqDiff, Nat.reduceAdd, Nat.reduceLeDiff, Nat.reduceLT, ↓reduceIte, reduceCtorEq, Int.reduceLT, Int.reduceToNat, Int.reduceEq, Int.reduceBEq, Int.reduceBNe, Nat.reduceBEq, f3, f7, f8, f9]
  refine cif (fun hc => ?_) (fun hc => ?_)
  · have hi : i < l.length := by simpa using hc
    rw [noteTs_drop hi] at hno
    rw [nodTs_drop hi] at hsum1
    have m0 : ¬ h.n = n' := by omega
    simp only [go_sem, Nat.reduceEqDiff, Nat.reduceAdd, Nat.reduceLeDiff, Nat.reduceLT, ↓reduceIte, reduceCtorEq, Int.reduceLT, Int.reduceToNat, Int.reduceEq, Int.reduceBEq, Int.reduceBNe, Nat.reduceBEq, f3, f7, f8, f9, getAv hi]
    have hx := hok _ (List.getElem_mem hi)
    refine ccall (fn_Note l[i] hx acc h.n ⟨n' + 1, updB bk n' (.cells l[i].av.cells)⟩ (by simp only; omega) (by simp [bk_apply, m0, hb1]) hnd1 hsz1 (by omega)) (by simp only [go_sem, Nat.reduceEqDiff, Nat.reduceAdd, Nat.reduceLeDiff, Nat.reduceLT, ↓reduceIte, reduceCtorEq, Int.reduceLT, Int.reduceToNat, Int.reduceEq, Int.reduceBEq, Int.reduceBNe, Nat.reduceBEq, f3]) ?_
    have hw : IntKind.i64.wrap ((i : Int) + 1) = ((i + 1 : Nat) : Int) := by rw [wrap64] <;> omega
    obtain ⟨q1, q2, q3⟩ := note_spec l[i] hx acc hnd1 hsz1
    simp only [go_sem, Nat.reduceEqDiff, Nat.reduceAdd, Nat.reduceLeDiff, Nat.reduceLT, ↓reduceIte, reduceCtorEq, Int.reduceLT, Int.reduceToNat, Int.reduceEq, Int.reduceBEq, Int.reduceBNe, Nat.reduceBEq, f3, f7, f8, f9, hw]
    refine ⟨k' - 1, by omega, i + 1, noteT l[i] acc, by omega, hno, q2, q3, by omega, by omega, rfl, fun l' hl' => ?_, rfl⟩
    simp [show ¬ l' = n' by omega, show ¬ l' = h.n by omega, hbo l' hl']
  · have hi : l.length ≤ i := by simpa using hc
    rw [List.drop_eq_nil_of_le hi, noteTs] at hno
    rw [List.drop_eq_nil_of_le hi, nodTs] at hsum1
    have f108 : Fn Try.prog 108 [.mp h.n] ⟨n', bk⟩ (.func 123 [] [.ptr n' 0]) ⟨n' + 1, updB bk n' (.cells [.mp h.n])⟩ := by
      refine fnC mixed Try.func108 c108 (by simp) ?_
      simp only [go_sem, Nat.reduceEqDiff, Nat.reduceAdd, Nat.reduceLeDiff, Nat.reduceLT, ↓reduceIte, reduceCtorEq, Int.reduceLT, Int.reduceToNat, Int.reduceEq, Int.reduceBEq, Int.reduceBNe, Nat.reduceBEq]
      refine ⟨.inl rfl, by simp, ⟨Nat.le_succ _, Nat.le_refl _, fun l' hl' => ⟨rfl, ?_⟩⟩⟩
      by_cases e : l' = n'
      · right; subst e; simp [labL, labOK]; exact Nat.lt_succ_of_lt hn1
      · left; simp only at hl'; exact ⟨by simp only; omega, by simp [bk_apply, e]⟩
    simp only [go_sem, Nat.reduceEqDiff, Nat.reduceAdd, Nat.reduceLeDiff, Nat.reduceLT, ↓reduceIte, reduceCtorEq, Int.reduceLT, Int.reduceToNat, Int.reduceEq, Int.reduceBEq, Int.reduceBNe, Nat.reduceBEq, f3]
    refine ccall f108 (by simp only [go_sem, Nat.reduceEqDiff, Nat.reduceAdd, Nat.reduceLeDiff, Nat.reduceLT, ↓reduceIte, reduceCtorEq, Int.reduceLT, Int.reduceToNat, Int.reduceEq, Int.reduceBEq, Int.reduceBNe, Nat.reduceBEq, f3]) ?_
    simp only [go_sem, Nat.reduceEqDiff, Nat.reduceAdd, Nat.reduceLeDiff, Nat.reduceLT, ↓reduceIte, reduceCtorEq, Int.reduceLT, Int.reduceToNat, Int.reduceEq, Int.reduceBEq, Int.reduceBNe, Nat.reduceBEq, f3]
    have fk := fn_keys acc n' h.n ⟨n' + 1, updB bk n' (.cells [.mp h.n])⟩ (by simp) (by simp [bk_apply]) (by simp only; omega) (by simp [bk_apply, show ¬ h.n = n' by omega, hb1]) hnd1 (by omega) (fun k hk => by have := hsz1 k hk; omega)
    refine ccall fk (by simp only [go_sem, Nat.reduceEqDiff, Nat.reduceAdd, Nat.reduceLeDiff, Nat.reduceLT, ↓reduceIte, reduceCtorEq, Int.reduceLT, Int.reduceToNat, Int.reduceEq, Int.reduceBEq, Int.reduceBNe, Nat.reduceBEq, f3]) ?_
    have hsh : Shrink h ⟨n' + 1, updB bk n' (.cells [.mp h.n])⟩ h := ⟨Nat.le_refl _, by simp only; omega, fun l' hl' => ⟨by simp [bk_apply, show ¬ l' = n' by omega, hbo l' hl'], .inl ⟨hl', by simp [bk_apply, show ¬ l' = n' by omega, hbo l' hl']⟩⟩⟩
    simp only [go_sem, Nat.reduceEqDiff, Nat.reduceAdd, Nat.reduceLeDiff, Nat.reduceLT, ↓reduceIte, reduceCtorEq, Int.reduceLT, Int.reduceToNat, Int.reduceEq, Int.reduceBEq, Int.reduceBNe, Nat.reduceBEq, f3, hsh]
    refine ⟨by rw [namesL, hno], ?_⟩
    rw [labL_all]; intro a ha; obtain ⟨k, _, rfl⟩ := List.mem_map.1 ha; rfl
theorem fn_Is (t : T) (ht : t.ok) (hn : nodT t ≤ 1000000) : PFn Try.prog 68 [t.av] (.bool (decide ((namesL [t]).length = 0))) := by
  intro h
  refine fnC mixed Try.func68 c68 (by simp) ?_
  simp only [go_sem, Nat.reduceEqDiff, Nat.reduceAdd, Nat.reduceLeDiff, Nat.reduceLT, ↓reduceIte, reduceCtorEq, Int.reduceLT, Int.reduceToNat, Int.reduceEq, Int.reduceBEq, Int.reduceBNe, Nat.reduceBEq]
  have := fn_Names [t] (by simp) (by simpa using ht) (by simpa [nodTs] using hn)
  simp only [List.map] at this
  refine pcall this (by simp only [go_sem, Nat.reduceEqDiff, Nat.reduceAdd, Nat.reduceLeDiff, Nat.reduceLT, ↓reduceIte, reduceCtorEq, Int.reduceLT, Int.reduceToNat, Int.reduceEq, Int.reduceBEq, Int.reduceBNe, Nat.reduceBEq]) ?_
  simp only [go_sem, Nat.reduceEqDiff, Nat.reduceAdd, Nat.reduceLeDiff, Nat.reduceLT, ↓reduceIte, reduceCtorEq, Int.reduceLT, Int.reduceToNat, Int.reduceEq, Int.reduceBEq, Int.reduceBNe, Nat.reduceBEq]
  cases namesL [t] with
  | nil => rfl
  | cons a l => simp; omega
end Go.Proofs.Ythaoooohomfkcaa.Ab
