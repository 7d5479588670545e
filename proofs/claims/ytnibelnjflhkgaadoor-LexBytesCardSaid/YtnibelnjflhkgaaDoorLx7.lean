/- Words of a text: the document's digits and marks. No condition. -/
import Derived.Test.YtnibelnjflhkgaaDoorLx6
namespace Go.Proofs.YtnibelnjflhkgaaDoor.Ab
set_option linter.unusedVariables false
set_option linter.unusedSimpArgs false
set_option maxRecDepth 10000
attribute [local go_sem] decide_true decide_false Nat.zero_le Bool.not_true Bool.not_false Bool.false_eq_true if_false if_true forall_const true_and and_true List.map Option.map Bool.and_self Bool.and_true Bool.true_and Bool.false_and Bool.and_false List.getElem?_cons_zero List.getElem?_nil List.getElem?_cons_succ Int.natCast_nonneg Int.toNat_natCast List.length_map List.length_cons List.length_nil Nat.zero_add Nat.le_refl List.drop_zero List.drop_succ_cons List.take_succ_cons List.take_zero List.take_nil ne_eq not_true_eq_false not_false_eq_true upd_same Nat.add_assoc Nat.left_eq_add Nat.add_eq_left Nat.add_left_cancel_iff Nat.succ_ne_self Nat.one_ne_zero Nat.add_zero Nat.le_add_right ite_self List.set_cons_zero List.set_cons_succ List.all_cons List.all_nil bne_self_eq_false List.isEmpty_cons Int.cast_ofNat_Int Nat.mul_one List.nil_append or_self or_true true_or List.cons_append List.append_nil Option.none_beq_some Option.some_beq_some beq_self_eq_true
theorem spanN_stop (f : UInt8 → Bool) : ∀ (s : List UInt8) (c : UInt8), s[spanN f s]? = some c → f c = false
  | [], c, h => by simp at h
  | d :: s, c, h => by
    rw [spanN] at h
    split at h
    · exact spanN_stop f s c (by simpa using h)
    · rename_i hd
      simp at h; subst h; simpa using hd
def digW (v : Nat) (l : List UInt8) : Nat := l.foldl (fun n c => 10 * n + (c.toNat - 48)) v
theorem digW_snoc (v : Nat) (l : List UInt8) (c : UInt8) : digW v (l ++ [c]) = 10 * digW v l + (c.toNat - 48) := by simp [digW]
theorem digW_0 (l : List UInt8) : digW 0 l = digV l := rfl
theorem digW_cons (c : UInt8) (l : List UInt8) : digW (c.toNat - 48) l = digV (c :: l) := by simp [digW, digV]
set_option maxHeartbeats 1000000 in
theorem fnr_l9 {Q : AX → ASt → Prop} {s0 : ASt} (s : List UInt8) (hs : s.length < 1000000000) (p v : Nat) (hp : p ≤ s.length) (hv : v ≤ 9) (v5 v6 v7 v8 v10 : AV) (h0 : s0.fr 0 = .str s) (h5 : s0.fr 5 = v5) (h6 : s0.fr 6 = v6) (h7 : s0.fr 7 = v7) (h8 : s0.fr 8 = v8) (h10 : s0.fr 10 = v10) (h9 : s0.fr 9 = .int .i64 (p : Nat)) (h11 : s0.fr 11 = .int .i64 (v : Nat))
    (hQ : ∀ t : ASt, t.hp = s0.hp → t.fr 0 = .str s → t.fr 5 = v5 → t.fr 6 = v6 → t.fr 7 = v7 → t.fr 8 = v8 → t.fr 10 = v10 → t.fr 9 = .int .i64 ((p + spanN digB (s.drop p) : Nat) : Int) → t.fr 11 = .int .i64 ((min (digW v ((s.drop p).take (spanN digB (s.drop p)))) 1073741825 : Nat) : Int) → Q (.exit 9) t) : CLoop Tryd.prog ((.seq (.seq (.ops [(none, (.cp 172 9)), (none, (.cp 173 0)), (none, (.len (some 174) (.t 173) true false)), (none, (.bin (some 175) .lss (.t 172) (.t 174) false false)), (none, (.cp 176 175)), ((some (176, true)), (.cp 177 0)), ((some (176, true)), (.cp 178 9)), ((some (176, true)), (.idx (some 179) (.t 177) (.t 178) true none)), ((some (176, true)), (.call (some 180) (.k (.func 27 [] [])) [(.t 179)] none)), (none, (.pick (some 181) (.t 176) (.t 180) (.k (.bool false))))]) (.cond (.t 181) .skip (.exit 9))) (.block 10 (.seq (.ops [(none, (.cp 182 11)), (none, (.bin (some 183) .mul (.k (.int .i64 10)) (.t 182) false false)), (none, (.cp 184 0)), (none, (.cp 185 9)), (none, (.idx (some 186) (.t 184) (.t 185) true none)), (none, (.bin (some 187) .sub (.t 186) (.k (.int .u8 48)) false false)), (none, (.cvt (some 188) (.t 187) (some .i64) false false)), (none, (.bin (some 189) .add (.t 183) (.t 188) false false)), (none, (.mn (some 190) (.t 189) (.k (.int .i64 1073741825)))), (none, (.mv 11 190))]) (.ops [(none, (.cp 191 9)), (none, (.bin (some 192) .add (.t 191) (.k (.int .i64 1)) false false)), (none, (.mv 9 192))]))))) Q s0 := by
  have hsp := spanN_le digB (s.drop p)
  rw [List.length_drop] at hsp
  have hall := spanN_all digB (s.drop p)
  have hstop : ∀ c, s[p + spanN digB (s.drop p)]? = some c → digB c = false := fun c hc => spanN_stop digB (s.drop p) c (by rw [List.getElem?_drop]; exact hc)
  generalize spanN digB (s.drop p) = m at *
  refine cloop (fun k t => ∃ (j n : Nat), j + k = m ∧ n = min (digW v ((s.drop p).take j)) 1073741825 ∧ t.fr 0 = .str s ∧ t.fr 5 = v5 ∧ t.fr 6 = v6 ∧ t.fr 7 = v7 ∧ t.fr 8 = v8 ∧ t.fr 10 = v10 ∧ t.fr 9 = .int .i64 ((p + j : Nat) : Int) ∧ t.fr 11 = .int .i64 (n : Nat) ∧ t.hp = s0.hp) m ⟨0, v, by omega, by simp [digW]; omega, h0, h5, h6, h7, h8, h10, h9, h11, rfl⟩ ?_
  clear h0 h5 h6 h7 h8 h9 h10 h11
  rintro k ⟨F, hp'⟩ ⟨j, n, hk, hn, f0, f5, f6, f7, f8, f10, f9, f11, rfl⟩
  simp only at f0 f5 f6 f7 f8 f9 f10 f11
  by_cases hi : p + j < s.length
  · have hi' : decide (((p + j : Nat) : Int) < (s.length : Int)) = true := decide_eq_true (by omega)
    have hw : IntKind.i64.wrap (((p + j : Nat) : Int) + 1) = ((p + (j + 1) : Nat) : Int) := by rw [wrap64] <;> omega
    have hx : s[p + j]? = some s[p + j] := List.getElem?_eq_getElem hi
    by_cases hj : j < m
    · have hdg := hall j hj s[p + j] (by rw [List.getElem?_drop]; exact hx)
      have hd := digB_iff.1 hdg
      have htk1 : (s.drop p).take (j + 1) = (s.drop p).take j ++ [s[p + j]] := by
        rw [List.take_add_one, List.getElem?_drop, hx]; rfl
      have hvv := digW_snoc v ((s.drop p).take j) s[p + j]
      rw [← htk1] at hvv
      generalize s[p + j] = d at hx hd hvv hdg
      have hD : PFn Tryd.prog 27 [.int .u8 (d.toNat : Nat)] (.bool (digB d)) := fnr_digit _
      rw [hdg] at hD
      have w1 : IntKind.i64.wrap (10 * (n : Int)) = ((10 * n : Nat) : Int) := by rw [wrap64] <;> omega
      have w2 : IntKind.u8.wrap ((d.toNat : Int) - 48) = ((d.toNat - 48 : Nat) : Int) := by rw [IntKind.wrap_u8]; omega
      have w3 : IntKind.i64.wrap ((d.toNat - 48 : Nat) : Int) = ((d.toNat - 48 : Nat) : Int) := by rw [wrap64] <;> omega
      have w4 : IntKind.i64.wrap (((10 * n : Nat) : Int) + ((d.toNat - 48 : Nat) : Int)) = ((10 * n + (d.toNat - 48) : Nat) : Int) := by rw [wrap64] <;> omega
      have w5 : (if (1073741825 : Int) < ((10 * n + (d.toNat - 48) : Nat) : Int) then (1073741825 : Int) else ((10 * n + (d.toNat - 48) : Nat) : Int)) = ((min (digW v ((s.drop p).take (j + 1))) 1073741825 : Nat) : Int) := by
        rw [hvv]
        split <;> omega
      simp only [go_sem, Nat.reduceEqDiff, Nat.reduceAdd, Nat.reduceLeDiff, Nat.reduceLT, ↓reduceIte, reduceCtorEq, Int.reduceLT, Int.reduceToNat, Int.reduceEq, Int.reduceBEq, Int.reduceBNe, Nat.reduceBEq, f0, f5, f6, f7, f8, f9, f10, f11, hi', hx]
      refine pcall hD (by simp only [go_sem, Nat.reduceEqDiff, Nat.reduceAdd, Nat.reduceLeDiff, Nat.reduceLT, ↓reduceIte, reduceCtorEq, Int.reduceLT, Int.reduceToNat, Int.reduceEq, Int.reduceBEq, Int.reduceBNe, Nat.reduceBEq]) ?_
      simp only [go_sem, Nat.reduceEqDiff, Nat.reduceAdd, Nat.reduceLeDiff, Nat.reduceLT, ↓reduceIte, reduceCtorEq, Int.reduceLT, Int.reduceToNat, Int.reduceEq, Int.reduceBEq, Int.reduceBNe, Nat.reduceBEq, f0, f5, f6, f7, f8, f9, f10, f11, hx, w1, w2, w3, w4, w5, hw]
      exact ⟨k - 1, by omega, j + 1, _, by omega, rfl, rfl, rfl⟩
    · have hjm : j = m := by omega
      subst hjm
      have hdg := hstop _ hx
      generalize s[p + j] = d at hx hdg
      have hD : PFn Tryd.prog 27 [.int .u8 (d.toNat : Nat)] (.bool (digB d)) := fnr_digit _
      rw [hdg] at hD
      simp only [go_sem, Nat.reduceEqDiff, Nat.reduceAdd, Nat.reduceLeDiff, Nat.reduceLT, ↓reduceIte, reduceCtorEq, Int.reduceLT, Int.reduceToNat, Int.reduceEq, Int.reduceBEq, Int.reduceBNe, Nat.reduceBEq, f0, f5, f6, f7, f8, f9, f10, f11, hi', hx]
      refine pcall hD (by simp only [go_sem, Nat.reduceEqDiff, Nat.reduceAdd, Nat.reduceLeDiff, Nat.reduceLT, ↓reduceIte, reduceCtorEq, Int.reduceLT, Int.reduceToNat, Int.reduceEq, Int.reduceBEq, Int.reduceBNe, Nat.reduceBEq]) ?_
      simp only [go_sem, Nat.reduceEqDiff, Nat.reduceAdd, Nat.reduceLeDiff, Nat.reduceLT, ↓reduceIte, reduceCtorEq, Int.reduceLT, Int.reduceToNat, Int.reduceEq, Int.reduceBEq, Int.reduceBNe, Nat.reduceBEq, f0, f5, f6, f7, f8, f9, f10, f11]
      exact hQ ⟨_, _⟩ rfl (by simp [fr_apply, f0]) (by simp [fr_apply, f5]) (by simp [fr_apply, f6]) (by simp [fr_apply, f7]) (by simp [fr_apply, f8]) (by simp [fr_apply, f10]) (by simp [fr_apply, f9]) (by simp only [fr_apply, Nat.reduceEqDiff, if_false, f11, hn])
  · have hi' : decide (((p + j : Nat) : Int) < (s.length : Int)) = false := decide_eq_false (by omega)
    have hjm : j = m := by omega
    subst hjm
    simp only [go_sem, Nat.reduceEqDiff, Nat.reduceAdd, Nat.reduceLeDiff, Nat.reduceLT, ↓reduceIte, reduceCtorEq, Int.reduceLT, Int.reduceToNat, Int.reduceEq, Int.reduceBEq, Int.reduceBNe, Nat.reduceBEq, f0, f5, f6, f7, f8, f9, f10, f11, hi']
    exact hQ ⟨_, _⟩ rfl (by simp [fr_apply, f0]) (by simp [fr_apply, f5]) (by simp [fr_apply, f6]) (by simp [fr_apply, f7]) (by simp [fr_apply, f8]) (by simp [fr_apply, f10]) (by simp [fr_apply, f9]) (by simp only [fr_apply, Nat.reduceEqDiff, if_false, f11, hn])
end Go.Proofs.YtnibelnjflhkgaaDoor.Ab
