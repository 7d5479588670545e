/- Words of a text: the document's marks. No condition. -/
import Derived.Test.YtnibelnjflhkgaaDoorLx7
namespace Go.Proofs.YtnibelnjflhkgaaDoor.Ab
set_option linter.unusedVariables false
set_option linter.unusedSimpArgs false
set_option maxRecDepth 10000
attribute [local go_sem] decide_true decide_false Nat.zero_le Bool.not_true Bool.not_false Bool.false_eq_true if_false if_true forall_const true_and and_true List.map Option.map Bool.and_self Bool.and_true Bool.true_and Bool.false_and Bool.and_false List.getElem?_cons_zero List.getElem?_nil List.getElem?_cons_succ Int.natCast_nonneg Int.toNat_natCast List.length_map List.length_cons List.length_nil Nat.zero_add Nat.le_refl List.drop_zero List.drop_succ_cons List.take_succ_cons List.take_zero List.take_nil ne_eq not_true_eq_false not_false_eq_true upd_same Nat.add_assoc Nat.left_eq_add Nat.add_eq_left Nat.add_left_cancel_iff Nat.succ_ne_self Nat.one_ne_zero Nat.add_zero Nat.le_add_right ite_self List.set_cons_zero List.set_cons_succ List.all_cons List.all_nil bne_self_eq_false List.isEmpty_cons Int.cast_ofNat_Int Nat.mul_one List.nil_append or_self or_true true_or List.cons_append List.append_nil Option.none_beq_some Option.some_beq_some beq_self_eq_true
theorem pre_eq (s m : List UInt8) (p : Nat) (h : p + m.length ≤ s.length) : ((s.drop p).take m.length == m) = m.isPrefixOf (s.drop p) := by
  rw [Bool.eq_iff_iff, beq_iff_eq, List.isPrefixOf_iff_prefix, List.prefix_iff_eq_take]
  exact ⟨fun h => h.symm, fun h => h.symm⟩
theorem pre_no (s m : List UInt8) (p : Nat) (hp : p ≤ s.length) (h : ¬ p + m.length ≤ s.length) : m.isPrefixOf (s.drop p) = false := by
  rw [Bool.eq_false_iff, ne_eq, List.isPrefixOf_iff_prefix]
  intro g
  have := g.length_le
  rw [List.length_drop] at this
  omega
set_option maxHeartbeats 1000000 in
theorem fnr_l5 {Q : AX → ASt → Prop} {s0 : ASt} (s : List UInt8) (hs : s.length < 1000000000) (p : Nat) (hp : p ≤ s.length) (v5 v8 : AV) (b : Nat) (h0 : s0.fr 0 = .str s) (h5 : s0.fr 5 = v5) (h6 : s0.fr 6 = .sl .own 1 (marksR.map AV.str)) (h7 : s0.fr 7 = .int .i64 (p : Nat)) (h8 : s0.fr 8 = v8) (h9 : s0.fr 9 = .int .i64 (p : Nat)) (h10 : s0.fr 10 = .ptr b 0) (h12 : s0.fr 12 = .int .i64 0) (hb : s0.hp.bk b = .cells [.int .i64 0, .str [], .int .i64 0, .int .i64 (p : Nat)])
    (hQ0 : marksR.find? (·.isPrefixOf (s.drop p)) = none → ∀ t : ASt, t.hp = s0.hp → t.fr 0 = .str s → t.fr 5 = v5 → t.fr 6 = .sl .own 1 (marksR.map AV.str) → t.fr 7 = .int .i64 (p : Nat) → t.fr 8 = v8 → t.fr 9 = .int .i64 (p : Nat) → t.fr 10 = .ptr b 0 → Q (.exit 5) t)
    (hQ1 : ∀ m, marksR.find? (·.isPrefixOf (s.drop p)) = some m → ∀ t : ASt, t.hp = ⟨s0.hp.n, updB s0.hp.bk b (.cells [.int .i64 4, .str m, .int .i64 0, .int .i64 (p : Nat)])⟩ → t.fr 0 = .str s → t.fr 5 = v5 → t.fr 6 = .sl .own 1 (marksR.map AV.str) → t.fr 7 = .int .i64 (p : Nat) → t.fr 8 = v8 → t.fr 9 = .int .i64 ((p + m.length : Nat) : Int) → t.fr 10 = .ptr b 0 → Q (.exit 5) t) : CLoop Tryd.prog ((.seq (.seq (.ops [(none, (.cp 58 12)), (none, (.cp 59 6)), (none, (.len (some 60) (.t 59) false true)), (none, (.bin (some 61) .lss (.t 58) (.t 60) false false)), (none, (.cp 62 61)), ((some (62, true)), (.fa (some 63) (.t 10) 0)), ((some (62, true)), (.ld (some 64) (.t 63) (.one none))), ((some (62, true)), (.bin (some 65) .eql (.t 64) (.k (.int .i64 0)) false false)), (none, (.pick (some 66) (.t 62) (.t 65) (.k (.bool false))))]) (.cond (.t 66) .skip (.exit 5))) (.seq (.block 6 (.seq (.ops [(none, (.cp 69 6)), (none, (.cp 70 12)), (none, (.ia (some 71) (.t 69) (.t 70) (some 1) none)), (none, (.ld (some 72) (.t 71) (.one none))), (none, (.len (some 73) (.t 72) true false)), (none, (.mv 13 73))]) (.seq (.opsD [(none, (.cp 74 7)), (none, (.cp 75 13)), (none, (.bin (some 76) .add (.t 74) (.t 75) false false)), (none, (.cp 77 0)), (none, (.len (some 78) (.t 77) true false)), (none, (.bin (some 79) .leq (.t 76) (.t 78) false false)), (none, (.cp 80 79)), ((some (80, true)), (.cp 81 0)), ((some (80, true)), (.cp 82 7)), ((some (80, true)), (.cp 83 7)), ((some (80, true)), (.cp 84 13)), ((some (80, true)), (.bin (some 85) .add (.t 83) (.t 84) false false)), ((some (80, true)), (.sl (some 86) (.t 81) (some (.t 82)) (some (.t 85)) none true none)), ((some (80, true)), (.cp 87 6)), ((some (80, true)), (.cp 88 12)), ((some (80, true)), (.ia (some 89) (.t 87) (.t 88) (some 1) none)), ((some (80, true)), (.ld (some 90) (.t 89) (.one none))), ((some (80, true)), (.bin (some 91) .eql (.t 86) (.t 90) false false)), (none, (.pick (some 92) (.t 80) (.t 91) (.k (.bool false))))]) (.cond (.t 92) (.opsT (.one none (.cp 93 6) (.one none (.cp 94 12) (.one none (.ia (some 95) (.t 93) (.t 94) (some 1) none) (.one none (.cp 97 7) (.one none (.cp 98 13) (.one none (.bin (some 99) .add (.t 97) (.t 98) false false) (.one none (.fa (some 100) (.t 10) 0) (.alt none (.ld (some 96) (.t 95) (.one none)) (.one none (.st (.t 100) (.k (.int .i64 4)) 1) (.one none (.fa (some 101) (.t 10) 1) (.one none (.st (.t 101) (.t 96) 1) (.one none (.mv 9 99) .done)))) (.alt none (.st (.t 100) (.k (.int .i64 4)) 1) (.one none (.ld (some 96) (.t 95) (.one none)) (.one none (.fa (some 101) (.t 10) 1) (.one none (.st (.t 101) (.t 96) 1) (.one none (.mv 9 99) .done)))) .nil)))))))))) .skip)))) (.ops [(none, (.cp 67 12)), (none, (.bin (some 68) .add (.t 67) (.k (.int .i64 1)) false false)), (none, (.mv 12 68))])))) Q s0 := by
  have hl : marksR.length = 15 := rfl
  refine cloop (fun k t => ∃ i : Nat, i + k = 15 ∧ t.fr 0 = .str s ∧ t.fr 5 = v5 ∧ t.fr 6 = .sl .own 1 (marksR.map AV.str) ∧ t.fr 7 = .int .i64 (p : Nat) ∧ t.fr 8 = v8 ∧ t.fr 10 = .ptr b 0 ∧ t.fr 12 = .int .i64 (i : Nat) ∧
      ((marksR.find? (·.isPrefixOf (s.drop p)) = (marksR.drop i).find? (·.isPrefixOf (s.drop p)) ∧ t.fr 9 = .int .i64 (p : Nat) ∧ t.hp = s0.hp)
        ∨ ∃ m, marksR.find? (·.isPrefixOf (s.drop p)) = some m ∧ t.fr 9 = .int .i64 ((p + m.length : Nat) : Int) ∧ t.hp = ⟨s0.hp.n, updB s0.hp.bk b (.cells [.int .i64 4, .str m, .int .i64 0, .int .i64 (p : Nat)])⟩)) 15 ⟨0, rfl, h0, h5, h6, h7, h8, h10, h12, .inl ⟨rfl, h9, rfl⟩⟩ ?_
  clear h0 h5 h6 h7 h8 h9 h10 h12
  obtain ⟨F0, ⟨hn, hbk⟩⟩ := s0
  simp only at hb
  rintro k ⟨F, hp'⟩ ⟨i, hk, f0, f5, f6, f7, f8, f10, f12, hor⟩
  simp only at f0 f5 f6 f7 f8 f10 f12 hor
  by_cases hi : i < 15
  · have hi' : decide ((i : Int) < 15) = true := decide_eq_true (by omega)
    have hw : IntKind.i64.wrap ((i : Int) + 1) = ((i + 1 : Nat) : Int) := by rw [wrap64] <;> omega
    rcases hor with ⟨hf, f9, rfl⟩ | ⟨m, hf, f9, rfl⟩
    · have hx : marksR[i]? = some marksR[i] := List.getElem?_eq_getElem (by rw [hl]; exact hi)
      have hml : ∀ m ∈ marksR, m.length ≤ 2 := by decide
      have hm2 := hml marksR[i] (List.getElem_mem _)
      have hdr : marksR.drop i = marksR[i] :: marksR.drop (i + 1) := List.drop_eq_getElem_cons (by rw [hl]; exact hi)
      rw [hdr, List.find?_cons] at hf
      clear hdr
      generalize marksR[i] = m at hx hf hm2
      have hx' : (marksR.map AV.str)[i]? = some (.str m) := by rw [List.getElem?_map, hx]; rfl
      have w1 : IntKind.i64.wrap ((p : Int) + (m.length : Int)) = ((p + m.length : Nat) : Int) := by rw [wrap64] <;> omega
      by_cases hl2 : p + m.length ≤ s.length
      · have hl2' : decide (((p + m.length : Nat) : Int) ≤ (s.length : Int)) = true := decide_eq_true (by omega)
        have e := pre_eq s m p hl2
        rcases Bool.eq_false_or_eq_true (m.isPrefixOf (s.drop p)) with hm | hm
        · rw [hm] at e hf
          simp only [go_sem, Nat.reduceEqDiff, Nat.reduceAdd, Nat.reduceLeDiff, Nat.reduceLT, ↓reduceIte, reduceCtorEq, Int.reduceLT, Int.reduceToNat, Int.reduceEq, Int.reduceBEq, Int.reduceBNe, Nat.reduceBEq, f0, f5, f6, f7, f8, f9, f10, f12, hb, hl, hi', hx', w1, hl2', hl2, Nat.add_sub_cancel_left, e, hw]
          exact ⟨⟨k - 1, by omega, i + 1, by omega, rfl, .inr ⟨m, hf, rfl, rfl⟩⟩, ⟨k - 1, by omega, i + 1, by omega, rfl, .inr ⟨m, hf, rfl, rfl⟩⟩⟩
        · rw [hm] at e hf
          simp only [go_sem, Nat.reduceEqDiff, Nat.reduceAdd, Nat.reduceLeDiff, Nat.reduceLT, ↓reduceIte, reduceCtorEq, Int.reduceLT, Int.reduceToNat, Int.reduceEq, Int.reduceBEq, Int.reduceBNe, Nat.reduceBEq, f0, f5, f6, f7, f8, f9, f10, f12, hb, hl, hi', hx', w1, hl2', hl2, Nat.add_sub_cancel_left, e, hw]
          exact ⟨k - 1, by omega, i + 1, by omega, rfl, .inl hf⟩
      · have hl2' : decide (((p + m.length : Nat) : Int) ≤ (s.length : Int)) = false := decide_eq_false (by omega)
        have e := pre_no s m p hp hl2
        rw [e] at hf
        simp only [go_sem, Nat.reduceEqDiff, Nat.reduceAdd, Nat.reduceLeDiff, Nat.reduceLT, ↓reduceIte, reduceCtorEq, Int.reduceLT, Int.reduceToNat, Int.reduceEq, Int.reduceBEq, Int.reduceBNe, Nat.reduceBEq, f0, f5, f6, f7, f8, f9, f10, f12, hb, hl, hi', hx', w1, hl2', hw]
        exact ⟨k - 1, by omega, i + 1, by omega, rfl, .inl hf⟩
    · simp only [go_sem, Nat.reduceEqDiff, Nat.reduceAdd, Nat.reduceLeDiff, Nat.reduceLT, ↓reduceIte, reduceCtorEq, Int.reduceLT, Int.reduceToNat, Int.reduceEq, Int.reduceBEq, Int.reduceBNe, Nat.reduceBEq, f0, f5, f6, f7, f8, f9, f10, f12, hb, hl, hi']
      exact hQ1 m hf ⟨_, _⟩ rfl (by simp [fr_apply, f0]) (by simp [fr_apply, f5]) (by simp [fr_apply, f6]) (by simp [fr_apply, f7]) (by simp [fr_apply, f8]) (by simp [fr_apply, f9]) (by simp [fr_apply, f10])
  · have hi' : decide ((i : Int) < 15) = false := decide_eq_false (by omega)
    have e15 : i = 15 := by omega
    subst e15
    rcases hor with ⟨hf, f9, rfl⟩ | ⟨m, hf, f9, rfl⟩
    · simp only [go_sem, Nat.reduceEqDiff, Nat.reduceAdd, Nat.reduceLeDiff, Nat.reduceLT, ↓reduceIte, reduceCtorEq, Int.reduceLT, Int.reduceToNat, Int.reduceEq, Int.reduceBEq, Int.reduceBNe, Nat.reduceBEq, f0, f5, f6, f7, f8, f9, f10, f12, hb, hl, hi']
      exact hQ0 hf ⟨_, _⟩ rfl (by simp [fr_apply, f0]) (by simp [fr_apply, f5]) (by simp [fr_apply, f6]) (by simp [fr_apply, f7]) (by simp [fr_apply, f8]) (by simp [fr_apply, f9]) (by simp [fr_apply, f10])
    · simp only [go_sem, Nat.reduceEqDiff, Nat.reduceAdd, Nat.reduceLeDiff, Nat.reduceLT, ↓reduceIte, reduceCtorEq, Int.reduceLT, Int.reduceToNat, Int.reduceEq, Int.reduceBEq, Int.reduceBNe, Nat.reduceBEq, f0, f5, f6, f7, f8, f9, f10, f12, hb, hl, hi']
      exact hQ1 m hf ⟨_, _⟩ rfl (by simp [fr_apply, f0]) (by simp [fr_apply, f5]) (by simp [fr_apply, f6]) (by simp [fr_apply, f7]) (by simp [fr_apply, f8]) (by simp [fr_apply, f9]) (by simp [fr_apply, f10])
end Go.Proofs.YtnibelnjflhkgaaDoor.Ab
