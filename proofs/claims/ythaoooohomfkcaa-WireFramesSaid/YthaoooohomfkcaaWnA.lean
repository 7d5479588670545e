/- Texts near a text. No condition. Both ways of taking numbers and terms agree; how many texts are near one. No condition. -/
import Derived.Test.YthaoooohomfkcaaWw3
import Derived.Test.YthaoooohomfkcaaWq0
import Derived.Test.YthaoooohomfkcaaWy5
namespace Go.Proofs.Ythaoooohomfkcaa.Ab
set_option linter.unusedVariables false
set_option linter.unusedSimpArgs false
set_option maxRecDepth 10000
attribute [local go_sem] Nat.zero_le Bool.not_true Bool.not_false Bool.false_eq_true if_false if_true forall_const true_and and_true List.map Option.map Bool.and_self Bool.and_true Bool.true_and Bool.false_and Bool.and_false List.getElem?_cons_zero List.getElem?_nil List.getElem?_cons_succ Int.natCast_nonneg Int.toNat_natCast List.length_map List.length_cons List.length_nil Nat.zero_add Nat.le_refl List.drop_zero List.drop_succ_cons List.take_succ_cons List.take_zero List.take_nil ne_eq not_true_eq_false not_false_eq_true upd_same Nat.add_assoc Nat.left_eq_add Nat.add_eq_left Nat.add_left_cancel_iff Nat.succ_ne_self Nat.one_ne_zero Nat.add_zero Nat.le_add_right ite_self List.set_cons_zero List.set_cons_succ List.all_cons List.all_nil bne_self_eq_false List.isEmpty_cons Int.cast_ofNat_Int Nat.mul_one List.nil_append or_self or_true true_or List.cons_append List.append_nil Option.none_beq_some Option.some_beq_some beq_self_eq_true
theorem c87 : compF Try.prog ow Try.f87 = (some (11, ([(.t 4)], (.seq (.ops [(none, (.set 4 (.int .i64 0)))]) (.seq (.ops [(none, (.cp 5 0)), (none, (.cvt (some 6) (.t 5) (some .u64) false false)), (none, (.cp 7 1)), (none, (.cvt (some 8) (.t 7) (some .u64) false false)), (none, (.bin (some 9) .rem (.t 6) (.t 8) false false)), (none, (.cvt (some 10) (.t 9) (some .i64) false false)), (none, (.mv 4 10))]) .ret))))) := by kernel_rfl
theorem c40 : compF Try.prog ow Try.f40 = (some (57, ([(.t 4)], (.seq (.ops [(none, (.set 4 (.sl .full 1 [])))]) (.seq (.ops [(none, (.cp 9 0)), (none, (.cp 10 0)), (none, (.bin (some 11) .add (.t 10) (.k (.str [120])) false false)), (none, (.bs 12 1 [(.t 9), (.t 11)])), (none, (.mv 5 12))]) (.seq (.seq (.ops [(none, (.cp 13 0)), (none, (.len (some 14) (.t 13) true false)), (none, (.bin (some 15) .eql (.t 14) (.k (.int .i64 0)) false false))]) (.cond (.t 15) (.seq (.ops [(none, (.mv 16 5)), (none, (.mv 4 16))]) .ret) .skip)) (.seq (.ops [(none, (.mv 17 5)), (none, (.cp 18 0)), (none, (.cp 19 0)), (none, (.len (some 20) (.t 19) true false)), (none, (.bin (some 21) .sub (.t 20) (.k (.int .i64 1)) false false)), (none, (.sl (some 22) (.t 18) none (some (.t 21)) none true none)), (none, (.bs 23 1 [(.t 22)])), (none, (.app 24 (.t 17) (.t 23) 1 16 true true)), (none, (.mv 5 24))]) (.seq (.seq (.ops [(none, (.set 6 (.int .i64 0)))]) (.block 0 (.loop (.seq (.seq (.ops [(none, (.cp 25 6)), (none, (.bin (some 26) .lss (.t 25) (.k (.int .i64 4)) false false))]) (.cond (.t 26) .skip (.exit 0))) (.seq (.block 1 (.seq (.ops [(none, (.cp 29 0)), (none, (.x (some 30) .sb [(.t 29)])), (none, (.mv 7 30))]) (.seq (.ops [(none, (.cp 31 6)), (none, (.bin (some 32) .mul (.t 31) (.k (.int .i64 13)) false false)), (none, (.cp 33 1)), (none, (.bin (some 34) .add (.t 32) (.t 33) false false)), (none, (.cp 35 7)), (none, (.len (some 36) (.t 35) false true)), (none, (.call (some 37) (.k (.func 87 [] [])) [(.t 34), (.t 36)] none)), (none, (.mv 8 37))]) (.seq (.opsD [(none, (.cp 38 7)), (none, (.cp 39 8)), (none, (.cp 40 7)), (none, (.cp 41 8)), (none, (.ia (some 42) (.t 40) (.t 41) (some 1) none)), (none, (.ld (some 43) (.t 42) (.one none))), (none, (.cp 44 6)), (none, (.cp 45 1)), (none, (.bin (some 46) .add (.t 44) (.t 45) false false)), (none, (.bin (some 47) .rem (.t 46) (.k (.int .i64 8)) false false)), (none, (.bin (some 48) .shl (.k (.int .u8 1)) (.t 47) false false)), (none, (.bin (some 49) .xor (.t 43) (.t 48) false false)), (none, (.ia (some 50) (.t 38) (.t 39) (some 1) none)), (none, (.st (.t 50) (.t 49) 1))]) (.ops [(none, (.mv 51 5)), (none, (.cp 52 7)), (none, (.x (some 53) .bs [(.t 52)])), (none, (.bs 54 1 [(.t 53)])), (none, (.app 55 (.t 51) (.t 54) 1 16 true true)), (none, (.mv 5 55))]))))) (.ops [(none, (.cp 27 6)), (none, (.bin (some 28) .add (.t 27) (.k (.int .i64 1)) false false)), (none, (.mv 6 28))])))))) (.seq (.ops [(none, (.mv 56 5)), (none, (.mv 4 56))]) .ret))))))))) := by kernel_rfl
theorem fn_Within (a b : Nat) (ha : a < 4611686018427387904) (hb0 : 0 < b) (hb : b < 4611686018427387904) : PFn Try.prog 87 [.int .i64 (a : Nat), .int .i64 (b : Nat)] (.int .i64 ((a % b : Nat) : Int)) := by
  intro h
  refine fnC mixed Try.func87 c87 (by simp) ?_
  have e1 : IntKind.u64.wrap (a : Int) = a := wrapu _ (by omega) (by omega)
  have e2 : IntKind.u64.wrap (b : Int) = b := wrapu _ (by omega) (by omega)
  have e3 : (a : Int).tmod (b : Int) = ((a % b : Nat) : Int) := by
    rw [Int.tmod_eq_emod_of_nonneg (by omega)]; omega
  have hlt : a % b < b := Nat.mod_lt _ hb0
  have e4 : IntKind.i64.wrap ((a % b : Nat) : Int) = ((a % b : Nat) : Int) := by rw [wrap64] <;> omega
  have hne : ¬ (b : Int) = 0 := by omega
  simp only [go_sem, Nat.reduceEqDiff, Nat.reduceAdd, Nat.reduceLeDiff, Nat.reduceLT, ↓reduceIte, reduceCtorEq, Int.reduceLT, Int.reduceToNat, Int.reduceEq, Int.reduceBEq, Int.reduceBNe, Nat.reduceBEq, e1, e2, e3, e4, hne]
  done
/-- One byte of a text changed. -/
def nearI (s : List UInt8) (k i : Nat) : List Int :=
  (s.map fun b => (b.toNat : Int)).set ((k * 13 + i) % s.length) (bitI .xor .u8 (((s.map fun b => (b.toNat : Int))[(k * 13 + i) % s.length]?).getD 0) (IntKind.u8.wrap (1 * 2 ^ (min ((k + i) % 8) 8))))
def toT (l : List Int) : List UInt8 := l.map fun n => UInt8.ofNat n.toNat
theorem bytesOf_ints : ∀ l : List Int, bytesOf (l.map (AV.int .u8)) = some (toT l)
  | [] => rfl
  | n :: l => by simp only [List.map_cons, bytesOf, bytesOf_ints l, toT]
def nearS (s : List UInt8) (i : Nat) : Nat → List (List UInt8)
  | 0 => [s, s ++ [120], s.take (s.length - 1)]
  | k + 1 => nearS s i k ++ [toT (nearI s k i)]
theorem nearS_len (s : List UInt8) (i : Nat) : ∀ k, (nearS s i k).length = 3 + k
  | 0 => rfl
  | k + 1 => by simp [nearS, nearS_len s i k]; omega
def near (s : List UInt8) (i : Nat) : List (List UInt8) := if s = [] then [s, s ++ [120]] else nearS s i 4
set_option maxHeartbeats 1000000 in
theorem fn_near (s : List UInt8) (i : Nat) (hs : s.length < 4611686018427387904) (hi : i < 4000000000000000000) :
    PFn Try.prog 40 [.str s, .int .i64 (i : Nat)] (.sl .own 1 ((near s i).map AV.str)) := by
  intro h
  refine fnC mixed Try.func40 c40 (by simp) ?_
  have hl1 : s.length + 1 ≤ 9223372036854775807 := by omega
  cases s with
  | nil =>
    simp only [go_sem, Nat.reduceEqDiff, Nat.reduceAdd, Nat.reduceLeDiff, Nat.reduceLT, ↓reduceIte, reduceCtorEq, Int.reduceLT, Int.reduceToNat, Int.reduceEq, Int.reduceBEq, Int.reduceBNe, Nat.reduceBEq]
    refine ⟨.inl rfl, rfl⟩
  | cons b s0 =>
    generalize hS : b :: s0 = s at *
    have hpos : 0 < s.length := by rw [← hS]; simp
    have hnil : s ≠ [] := by rw [← hS]; simp
    clear hS b s0
    have hne : ((s.length : Int) == 0) = false := by simp; exact hnil
    have hw1 : IntKind.i64.wrap ((s.length : Int) - 1) = ((s.length - 1 : Nat) : Int) := by rw [wrap64] <;> omega
    have hle1 : s.length - 1 ≤ s.length := by omega
    have hnear : near s i = nearS s i 4 := if_neg hnil
    simp only [go_sem, Nat.reduceEqDiff, Nat.reduceAdd, Nat.reduceLeDiff, Nat.reduceLT, ↓reduceIte, reduceCtorEq, Int.reduceLT, Int.reduceToNat, Int.reduceEq, Int.reduceBEq, Int.reduceBNe, Nat.reduceBEq, hl1, hne, hw1, hle1, Nat.sub_zero]
    have sh0 : Shrink h h h := shrink_refl h
    refine cloop (fun k t => ∃ j : Nat, j + k = 4 ∧ t.fr 0 = .str s ∧ t.fr 1 = .int .i64 (i : Nat) ∧ t.fr 5 = .sl .own 1 ((nearS s i j).map AV.str) ∧ t.fr 6 = .int .i64 (j : Nat) ∧ h.n ≤ t.hp.n ∧ Shrink h t.hp h) 4 ⟨0, by simp, by simp [fr_apply, argsF], by simp [fr_apply, argsF], by simp [fr_apply, argsF, nearS], by simp [fr_apply, argsF], by simp, sh0⟩ ?_
    rintro k ⟨f, hp⟩ ⟨j, hk, f0, f1, f5, f6, hn, hsh⟩
    simp only at f0 f1 f5 f6 hn hsh
    by_cases hj : j < 4
    · have hj' : decide ((j : Int) < 4) = true := decide_eq_true (by omega)
      have hwj : IntKind.i64.wrap ((j : Int) + 1) = ((j + 1 : Nat) : Int) := by rw [wrap64] <;> omega
      have hw2 : IntKind.i64.wrap ((j : Int) * 13) = ((j * 13 : Nat) : Int) := by rw [wrap64] <;> omega
      have hw3 : IntKind.i64.wrap (((j * 13 : Nat) : Int) + (i : Int)) = ((j * 13 + i : Nat) : Int) := by rw [wrap64] <;> omega
      have hw4 : IntKind.i64.wrap ((j : Int) + (i : Int)) = ((j + i : Nat) : Int) := by rw [wrap64] <;> omega
      have hr : (((j + i : Nat) : Int)).tmod 8 = (((j + i) % 8 : Nat) : Int) := by rw [Int.tmod_eq_emod_of_nonneg (by omega)]; omega
      have hslen : s.length ≤ 9223372036854775807 := by omega
      have hW := fn_Within (j * 13 + i) s.length (by omega) hpos hs
      simp only [go_sem, Nat.reduceEqDiff, Nat.reduceAdd, Nat.reduceLeDiff, Nat.reduceLT, ↓reduceIte, reduceCtorEq, Int.reduceLT, Int.reduceToNat, Int.reduceEq, Int.reduceBEq, Int.reduceBNe, Nat.reduceBEq, f0, f1, f5, f6, hj', hw2, hw3, hslen]
      refine pcall hW (by simp only [go_sem, Nat.reduceEqDiff, Nat.reduceAdd, Nat.reduceLeDiff, Nat.reduceLT, ↓reduceIte, reduceCtorEq, Int.reduceLT, Int.reduceToNat, Int.reduceEq, Int.reduceBEq, Int.reduceBNe, Nat.reduceBEq]) ?_
      have hat : (j * 13 + i) % s.length < s.length := Nat.mod_lt _ hpos
      have hN : (nearS s i (j + 1)) = nearS s i j ++ [toT (nearI s j i)] := rfl
      unfold nearI at hN
      generalize (j * 13 + i) % s.length = at0 at *
      have hat' : (at0 : Int) < (s.length : Int) := by omega
      have hB : (s.map fun b => AV.int .u8 (b.toNat : Int))[at0]? = some (.int .u8 ((s[at0].toNat : Nat) : Int)) := by simp [hat]
      have hB2 : ((s.map fun b => (b.toNat : Int))[at0]?).getD 0 = ((s[at0].toNat : Nat) : Int) := by simp [hat]
      rw [hB2] at hN
      generalize ((s[at0].toNat : Nat) : Int) = B at hB hN
      have hm8 : ¬ (((j + i) % 8 : Nat) : Int) < 0 := by omega
      obtain ⟨X, hX⟩ : ∃ X, bitI BinOp.xor IntKind.u8 B (IntKind.u8.wrap (1 * 2 ^ min ((j + i) % 8) 8)) = X := ⟨_, rfl⟩
      rw [hX] at hN
      have hat1 : at0 + 1 ≤ s.length := by omega
      have hset : (s.map fun b => AV.int .u8 (b.toNat : Int)).set at0 (.int .u8 X) = ((s.map fun b => (b.toNat : Int)).set at0 X).map (AV.int .u8) := by
        rw [List.map_set, List.map_map]; rfl
      have htk : (((s.map fun b => (b.toNat : Int)).set at0 X).map (AV.int .u8)).take s.length = ((s.map fun b => (b.toNat : Int)).set at0 X).map (AV.int .u8) := List.take_of_length_le (by simp)
      have hby := bytesOf_ints ((s.map fun b => (b.toNat : Int)).set at0 X)
      have hnl := nearS_len s i j
      have hA : ((nearS s i j).length + 1) * 16 ≤ 140737488355328 := by omega
      have hA2 : (nearS s i j).length ≤ 9223372036854775806 := by omega
      simp only [go_sem, Nat.reduceEqDiff, Nat.reduceAdd, Nat.reduceLeDiff, Nat.reduceLT, ↓reduceIte, reduceCtorEq, Int.reduceLT, Int.reduceToNat, Int.reduceEq, Int.reduceBEq, Int.reduceBNe, Nat.reduceBEq, f0, f1, f5, f6, hw4, hr, hat', hB, hm8, hat1, hX, hset, htk, hby, List.length_set, hA, hA2, hwj]
      exact ⟨k - 1, by omega, j + 1, by omega, by rw [hN, List.map_append]; rfl, rfl, by omega, by simp [shrink_upd, hn, shrink_grow (n := hp.n + 1) hsh (by omega)]⟩
    · have hj' : decide ((j : Int) < 4) = false := decide_eq_false (by omega)
      have h4 : j = 4 := by omega
      rw [h4] at f5
      rw [hnear]
      simp only [go_sem, Nat.reduceEqDiff, Nat.reduceAdd, Nat.reduceLeDiff, Nat.reduceLT, ↓reduceIte, reduceCtorEq, Int.reduceLT, Int.reduceToNat, Int.reduceEq, Int.reduceBEq, Int.reduceBNe, Nat.reduceBEq, f0, f1, f5, f6, hj']
      exact ⟨labL_all.2 (fun c hc => by obtain ⟨a, _, rfl⟩ := List.mem_map.1 hc; rfl), hsh⟩
end Go.Proofs.Ythaoooohomfkcaa.Ab

namespace Go.Proofs.Ythaoooohomfkcaa.Ab
set_option linter.unusedVariables false
set_option linter.unusedSimpArgs false
set_option maxRecDepth 10000
theorem fn_rTakeNumber' (s : List UInt8) : PFn Try.prog 45 [.str s] (.tup (if (numP (s, false)).2.2 then [.int .i64 0, .str [], .bool false] else [.int .i64 (numP (s, false)).1, .str (numP (s, false)).2.1, .bool true])) := by
  have h := fn_rTakeNumber s
  cases hq : (numQ (s, false)).2.2 with
  | false => rw [numQ_eq hq] at h; exact h
  | true => cases hp : (numP (s, false)).2.2 with
    | false => rw [numP_eq hp, hp] at hq; cases hq
    | true => rw [hq] at h; exact h
theorem fn_rTake' (s : List UInt8) : PFn Try.prog 47 [.str s] (.tup (if okW s = true then [(decW 5 (s, false)).1.avf, .str (decW 5 (s, false)).2.1, .bool true] else [(T.mk 0 [] 0 []).avf, .str [], .bool false])) := by
  have h := fn_rTake s
  cases hr : okR s with
  | true =>
    have e := dec_agree' s (by unfold okR at hr; simpa using hr)
    have ho : okW s = true := by unfold okW; unfold okR at hr; rw [e]; exact hr
    rw [ho, e]; rw [hr] at h; exact h
  | false =>
    have ho : okW s = false := by
      cases ho : okW s with
      | false => rfl
      | true =>
        have e := dec_agree s (by unfold okW at ho; simpa using ho)
        unfold okR at hr; unfold okW at ho; rw [e, ho] at hr; cases hr
    rw [ho]; rw [hr] at h; exact h
theorem fn_eqSelf (t : T) (ht : t.ok) : PFn Try.prog 15 [t.avf, t.avf] (.bool true) := by
  have h := fn_eqT t ht t
  rw [eqT_refl] at h
  refine pfn_fk ?_
  simp only [List.map_cons, List.map_nil, fk_avf]
  exact h
theorem near_len (s : List UInt8) (i : Nat) : (near s i).length ≤ 7 := by
  unfold near; split
  · simp
  · rw [nearS_len]; omega
theorem apFl_own (ys : List AV) : apFl .own ys = .own := by cases ys <;> rfl
end Go.Proofs.Ythaoooohomfkcaa.Ab
