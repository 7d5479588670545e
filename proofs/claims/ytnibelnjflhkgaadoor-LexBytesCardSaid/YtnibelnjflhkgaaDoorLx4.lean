/- Words of a text: all of them, the program's way. No condition. -/
import Derived.Test.YtnibelnjflhkgaaDoorLx3
namespace Go.Proofs.YtnibelnjflhkgaaDoor.Ab
set_option linter.unusedVariables false
set_option linter.unusedSimpArgs false
set_option maxRecDepth 10000
attribute [local go_sem] decide_true decide_false Nat.zero_le Bool.not_true Bool.not_false Bool.false_eq_true if_false if_true forall_const true_and and_true List.map Option.map Bool.and_self Bool.and_true Bool.true_and Bool.false_and Bool.and_false List.getElem?_cons_zero List.getElem?_nil List.getElem?_cons_succ Int.natCast_nonneg Int.toNat_natCast List.length_map List.length_cons List.length_nil Nat.zero_add Nat.le_refl List.drop_zero List.drop_succ_cons List.take_succ_cons List.take_zero List.take_nil ne_eq not_true_eq_false not_false_eq_true upd_same Nat.add_assoc Nat.left_eq_add Nat.add_eq_left Nat.add_left_cancel_iff Nat.succ_ne_self Nat.one_ne_zero Nat.add_zero Nat.le_add_right ite_self List.set_cons_zero List.set_cons_succ List.all_cons List.all_nil bne_self_eq_false List.isEmpty_cons Int.cast_ofNat_Int Nat.mul_one List.nil_append or_self or_true true_or List.cons_append List.append_nil Option.none_beq_some Option.some_beq_some beq_self_eq_true
def flK : List Tk → Fl | [] => .full | _ => .sh
def flL : List Tk → Fl | [] => .full | _ => .own
def tkA (R : List Tk × Nat × Int) : List AV := [.sl (flK R.1) 4 (R.1.map Tk.av), .int .i64 (R.2.1 : Nat), .int .i64 R.2.2]
def toksG (f p : Nat) (s : List UInt8) (acc : List Tk) : List Tk × Nat × Int :=
  if s = [] then (acc ++ [⟨5, [], 0, p⟩], 0, 0)
  else match wordW s with
    | .bad e => ([], p, e)
    | .tok k t n len => toksF f (p + len) (s.drop len) (acc ++ [⟨k, t, n, p⟩])
theorem toksF_succ (f p : Nat) (s : List UInt8) (acc : List Tk) : toksF (f + 1) p s acc = toksG f (p + skipN false s) (s.drop (skipN false s)) acc := by rw [toksF]; rfl
theorem lab_tks (n : Nat) (l : List Tk) : labL n (l.map Tk.av) = true := by
  refine labL_all.2 fun c hc => ?_
  obtain ⟨f, _, rfl⟩ := List.mem_map.1 hc
  rfl
theorem wordW_bad {s : List UInt8} {e : Int} (h : wordW s = .bad e) : (e != 0) = true := by
  have h2 : ∀ sg, numW sg s = .bad e → (e != 0) = true := fun sg h => by unfold numW at h; split at h <;> cases h; rfl
  have h3 : markW s = .bad e → (e != 0) = true := fun h => by unfold markW at h; split at h <;> cases h; rfl
  unfold wordW at h
  split at h
  · cases h; rfl
  · split at h
    · split at h <;> cases h; rfl
    split at h
    · exact h2 _ h
    split at h
    · exact h2 _ h
    · exact h3 h
set_option maxHeartbeats 1000000 in
theorem fnl_Tokens (s : List UInt8) (hs : s.length < 1000000000000000) : PFn Tryd.prog 8 [.str s] (.tup (tkA (toks s))) := by
  intro h
  refine fnC mixed Tryd.func8 c8 (by simp) ?_
  unfold toks
  by_cases hbig : s.length > 4000
  · have hb : decide ((s.length : Int) > 4000) = true := decide_eq_true (by omega)
    rw [if_pos hbig]
    unfold tkA
    simp only [go_sem, Nat.reduceEqDiff, Nat.reduceAdd, Nat.reduceLeDiff, Nat.reduceLT, ↓reduceIte, reduceCtorEq, Int.reduceLT, Int.reduceToNat, Int.reduceEq, Int.reduceBEq, Int.reduceBNe, Nat.reduceBEq, hb]
    exact .inl rfl
  have hb : decide ((s.length : Int) > 4000) = false := decide_eq_false (by omega)
  rw [if_neg hbig, toksF_succ, Nat.zero_add]
  have hsk := skipN_le false s
  have hP0 := fnl_passed s hs
  generalize hR : toksG s.length (skipN false s) (s.drop (skipN false s)) [] = R
  generalize skipN false s = p0 at *
  simp only [go_sem, Nat.reduceEqDiff, Nat.reduceAdd, Nat.reduceLeDiff, Nat.reduceLT, ↓reduceIte, reduceCtorEq, Int.reduceLT, Int.reduceToNat, Int.reduceEq, Int.reduceBEq, Int.reduceBNe, Nat.reduceBEq, hb]
  refine pcall hP0 (by simp only [go_sem, Nat.reduceEqDiff, Nat.reduceAdd, Nat.reduceLeDiff, Nat.reduceLT, ↓reduceIte, reduceCtorEq, Int.reduceLT, Int.reduceToNat, Int.reduceEq, Int.reduceBEq, Int.reduceBNe, Nat.reduceBEq]) ?_
  simp only [go_sem, Nat.reduceEqDiff, Nat.reduceAdd, Nat.reduceLeDiff, Nat.reduceLT, ↓reduceIte, reduceCtorEq, Int.reduceLT, Int.reduceToNat, Int.reduceEq, Int.reduceBEq, Int.reduceBNe, Nat.reduceBEq]
  refine cloop (fun k t => ∃ (p : Nat) (acc : List Tk), p ≤ s.length ∧ s.length ≤ k + p ∧ acc.length ≤ p ∧ t.fr 0 = .str s ∧ t.fr 2 = .sl (flL acc) 4 (acc.map Tk.av) ∧ t.fr 3 = .int .i64 (p : Nat) ∧ toksG k p (s.drop p) acc = R ∧ h.n ≤ t.hp.n ∧ Shrink h t.hp h) s.length ⟨p0, [], hsk, by omega, by simp, by simp [fr_apply, argsF], by simp [fr_apply, flL], by simp [fr_apply], hR, by simp, shrink_refl h⟩ ?_
  clear hR
  rintro k ⟨F, hp⟩ ⟨p, acc, hpl, hk, hal, f0, f2, f3, hR, hn, hsh⟩
  simp only at f0 f2 f3 hn hsh
  by_cases hi : p < s.length
  · have hi' : decide ((p : Int) < (s.length : Int)) = true := decide_eq_true (by omega)
    have htk : (s.drop p).take (s.length - p) = s.drop p := List.take_of_length_le (by simp)
    have hd := drop_cons hi
    have hW := fnl_word (s.drop p) (by simp; omega) _ _ hd
    have hne : ¬ s.drop p = [] := fun e => by have := congrArg List.length e; simp at this; omega
    have hsg := shrink_grow (n := hp.n + 1) hsh (by omega)
    have hWl := fun k t n len => wordW_len (s := s.drop p) (k := k) (t := t) (n := n) (len := len)
    have hWe := fun e => wordW_bad (s := s.drop p) (e := e)
    rw [toksG, if_neg hne] at hR
    generalize wordW (s.drop p) = w at hW hR hWl hWe
    have hple : p ≤ s.length := hpl
    cases w with
    | bad e =>
      simp only at hR
      subst hR
      have he0 : (e != 0) = true := hWe e rfl
      unfold wdA at hW
      unfold tkA
      simp only [go_sem, Nat.reduceEqDiff, Nat.reduceAdd, Nat.reduceLeDiff, Nat.reduceLT, ↓reduceIte, reduceCtorEq, Int.reduceLT, Int.reduceToNat, Int.reduceEq, Int.reduceBEq, Int.reduceBNe, Nat.reduceBEq, f0, f2, f3, hi', htk, hple]
      refine pcall hW (by simp only [go_sem, Nat.reduceEqDiff, Nat.reduceAdd, Nat.reduceLeDiff, Nat.reduceLT, ↓reduceIte, reduceCtorEq, Int.reduceLT, Int.reduceToNat, Int.reduceEq, Int.reduceBEq, Int.reduceBNe, Nat.reduceBEq]) ?_
      simp only [go_sem, Nat.reduceEqDiff, Nat.reduceAdd, Nat.reduceLeDiff, Nat.reduceLT, ↓reduceIte, reduceCtorEq, Int.reduceLT, Int.reduceToNat, Int.reduceEq, Int.reduceBEq, Int.reduceBNe, Nat.reduceBEq, f0, f2, f3, he0]
      refine ⟨.inl rfl, ?_⟩
      simp [shrink_upd, hsg, hn]
    | tok tk tt tn len =>
      obtain ⟨hl1, hl2⟩ := hWl _ _ _ _ rfl
      rw [List.length_drop] at hl2
      simp only at hR
      obtain ⟨k', rfl⟩ : ∃ k', k = k' + 1 := ⟨k - 1, by omega⟩
      rw [toksF_succ, List.drop_drop, List.drop_drop] at hR
      have hP := fnl_passed (s.drop (p + len)) (by simp; omega)
      have hsk2 := skipN_le false (s.drop (p + len))
      rw [List.length_drop] at hsk2
      have htk2 : (s.drop (p + len)).take (s.length - (p + len)) = s.drop (p + len) := List.take_of_length_le (by simp)
      generalize skipN false (s.drop (p + len)) = q at *
      have hpl2 : p + len ≤ s.length := by omega
      have w1 : IntKind.i64.wrap ((p : Int) + (len : Int)) = ((p + len : Nat) : Int) := by rw [wrap64] <;> omega
      have w2 : IntKind.i64.wrap (((p + len : Nat) : Int) + (q : Int)) = ((p + len + q : Nat) : Int) := by rw [wrap64] <;> omega
      have a1 : (acc.length + 1) * 40 ≤ 140737488355328 := by omega
      have a2 : acc.length ≤ 9223372036854775806 := by omega
      unfold wdA at hW
      cases acc with
      | nil =>
        simp only [flL, List.map_nil] at f2
        have a3 : 1 * 40 ≤ 140737488355328 := by omega
        simp only [go_sem, Nat.reduceEqDiff, Nat.reduceAdd, Nat.reduceLeDiff, Nat.reduceLT, ↓reduceIte, reduceCtorEq, Int.reduceLT, Int.reduceToNat, Int.reduceEq, Int.reduceBEq, Int.reduceBNe, Nat.reduceBEq, f0, f2, f3, hi', htk, hple]
        refine pcall hW (by simp only [go_sem, Nat.reduceEqDiff, Nat.reduceAdd, Nat.reduceLeDiff, Nat.reduceLT, ↓reduceIte, reduceCtorEq, Int.reduceLT, Int.reduceToNat, Int.reduceEq, Int.reduceBEq, Int.reduceBNe, Nat.reduceBEq]) ?_
        simp only [go_sem, Nat.reduceEqDiff, Nat.reduceAdd, Nat.reduceLeDiff, Nat.reduceLT, ↓reduceIte, reduceCtorEq, Int.reduceLT, Int.reduceToNat, Int.reduceEq, Int.reduceBEq, Int.reduceBNe, Nat.reduceBEq, f0, f2, f3, a3, Int.le_refl, w1, hpl2, htk2]
        refine pcall hP (by simp only [go_sem, Nat.reduceEqDiff, Nat.reduceAdd, Nat.reduceLeDiff, Nat.reduceLT, ↓reduceIte, reduceCtorEq, Int.reduceLT, Int.reduceToNat, Int.reduceEq, Int.reduceBEq, Int.reduceBNe, Nat.reduceBEq]) ?_
        simp only [go_sem, Nat.reduceEqDiff, Nat.reduceAdd, Nat.reduceLeDiff, Nat.reduceLT, ↓reduceIte, reduceCtorEq, Int.reduceLT, Int.reduceToNat, Int.reduceEq, Int.reduceBEq, Int.reduceBNe, Nat.reduceBEq, f0, f2, f3, w2]
        exact ⟨k', by omega, p + (len + q), [⟨tk, tt, tn, p⟩], by omega, by omega, by simp; omega, rfl, rfl, by rw [← Nat.add_assoc]; exact hR, by omega, by simp [shrink_upd, hsg, hn]⟩
      | cons x acc =>
        simp only [flL] at f2
        have a4 : (acc.length + 2) * 40 ≤ 140737488355328 := by simp at a1; omega
        have a5 : acc.length ≤ 9223372036854775805 := by simp at a2; omega
        simp only [go_sem, Nat.reduceEqDiff, Nat.reduceAdd, Nat.reduceLeDiff, Nat.reduceLT, ↓reduceIte, reduceCtorEq, Int.reduceLT, Int.reduceToNat, Int.reduceEq, Int.reduceBEq, Int.reduceBNe, Nat.reduceBEq, f0, f2, f3, hi', htk, hple]
        refine pcall hW (by simp only [go_sem, Nat.reduceEqDiff, Nat.reduceAdd, Nat.reduceLeDiff, Nat.reduceLT, ↓reduceIte, reduceCtorEq, Int.reduceLT, Int.reduceToNat, Int.reduceEq, Int.reduceBEq, Int.reduceBNe, Nat.reduceBEq]) ?_
        simp only [go_sem, Nat.reduceEqDiff, Nat.reduceAdd, Nat.reduceLeDiff, Nat.reduceLT, ↓reduceIte, reduceCtorEq, Int.reduceLT, Int.reduceToNat, Int.reduceEq, Int.reduceBEq, Int.reduceBNe, Nat.reduceBEq, f0, f2, f3, a1, a2, a4, a5, w1, hpl2, htk2]
        refine pcall hP (by simp only [go_sem, Nat.reduceEqDiff, Nat.reduceAdd, Nat.reduceLeDiff, Nat.reduceLT, ↓reduceIte, reduceCtorEq, Int.reduceLT, Int.reduceToNat, Int.reduceEq, Int.reduceBEq, Int.reduceBNe, Nat.reduceBEq]) ?_
        simp only [go_sem, Nat.reduceEqDiff, Nat.reduceAdd, Nat.reduceLeDiff, Nat.reduceLT, ↓reduceIte, reduceCtorEq, Int.reduceLT, Int.reduceToNat, Int.reduceEq, Int.reduceBEq, Int.reduceBNe, Nat.reduceBEq, f0, f2, f3, w2]
        exact ⟨k', by omega, p + (len + q), x :: acc ++ [⟨tk, tt, tn, p⟩], by omega, by omega, by simp at hal ⊢; omega, by simp [flL, Tk.av], rfl, by rw [← Nat.add_assoc]; exact hR, by omega, by simp [shrink_upd, hsg, hn]⟩
  · have hi' : decide ((p : Int) < (s.length : Int)) = false := decide_eq_false (by omega)
    rw [toksG, if_pos (List.drop_eq_nil_of_le (by omega))] at hR
    subst hR
    unfold tkA
    have a1 : (acc.length + 1) * 40 ≤ 140737488355328 := by omega
    have a2 : acc.length ≤ 9223372036854775806 := by omega
    have lb := lab_tks h.n acc
    cases acc with
    | nil =>
      simp only [flL, List.map_nil] at f2
      have a3 : 1 * 40 ≤ 140737488355328 := by omega
      simp only [go_sem, Nat.reduceEqDiff, Nat.reduceAdd, Nat.reduceLeDiff, Nat.reduceLT, ↓reduceIte, reduceCtorEq, Int.reduceLT, Int.reduceToNat, Int.reduceEq, Int.reduceBEq, Int.reduceBNe, Nat.reduceBEq, f0, f2, f3, hi', a3, Int.le_refl]
      exact ⟨by simp [flK, Tk.av], rfl, hsh⟩
    | cons x acc =>
      simp only [flL] at f2
      have a4 : (acc.length + 2) * 40 ≤ 140737488355328 := by simp at a1; omega
      have a5 : acc.length ≤ 9223372036854775805 := by simp at a2; omega
      simp only [go_sem, Nat.reduceEqDiff, Nat.reduceAdd, Nat.reduceLeDiff, Nat.reduceLT, ↓reduceIte, reduceCtorEq, Int.reduceLT, Int.reduceToNat, Int.reduceEq, Int.reduceBEq, Int.reduceBNe, Nat.reduceBEq, f0, f2, f3, hi', a1, a2, a4, a5]
      exact ⟨by simp [flK, Tk.av], by have := lab_tks h.n (x :: (acc ++ [⟨5, [], 0, p⟩])); simpa [labL] using this, hsh⟩
end Go.Proofs.YtnibelnjflhkgaaDoor.Ab
