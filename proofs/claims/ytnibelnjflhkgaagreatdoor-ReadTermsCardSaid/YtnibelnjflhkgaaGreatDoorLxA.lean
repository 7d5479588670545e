/- Words of a text, as plain data. No condition. Words of a text: the program's small functions. No condition. -/
import Derived.Test.YtnibelnjflhkgaaGreatDoorBs0
namespace Go.Proofs.YtnibelnjflhkgaaGreatDoor.Ab
set_option linter.unusedVariables false
set_option linter.unusedSimpArgs false
structure Tk where
  k : Int
  s : List UInt8
  n : Int
  p : Nat
def Tk.av (t : Tk) : AV := .agg [.int .i64 t.k, .str t.s, .int .i64 t.n, .int .i64 (t.p : Nat)]
def inR (lo hi c : Int) : Bool := decide (c ≥ lo) && decide (c ≤ hi)
def digB (c : UInt8) : Bool := inR 48 57 (c.toNat : Nat)
def smaB (c : UInt8) : Bool := inR 97 122 (c.toNat : Nat)
def greB (c : UInt8) : Bool := inR 65 90 (c.toNat : Nat)
def innB (c : UInt8) : Bool := smaB c || greB c || digB c || c == 95
def blaB (c : UInt8) : Bool := c == 32 || c == 9 || c == 10 || c == 13
/-- How many bytes of a text's begin are of a sort. -/
def spanN (f : UInt8 → Bool) : List UInt8 → Nat
  | [] => 0
  | c :: s => if f c then spanN f s + 1 else 0
/-- How many bytes of a text's begin are no word's; true: within a remark. -/
def skipN : Bool → List UInt8 → Nat
  | _, [] => 0
  | true, c :: s => if c = 10 then skipN false s + 1 else skipN true s + 1
  | false, c :: s => if blaB c then skipN false s + 1 else if c = 37 then skipN true s + 1 else 0
def digV (l : List UInt8) : Nat := l.foldl (fun n c => 10 * n + (c.toNat - 48)) 0
def marksL : List (List UInt8) := [[40], [41], [44], [46], [59], [58, 45], [60, 45], [61, 60], [60], [61], [92, 61], [38], [124], [64], [92, 43]]
inductive Wd | tok (k : Int) (s : List UInt8) (n : Int) (len : Nat) | bad (e : Int)
def pre1 (c : UInt8) (s : List UInt8) : Bool := match s with | d :: _ => d == c | [] => false
def digAt (s : List UInt8) : Bool := match s with | d :: _ => digB d | [] => false
def numW (sg : Nat) (s : List UInt8) : Wd :=
  if digV ((s.drop sg).take (spanN digB (s.drop sg))) > 1073741824 then .bad 2
  else .tok 3 [] (if sg = 1 then -(digV ((s.drop sg).take (spanN digB (s.drop sg))) : Int) else (digV ((s.drop sg).take (spanN digB (s.drop sg))) : Int)) (sg + spanN digB (s.drop sg))
def markW (s : List UInt8) : Wd := match marksL.find? (·.isPrefixOf s) with | some m => .tok 4 m 0 m.length | none => .bad 4
def wordW (s : List UInt8) : Wd :=
  match s with
  | [] => .bad 4
  | c :: r =>
    if smaB c || greB c then (if spanN innB (c :: r) > 16 then .bad 2 else .tok (if greB c then 2 else 1) ((c :: r).take (spanN innB (c :: r))) 0 (spanN innB (c :: r)))
    else if digB c then numW 0 (c :: r)
    else if c == 45 && digAt r then numW 1 (c :: r)
    else markW (c :: r)
/-- A text's words behind those that are there: words, where, the error. -/
def toksF : Nat → Nat → List UInt8 → List Tk → List Tk × Nat × Int
  | 0, _, _, _ => ([], 0, 0)
  | f + 1, p, s, acc =>
    if s.drop (skipN false s) = [] then (acc ++ [⟨5, [], 0, p + skipN false s⟩], 0, 0)
    else match wordW (s.drop (skipN false s)) with
      | .bad e => ([], p + skipN false s, e)
      | .tok k t n len => toksF f (p + skipN false s + len) ((s.drop (skipN false s)).drop len) (acc ++ [⟨k, t, n, p + skipN false s⟩])
def toks (s : List UInt8) : List Tk × Nat × Int := if s.length > 4000 then ([], 0, 2) else toksF (s.length + 1) 0 s []
theorem spanN_le (f : UInt8 → Bool) : ∀ s, spanN f s ≤ s.length
  | [] => Nat.le_refl _
  | c :: s => by rw [spanN]; split <;> simp; exact spanN_le f s
theorem skipN_le : ∀ b s, skipN b s ≤ s.length
  | _, [] => by simp [skipN]
  | true, c :: s => by rw [skipN]; split <;> simp <;> exact skipN_le _ s
  | false, c :: s => by rw [skipN]; split; · simp; exact skipN_le _ s
                        split <;> simp; exact skipN_le _ s
theorem skipN_rem : ∀ s, skipN true s = spanN (fun c => c != 10) s + skipN false (s.drop (spanN (fun c => c != 10) s))
  | [] => rfl
  | c :: s => by
    by_cases h : c = 10
    · subst h; simp [skipN, spanN, blaB]
    · have : (c != 10) = true := by simpa using h
      rw [skipN, if_neg h, spanN, this, if_pos rfl, List.drop_succ_cons, skipN_rem s]; omega
theorem spanN_pos {f : UInt8 → Bool} {c : UInt8} {s : List UInt8} (h : f c = true) : 0 < spanN f (c :: s) := by rw [spanN, h]; simp
theorem marks_pos : ∀ m ∈ marksL, 0 < m.length := by decide
theorem wordW_len {s : List UInt8} {k : Int} {t : List UInt8} {n : Int} {len : Nat} (h : wordW s = .tok k t n len) : 0 < len ∧ len ≤ s.length := by
  unfold wordW at h
  split at h
  · cases h
  · rename_i c r
    split at h
    · rename_i h1
      split at h
      · cases h
      · cases h
        exact ⟨spanN_pos (by simp only [innB, Bool.or_eq_true] at h1 ⊢; exact .inl (.inl h1)), spanN_le _ _⟩
    split at h
    · rename_i h1
      unfold numW at h
      split at h
      · cases h
      · cases h
        have := spanN_le digB (c :: r)
        have := spanN_pos (f := digB) (s := r) h1
        simp only [List.drop_zero]; omega
    split at h
    · rename_i h1
      simp only [Bool.and_eq_true] at h1
      unfold numW at h
      split at h
      · cases h
      · cases h
        have := spanN_le digB r
        simp only [List.drop_succ_cons, List.drop_zero, List.length_cons]; omega
    · unfold markW at h
      split at h
      · rename_i m hm
        cases h
        have h1 := List.mem_of_find?_eq_some hm
        have h2 := List.find?_some hm
        exact ⟨marks_pos _ h1, (List.isPrefixOf_iff_prefix.1 h2).length_le⟩
      · cases h
end Go.Proofs.YtnibelnjflhkgaaGreatDoor.Ab

namespace Go.Proofs.YtnibelnjflhkgaaGreatDoor.Ab
set_option linter.unusedVariables false
set_option linter.unusedSimpArgs false
set_option maxRecDepth 10000
attribute [local go_sem] decide_true decide_false Nat.zero_le Bool.not_true Bool.not_false Bool.false_eq_true if_false if_true forall_const true_and and_true List.map Option.map Bool.and_self Bool.and_true Bool.true_and Bool.false_and Bool.and_false List.getElem?_cons_zero List.getElem?_nil List.getElem?_cons_succ Int.natCast_nonneg Int.toNat_natCast List.length_map List.length_cons List.length_nil Nat.zero_add Nat.le_refl List.drop_zero List.drop_succ_cons List.take_succ_cons List.take_zero List.take_nil ne_eq not_true_eq_false not_false_eq_true upd_same Nat.add_assoc Nat.left_eq_add Nat.add_eq_left Nat.add_left_cancel_iff Nat.succ_ne_self Nat.one_ne_zero Nat.add_zero Nat.le_add_right ite_self List.set_cons_zero List.set_cons_succ List.all_cons List.all_nil bne_self_eq_false List.isEmpty_cons Int.cast_ofNat_Int Nat.mul_one List.nil_append or_self or_true true_or List.cons_append List.append_nil Option.none_beq_some Option.some_beq_some beq_self_eq_true
theorem c191 : compF Tryz.prog ow Tryz.f191 = (some (9, ([(.t 2)], (.seq (.ops [(none, (.set 2 (.bool false)))]) (.seq (.ops [(none, (.cp 3 0)), (none, (.bin (some 4) .geq (.t 3) (.k (.int .u8 97)) false false)), (none, (.cp 5 4)), ((some (5, true)), (.cp 6 0)), ((some (5, true)), (.bin (some 7) .leq (.t 6) (.k (.int .u8 122)) false false)), (none, (.pick (some 8) (.t 5) (.t 7) (.k (.bool false)))), (none, (.mv 2 8))]) .ret))))) := by kernel_rfl
theorem c192 : compF Tryz.prog ow Tryz.f192 = (some (9, ([(.t 2)], (.seq (.ops [(none, (.set 2 (.bool false)))]) (.seq (.ops [(none, (.cp 3 0)), (none, (.bin (some 4) .geq (.t 3) (.k (.int .u8 65)) false false)), (none, (.cp 5 4)), ((some (5, true)), (.cp 6 0)), ((some (5, true)), (.bin (some 7) .leq (.t 6) (.k (.int .u8 90)) false false)), (none, (.pick (some 8) (.t 5) (.t 7) (.k (.bool false)))), (none, (.mv 2 8))]) .ret))))) := by kernel_rfl
theorem c193 : compF Tryz.prog ow Tryz.f193 = (some (9, ([(.t 2)], (.seq (.ops [(none, (.set 2 (.bool false)))]) (.seq (.ops [(none, (.cp 3 0)), (none, (.bin (some 4) .geq (.t 3) (.k (.int .u8 48)) false false)), (none, (.cp 5 4)), ((some (5, true)), (.cp 6 0)), ((some (5, true)), (.bin (some 7) .leq (.t 6) (.k (.int .u8 57)) false false)), (none, (.pick (some 8) (.t 5) (.t 7) (.k (.bool false)))), (none, (.mv 2 8))]) .ret))))) := by kernel_rfl
theorem c189 : compF Tryz.prog ow Tryz.f189 = (some (5, ([(.t 2)], (.seq (.ops [(none, (.set 2 (.bool false)))]) (.seq (.ops [(none, (.cp 3 0)), (none, (.bin (some 4) .neq (.t 3) (.k (.int .u8 10)) false false)), (none, (.mv 2 4))]) .ret))))) := by kernel_rfl
theorem c223 : compF Tryz.prog ow Tryz.f223 = (some (5, ([(.t 2)], (.seq (.ops [(none, (.set 2 (.bool false)))]) (.seq (.ops [(none, (.cp 3 0)), (none, (.bin (some 4) .eql (.t 3) (.k (.int .u8 45)) false false)), (none, (.mv 2 4))]) .ret))))) := by kernel_rfl
theorem c190 : compF Tryz.prog ow Tryz.f190 = (some (17, ([(.t 2)], (.seq (.ops [(none, (.set 2 (.bool false)))]) (.seq (.ops [(none, (.cp 3 0)), (none, (.call (some 4) (.k (.func 191 [] [])) [(.t 3)] none)), (none, (.cp 5 4)), ((some (5, false)), (.cp 6 0)), ((some (5, false)), (.call (some 7) (.k (.func 192 [] [])) [(.t 6)] none)), (none, (.pick (some 8) (.t 5) (.k (.bool true)) (.t 7))), (none, (.cp 9 8)), ((some (9, false)), (.cp 10 0)), ((some (9, false)), (.call (some 11) (.k (.func 193 [] [])) [(.t 10)] none)), (none, (.pick (some 12) (.t 9) (.k (.bool true)) (.t 11))), (none, (.cp 13 12)), ((some (13, false)), (.cp 14 0)), ((some (13, false)), (.bin (some 15) .eql (.t 14) (.k (.int .u8 95)) false false)), (none, (.pick (some 16) (.t 13) (.k (.bool true)) (.t 15))), (none, (.mv 2 16))]) .ret))))) := by kernel_rfl
theorem c188 : compF Tryz.prog ow Tryz.f188 = (some (20, ([(.t 4)], (.seq (.ops [(none, (.set 4 (.int .i64 0)))]) (.seq (.ops [(none, (.set 5 (.int .i64 0)))]) (.seq (.block 0 (.loop (.seq (.seq (.ops [(none, (.cp 6 5)), (none, (.cp 7 0)), (none, (.len (some 8) (.t 7) true false)), (none, (.bin (some 9) .lss (.t 6) (.t 8) false false)), (none, (.cp 10 9)), ((some (10, true)), (.cp 11 1)), ((some (10, true)), (.cp 12 0)), ((some (10, true)), (.cp 13 5)), ((some (10, true)), (.idx (some 14) (.t 12) (.t 13) true none)), ((some (10, true)), (.call (some 15) (.t 11) [(.t 14)] none)), (none, (.pick (some 16) (.t 10) (.t 15) (.k (.bool false))))]) (.cond (.t 16) .skip (.exit 0))) (.block 1 (.ops [(none, (.cp 17 5)), (none, (.bin (some 18) .add (.t 17) (.k (.int .i64 1)) false false)), (none, (.mv 5 18))]))))) (.seq (.ops [(none, (.mv 19 5)), (none, (.mv 4 19))]) .ret))))))) := by kernel_rfl
theorem c139 : compF Tryz.prog ow Tryz.f139 = (some (28, ([(.t 2)], (.seq (.ops [(none, (.set 2 (.int .i64 0)))]) (.seq (.ops [(none, (.set 3 (.int .i64 0)))]) (.seq (.block 0 (.loop (.seq (.seq (.ops [(none, (.cp 4 3)), (none, (.cp 5 0)), (none, (.len (some 6) (.t 5) true false)), (none, (.bin (some 7) .lss (.t 4) (.t 6) false false))]) (.cond (.t 7) .skip (.exit 0))) (.block 1 (.seq (.ops [(none, (.cp 8 0)), (none, (.cp 9 3)), (none, (.idx (some 10) (.t 8) (.t 9) true none))]) (.block 2 (.seq (.seq (.ops [(none, (.bin (some 13) .eql (.t 10) (.k (.int .u8 32)) false false)), (none, (.mv 12 13))]) (.cond (.t 12) .skip (.seq (.ops [(none, (.bin (some 14) .eql (.t 10) (.k (.int .u8 9)) false false)), (none, (.mv 12 14))]) (.cond (.t 12) .skip (.seq (.ops [(none, (.bin (some 15) .eql (.t 10) (.k (.int .u8 10)) false false)), (none, (.mv 12 15))]) (.cond (.t 12) .skip (.ops [(none, (.bin (some 16) .eql (.t 10) (.k (.int .u8 13)) false false)), (none, (.mv 12 16))]))))))) (.cond (.t 12) (.ops [(none, (.cp 17 3)), (none, (.bin (some 18) .add (.t 17) (.k (.int .i64 1)) false false)), (none, (.mv 3 18))]) (.seq (.ops [(none, (.bin (some 20) .eql (.t 10) (.k (.int .u8 37)) false false)), (none, (.mv 19 20))]) (.cond (.t 19) (.ops [(none, (.cp 21 3)), (none, (.cp 22 0)), (none, (.cp 23 3)), (none, (.sl (some 24) (.t 22) (some (.t 23)) none none true none)), (none, (.call (some 25) (.k (.func 188 [] [])) [(.t 24), (.k (.func 189 [] []))] none)), (none, (.bin (some 26) .add (.t 21) (.t 25) false false)), (none, (.mv 3 26))]) (.seq (.ops [(none, (.mv 11 3)), (none, (.mv 2 11))]) .ret))))))))))) (.seq (.ops [(none, (.mv 27 3)), (none, (.mv 2 27))]) .ret))))))) := by kernel_rfl
theorem c195 : compF Tryz.prog ow Tryz.f195 = (some (8, ([(.t 4)], (.seq (.ops [(none, (.set 4 (.bool false)))]) (.seq (.ops [(none, (.cp 5 0)), (none, (.cp 6 1)), (none, (.call (some 7) (.k (.func 224 [] [])) [(.t 5), (.t 6)] none)), (none, (.mv 4 7))]) .ret))))) := by kernel_rfl
theorem c224 : compF Tryz.prog ow Tryz.f224 = (some (18, ([(.t 4)], (.seq (.ops [(none, (.set 4 (.bool false)))]) (.seq (.ops [(none, (.cp 5 0)), (none, (.len (some 6) (.t 5) true false)), (none, (.cp 7 1)), (none, (.len (some 8) (.t 7) true false)), (none, (.bin (some 9) .geq (.t 6) (.t 8) false false)), (none, (.cp 10 9)), ((some (10, true)), (.cp 11 0)), ((some (10, true)), (.cp 12 1)), ((some (10, true)), (.len (some 13) (.t 12) true false)), ((some (10, true)), (.sl (some 14) (.t 11) none (some (.t 13)) none true none)), ((some (10, true)), (.cp 15 1)), ((some (10, true)), (.bin (some 16) .eql (.t 14) (.t 15) false false)), (none, (.pick (some 17) (.t 10) (.t 16) (.k (.bool false)))), (none, (.mv 4 17))]) .ret))))) := by kernel_rfl
theorem fnl_small (c : Int) : PFn Tryz.prog 191 [.int .u8 c] (.bool (inR 97 122 c)) := by
  intro h
  refine fnC mixed Tryz.func191 c191 (by simp) ?_
  unfold inR
  simp only [go_sem, Nat.reduceEqDiff, Nat.reduceAdd, Nat.reduceLeDiff, Nat.reduceLT, ↓reduceIte, reduceCtorEq, Int.reduceLT, Int.reduceToNat, Int.reduceEq, Int.reduceBEq, Int.reduceBNe, Nat.reduceBEq]
  refine cog (fun h1 => ?_) (fun h1 => ?_)
  · simp only [go_sem, Nat.reduceEqDiff, Nat.reduceAdd, Nat.reduceLeDiff, Nat.reduceLT, ↓reduceIte, reduceCtorEq, Int.reduceLT, Int.reduceToNat, Int.reduceEq, Int.reduceBEq, Int.reduceBNe, Nat.reduceBEq, h1]
  · simp only [go_sem, Nat.reduceEqDiff, Nat.reduceAdd, Nat.reduceLeDiff, Nat.reduceLT, ↓reduceIte, reduceCtorEq, Int.reduceLT, Int.reduceToNat, Int.reduceEq, Int.reduceBEq, Int.reduceBNe, Nat.reduceBEq, h1]
theorem fnl_great (c : Int) : PFn Tryz.prog 192 [.int .u8 c] (.bool (inR 65 90 c)) := by
  intro h
  refine fnC mixed Tryz.func192 c192 (by simp) ?_
  unfold inR
  simp only [go_sem, Nat.reduceEqDiff, Nat.reduceAdd, Nat.reduceLeDiff, Nat.reduceLT, ↓reduceIte, reduceCtorEq, Int.reduceLT, Int.reduceToNat, Int.reduceEq, Int.reduceBEq, Int.reduceBNe, Nat.reduceBEq]
  refine cog (fun h1 => ?_) (fun h1 => ?_)
  · simp only [go_sem, Nat.reduceEqDiff, Nat.reduceAdd, Nat.reduceLeDiff, Nat.reduceLT, ↓reduceIte, reduceCtorEq, Int.reduceLT, Int.reduceToNat, Int.reduceEq, Int.reduceBEq, Int.reduceBNe, Nat.reduceBEq, h1]
  · simp only [go_sem, Nat.reduceEqDiff, Nat.reduceAdd, Nat.reduceLeDiff, Nat.reduceLT, ↓reduceIte, reduceCtorEq, Int.reduceLT, Int.reduceToNat, Int.reduceEq, Int.reduceBEq, Int.reduceBNe, Nat.reduceBEq, h1]
theorem fnl_digit (c : Int) : PFn Tryz.prog 193 [.int .u8 c] (.bool (inR 48 57 c)) := by
  intro h
  refine fnC mixed Tryz.func193 c193 (by simp) ?_
  unfold inR
  simp only [go_sem, Nat.reduceEqDiff, Nat.reduceAdd, Nat.reduceLeDiff, Nat.reduceLT, ↓reduceIte, reduceCtorEq, Int.reduceLT, Int.reduceToNat, Int.reduceEq, Int.reduceBEq, Int.reduceBNe, Nat.reduceBEq]
  refine cog (fun h1 => ?_) (fun h1 => ?_)
  · simp only [go_sem, Nat.reduceEqDiff, Nat.reduceAdd, Nat.reduceLeDiff, Nat.reduceLT, ↓reduceIte, reduceCtorEq, Int.reduceLT, Int.reduceToNat, Int.reduceEq, Int.reduceBEq, Int.reduceBNe, Nat.reduceBEq, h1]
  · simp only [go_sem, Nat.reduceEqDiff, Nat.reduceAdd, Nat.reduceLeDiff, Nat.reduceLT, ↓reduceIte, reduceCtorEq, Int.reduceLT, Int.reduceToNat, Int.reduceEq, Int.reduceBEq, Int.reduceBNe, Nat.reduceBEq, h1]
theorem u8_eqb (c : UInt8) (k : Nat) (hk : k < 256) : (((c.toNat : Nat) : Int) == (k : Int)) = (c == UInt8.ofNat k) := by
  have h : c = UInt8.ofNat k ↔ c.toNat = k := by
    constructor
    · rintro rfl; simp; omega
    · intro e; rw [← e]; simp
  by_cases e : c.toNat = k
  · rw [h.2 e]; simp; omega
  · have e2 : ¬ c = UInt8.ofNat k := fun q => e (h.1 q)
    have e3 : (((c.toNat : Nat) : Int) == (k : Int)) = false := by simp; omega
    rw [e3]; simpa using e2
theorem fnl_rem (c : UInt8) : PFn Tryz.prog 189 [.int .u8 (c.toNat : Nat)] (.bool (c != 10)) := by
  intro h
  refine fnC mixed Tryz.func189 c189 (by simp) ?_
  have e : (((c.toNat : Nat) : Int) != 10) = (c != 10) := congrArg Bool.not (u8_eqb c 10 (by omega))
  simp only [go_sem, Nat.reduceEqDiff, Nat.reduceAdd, Nat.reduceLeDiff, Nat.reduceLT, ↓reduceIte, reduceCtorEq, Int.reduceLT, Int.reduceToNat, Int.reduceEq, Int.reduceBEq, Int.reduceBNe, Nat.reduceBEq, e]
theorem fnl_min (c : UInt8) : PFn Tryz.prog 223 [.int .u8 (c.toNat : Nat)] (.bool (c == 45)) := by
  intro h
  refine fnC mixed Tryz.func223 c223 (by simp) ?_
  have e : (((c.toNat : Nat) : Int) == 45) = (c == 45) := u8_eqb c 45 (by omega)
  simp only [go_sem, Nat.reduceEqDiff, Nat.reduceAdd, Nat.reduceLeDiff, Nat.reduceLT, ↓reduceIte, reduceCtorEq, Int.reduceLT, Int.reduceToNat, Int.reduceEq, Int.reduceBEq, Int.reduceBNe, Nat.reduceBEq, e]
theorem fnl_inner (c : UInt8) : PFn Tryz.prog 190 [.int .u8 (c.toNat : Nat)] (.bool (innB c)) := by
  intro h
  refine fnC mixed Tryz.func190 c190 (by simp) ?_
  have e : (((c.toNat : Nat) : Int) == 95) = (c == 95) := u8_eqb c 95 (by omega)
  have h1 := fnl_small (c.toNat : Nat)
  have h2 := fnl_great (c.toNat : Nat)
  have h3 := fnl_digit (c.toNat : Nat)
  unfold innB smaB greB digB
  generalize inR 97 122 (c.toNat : Nat) = b1 at *
  generalize inR 65 90 (c.toNat : Nat) = b2 at *
  generalize inR 48 57 (c.toNat : Nat) = b3 at *
  simp only [go_sem, Nat.reduceEqDiff, Nat.reduceAdd, Nat.reduceLeDiff, Nat.reduceLT, ↓reduceIte, reduceCtorEq, Int.reduceLT, Int.reduceToNat, Int.reduceEq, Int.reduceBEq, Int.reduceBNe, Nat.reduceBEq]
  refine pcall h1 (by simp only [go_sem, Nat.reduceEqDiff, Nat.reduceAdd, Nat.reduceLeDiff, Nat.reduceLT, ↓reduceIte, reduceCtorEq, Int.reduceLT, Int.reduceToNat, Int.reduceEq, Int.reduceBEq, Int.reduceBNe, Nat.reduceBEq]) ?_
  cases b1 with
  | true => simp only [go_sem, Nat.reduceEqDiff, Nat.reduceAdd, Nat.reduceLeDiff, Nat.reduceLT, ↓reduceIte, reduceCtorEq, Int.reduceLT, Int.reduceToNat, Int.reduceEq, Int.reduceBEq, Int.reduceBNe, Nat.reduceBEq, Bool.true_or, Bool.or_true, Bool.false_or]
  | false =>
    simp only [go_sem, Nat.reduceEqDiff, Nat.reduceAdd, Nat.reduceLeDiff, Nat.reduceLT, ↓reduceIte, reduceCtorEq, Int.reduceLT, Int.reduceToNat, Int.reduceEq, Int.reduceBEq, Int.reduceBNe, Nat.reduceBEq]
    refine pcall h2 (by simp only [go_sem, Nat.reduceEqDiff, Nat.reduceAdd, Nat.reduceLeDiff, Nat.reduceLT, ↓reduceIte, reduceCtorEq, Int.reduceLT, Int.reduceToNat, Int.reduceEq, Int.reduceBEq, Int.reduceBNe, Nat.reduceBEq]) ?_
    cases b2 with
    | true => simp only [go_sem, Nat.reduceEqDiff, Nat.reduceAdd, Nat.reduceLeDiff, Nat.reduceLT, ↓reduceIte, reduceCtorEq, Int.reduceLT, Int.reduceToNat, Int.reduceEq, Int.reduceBEq, Int.reduceBNe, Nat.reduceBEq, Bool.true_or, Bool.or_true, Bool.false_or]
    | false =>
      simp only [go_sem, Nat.reduceEqDiff, Nat.reduceAdd, Nat.reduceLeDiff, Nat.reduceLT, ↓reduceIte, reduceCtorEq, Int.reduceLT, Int.reduceToNat, Int.reduceEq, Int.reduceBEq, Int.reduceBNe, Nat.reduceBEq]
      refine pcall h3 (by simp only [go_sem, Nat.reduceEqDiff, Nat.reduceAdd, Nat.reduceLeDiff, Nat.reduceLT, ↓reduceIte, reduceCtorEq, Int.reduceLT, Int.reduceToNat, Int.reduceEq, Int.reduceBEq, Int.reduceBNe, Nat.reduceBEq]) ?_
      cases b3 with
      | true => simp only [go_sem, Nat.reduceEqDiff, Nat.reduceAdd, Nat.reduceLeDiff, Nat.reduceLT, ↓reduceIte, reduceCtorEq, Int.reduceLT, Int.reduceToNat, Int.reduceEq, Int.reduceBEq, Int.reduceBNe, Nat.reduceBEq, Bool.true_or, Bool.or_true, Bool.false_or]
      | false => simp only [go_sem, Nat.reduceEqDiff, Nat.reduceAdd, Nat.reduceLeDiff, Nat.reduceLT, ↓reduceIte, reduceCtorEq, Int.reduceLT, Int.reduceToNat, Int.reduceEq, Int.reduceBEq, Int.reduceBNe, Nat.reduceBEq, e, Bool.true_or, Bool.or_true, Bool.false_or]
theorem drop_cons {α : Type} {s : List α} {i : Nat} (hi : i < s.length) : s.drop i = s[i] :: s.drop (i + 1) := List.drop_eq_getElem_cons hi
theorem fnl_span (s : List UInt8) (f : FuncId) (p : UInt8 → Bool) (hf : ∀ c : UInt8, PFn Tryz.prog f [.int .u8 (c.toNat : Nat)] (.bool (p c))) (hs : s.length < 1000000000000000) : PFn Tryz.prog 188 [.str s, .func f [] []] (.int .i64 (spanN p s : Nat)) := by
  intro h
  refine fnC mixed Tryz.func188 c188 (by simp) ?_
  simp only [go_sem, Nat.reduceEqDiff, Nat.reduceAdd, Nat.reduceLeDiff, Nat.reduceLT, ↓reduceIte, reduceCtorEq, Int.reduceLT, Int.reduceToNat, Int.reduceEq, Int.reduceBEq, Int.reduceBNe, Nat.reduceBEq]
  refine cloop (fun k t => ∃ i : Nat, i + k = s.length ∧ t.fr 0 = .str s ∧ t.fr 1 = .func f [] [] ∧ t.fr 5 = .int .i64 (i : Nat) ∧ i + spanN p (s.drop i) = spanN p s ∧ t.hp = h) s.length ⟨0, by simp, by simp [fr_apply, argsF], by simp [fr_apply, argsF], by simp [fr_apply], by simp, rfl⟩ ?_
  rintro k ⟨F, hp⟩ ⟨i, hk, f0, f1, f5, he, rfl⟩
  simp only at f0 f1 f5
  by_cases hi : i < s.length
  · have hi' : decide ((i : Int) < (s.length : Int)) = true := decide_eq_true (by omega)
    have hw : IntKind.i64.wrap ((i : Int) + 1) = ((i + 1 : Nat) : Int) := by rw [wrap64] <;> omega
    have hx : s[i]? = some s[i] := List.getElem?_eq_getElem hi
    rw [drop_cons hi, spanN] at he
    generalize s[i] = c at hx he
    have hc := hf c
    simp only [go_sem, Nat.reduceEqDiff, Nat.reduceAdd, Nat.reduceLeDiff, Nat.reduceLT, ↓reduceIte, reduceCtorEq, Int.reduceLT, Int.reduceToNat, Int.reduceEq, Int.reduceBEq, Int.reduceBNe, Nat.reduceBEq, f0, f1, f5, hi', hx]
    refine pcall hc (by simp only [go_sem, Nat.reduceEqDiff, Nat.reduceAdd, Nat.reduceLeDiff, Nat.reduceLT, ↓reduceIte, reduceCtorEq, Int.reduceLT, Int.reduceToNat, Int.reduceEq, Int.reduceBEq, Int.reduceBNe, Nat.reduceBEq, f0, f1, f5]) ?_
    cases hp1 : p c with
    | true =>
      rw [hp1, if_pos rfl] at he
      simp only [go_sem, Nat.reduceEqDiff, Nat.reduceAdd, Nat.reduceLeDiff, Nat.reduceLT, ↓reduceIte, reduceCtorEq, Int.reduceLT, Int.reduceToNat, Int.reduceEq, Int.reduceBEq, Int.reduceBNe, Nat.reduceBEq, f0, f1, f5, hw]
      exact ⟨k - 1, by omega, i + 1, by omega, rfl, by omega⟩
    | false =>
      rw [hp1, if_neg (by simp)] at he
      simp only [go_sem, Nat.reduceEqDiff, Nat.reduceAdd, Nat.reduceLeDiff, Nat.reduceLT, ↓reduceIte, reduceCtorEq, Int.reduceLT, Int.reduceToNat, Int.reduceEq, Int.reduceBEq, Int.reduceBNe, Nat.reduceBEq, f0, f1, f5]
      have : spanN p s = i := by omega
      rw [this]
  · have hi' : decide ((i : Int) < (s.length : Int)) = false := decide_eq_false (by omega)
    rw [List.drop_eq_nil_of_le (by omega), spanN] at he
    simp only [go_sem, Nat.reduceEqDiff, Nat.reduceAdd, Nat.reduceLeDiff, Nat.reduceLT, ↓reduceIte, reduceCtorEq, Int.reduceLT, Int.reduceToNat, Int.reduceEq, Int.reduceBEq, Int.reduceBNe, Nat.reduceBEq, f0, f1, f5, hi']
    have : spanN p s = i := by omega
    rw [this]
end Go.Proofs.YtnibelnjflhkgaaGreatDoor.Ab
