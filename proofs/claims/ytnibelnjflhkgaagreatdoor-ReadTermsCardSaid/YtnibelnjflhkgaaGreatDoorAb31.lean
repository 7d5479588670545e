/- Runs worked out: an evaluator of short forms, for what is closed. No condition. -/
import Derived.Test.YtnibelnjflhkgaaGreatDoorAb25
namespace Go.Proofs.YtnibelnjflhkgaaGreatDoor.Ab
set_option linter.unusedVariables false
set_option linter.unusedSimpArgs false
open Go.RowKit

/-! Slots as a tree, eight bits deep. -/
inductive Tm | e | leaf (v : AV) | node (l r : Tm)
def Tm.get : Nat → Tm → Nat → AV
  | 0, .leaf v, _ => v
  | d + 1, .node l r, n => bif Nat.beq (n % 2) 0 then Tm.get d l (n / 2) else Tm.get d r (n / 2)
  | _, _, _ => .junk
def Tm.setK {α : Type} : Nat → Tm → Nat → AV → (Tm → α) → α
  | 0, _, _, v, k => k (.leaf v)
  | d + 1, .node l r, n, v, k => bif Nat.beq (n % 2) 0 then Tm.setK d l (n / 2) v (fun l' => k (.node l' r)) else Tm.setK d r (n / 2) v (fun r' => k (.node l r'))
  | d + 1, _, n, v, k => bif Nat.beq (n % 2) 0 then Tm.setK d .e (n / 2) v (fun l' => k (.node l' .e)) else Tm.setK d .e (n / 2) v (fun r' => k (.node .e r'))
def Tm.set (d : Nat) (t : Tm) (n : Nat) (v : AV) : Tm := Tm.setK d t n v id
theorem Tm.setK_eq {α : Type} : ∀ (d : Nat) (t : Tm) (n : Nat) (v : AV) (k : Tm → α), Tm.setK d t n v k = k (Tm.set d t n v)
  | 0, t, n, v, k => rfl
  | d + 1, t, n, v, k => by
    cases t <;> simp only [Tm.setK, Tm.set] <;> (cases Nat.beq (n % 2) 0 <;> simp only [cond_true, cond_false] <;> rw [Tm.setK_eq d, Tm.setK_eq d _ _ _ (fun _ => id _)] <;> rfl)
def Tm.lt : Tm → Tm | .node l _ => l | _ => .e
def Tm.rt : Tm → Tm | .node _ r => r | _ => .e
theorem Tm.get_e (d m : Nat) : Tm.get d .e m = .junk := by cases d <;> rfl
theorem Tm.get_s (d : Nat) (t : Tm) (n : Nat) : Tm.get (d + 1) t n = bif Nat.beq (n % 2) 0 then Tm.get d t.lt (n / 2) else Tm.get d t.rt (n / 2) := by
  cases t with
  | node l r => rfl
  | e => simp only [Tm.get, Tm.lt, Tm.rt, Tm.get_e, Bool.cond_self]
  | leaf v => simp only [Tm.get, Tm.lt, Tm.rt, Tm.get_e, Bool.cond_self]
theorem Tm.set_s (d : Nat) (t : Tm) (n : Nat) (v : AV) : Tm.set (d + 1) t n v = bif Nat.beq (n % 2) 0 then .node (Tm.set d t.lt (n / 2) v) t.rt else .node t.lt (Tm.set d t.rt (n / 2) v) := by
  cases t <;> simp only [Tm.set, Tm.setK] <;> cases Nat.beq (n % 2) 0 <;> simp only [cond_true, cond_false] <;> rw [Tm.setK_eq d] <;> rfl
theorem Tm.get_set : ∀ (d : Nat) (t : Tm) (n i : Nat) (v : AV), n < 2 ^ d → i < 2 ^ d → Tm.get d (Tm.set d t n v) i = if i = n then v else Tm.get d t i
  | 0, t, n, i, v, hn, hi => by
    have h1 : n = 0 := by simpa using hn
    have h2 : i = 0 := by simpa using hi
    subst h1; subst h2; simp [Tm.set, Tm.setK, Tm.get]
  | d + 1, t, n, i, v, hn, hi => by
    have hn2 : n / 2 < 2 ^ d := by rw [Nat.pow_succ] at hn; omega
    have hi2 : i / 2 < 2 ^ d := by rw [Nat.pow_succ] at hi; omega
    have key : i = n ↔ (i % 2 = n % 2 ∧ i / 2 = n / 2) := ⟨fun h => by subst h; exact ⟨rfl, rfl⟩, fun ⟨h1, h2⟩ => by omega⟩
    rw [Tm.get_s, Tm.get_s, Tm.set_s]
    cases hb : Nat.beq (n % 2) 0 with
    | true =>
      have hn0 : n % 2 = 0 := Nat.eq_of_beq_eq_true hb
      cases hc : Nat.beq (i % 2) 0 with
      | true =>
        have hi0 : i % 2 = 0 := Nat.eq_of_beq_eq_true hc
        simp only [cond_true, Tm.lt]
        rw [Tm.get_set d _ _ _ _ hn2 hi2]
        by_cases h : i / 2 = n / 2
        · rw [if_pos h, if_pos (key.2 ⟨by omega, h⟩)]
        · rw [if_neg h, if_neg (fun e => h (key.1 e).2)]
      | false =>
        have hi0 : i % 2 ≠ 0 := fun e => by rw [e] at hc; cases hc
        simp only [cond_true, cond_false, Tm.rt]
        rw [if_neg (fun e => hi0 (by rw [(key.1 e).1]; exact hn0))]
    | false =>
      have hn0 : n % 2 ≠ 0 := fun e => by rw [e] at hb; cases hb
      cases hc : Nat.beq (i % 2) 0 with
      | true =>
        have hi0 : i % 2 = 0 := Nat.eq_of_beq_eq_true hc
        simp only [cond_true, cond_false, Tm.lt]
        rw [if_neg (fun e => hn0 (by rw [← (key.1 e).1]; exact hi0))]
      | false =>
        have hi0 : i % 2 ≠ 0 := fun e => by rw [e] at hc; cases hc
        simp only [cond_false, Tm.rt]
        rw [Tm.get_set d _ _ _ _ hn2 hi2]
        by_cases h : i / 2 = n / 2
        · rw [if_pos h, if_pos (key.2 ⟨by omega, h⟩)]
        · rw [if_neg h, if_neg (fun e => h (key.1 e).2)]

/-! Values worked out as far as their heads, so that no work is put off. -/
def fN {α : Type} (n : Nat) (k : Nat → α) : α := match n with | 0 => k 0 | m + 1 => k (m + 1)
def fI {α : Type} (n : Int) (k : Int → α) : α := match n with | .ofNat m => fN m fun m => k (.ofNat m) | .negSucc m => fN m fun m => k (.negSucc m)
def fL {α β : Type} : List β → (List β → α) → α
  | [], k => k []
  | x :: xs, k => fL xs fun xs' => k (x :: xs')
def fFl {α : Type} (fl : Fl) (k : Fl → α) : α := match fl with | .sh => k .sh | .full => k .full | .own => k .own
def fH {α : Type} (a : AV) (k : AV → α) : α :=
  match a with
  | .int t n => fI n fun n => k (.int t n)
  | .bool b => match b with | true => k (.bool true) | false => k (.bool false)
  | .ptr l o => fN l fun l => fN o fun o => k (.ptr l o)
  | a => k a
def fLA {α : Type} : List AV → (List AV → α) → α
  | [], k => k []
  | x :: xs, k => fH x fun x => fLA xs fun xs' => k (x :: xs')
def fA {α : Type} (a : AV) (k : AV → α) : α :=
  match a with
  | .int t n => fI n fun n => k (.int t n)
  | .bool b => match b with | true => k (.bool true) | false => k (.bool false)
  | .str l => fL l fun l => k (.str l)
  | .sl fl sz xs => fFl fl fun fl => fLA xs fun xs => k (.sl fl sz xs)
  | .agg cs => fLA cs fun cs => k (.agg cs)
  | .tup cs => fLA cs fun cs => k (.tup cs)
  | .eptr cs => fLA cs fun cs => k (.eptr cs)
  | .ptr l o => fN l fun l => fN o fun o => k (.ptr l o)
  | a => k a
theorem fN_eq {α : Type} (n : Nat) (k : Nat → α) : fN n k = k n := by cases n <;> rfl
theorem fI_eq {α : Type} (n : Int) (k : Int → α) : fI n k = k n := by cases n <;> simp [fI, fN_eq]
theorem fL_eq {α β : Type} : ∀ (l : List β) (k : List β → α), fL l k = k l
  | [], k => rfl
  | x :: xs, k => fL_eq xs _
theorem fFl_eq {α : Type} (fl : Fl) (k : Fl → α) : fFl fl k = k fl := by cases fl <;> rfl
theorem fH_eq {α : Type} (a : AV) (k : AV → α) : fH a k = k a := by
  cases a <;> simp only [fH, fI_eq, fN_eq]
  rename_i b; cases b <;> rfl
theorem fLA_eq {α : Type} : ∀ (l : List AV) (k : List AV → α), fLA l k = k l
  | [], k => rfl
  | x :: xs, k => by simp only [fLA, fH_eq, fLA_eq xs]
theorem fA_eq {α : Type} (a : AV) (k : AV → α) : fA a k = k a := by
  cases a <;> simp only [fA, fI_eq, fN_eq, fL_eq, fLA_eq, fFl_eq]
  rename_i b; cases b <;> rfl

/-! States. 'd': the blocks that were written since the function began. -/
structure ESt where
  r : Tm
  h : List Blk
  d : List Nat
def hpOf (h : List Blk) : Hp := ⟨h.length, fun l => h.getD l (.cells [])⟩
def frOf (r : Tm) : Nat → AV := fun i => bif Nat.blt i 256 then Tm.get 8 r i else .junk
def ESt.abs (e : ESt) : ASt := ⟨frOf e.r, hpOf e.h⟩
theorem frOf_set (r : Tm) (d : Nat) (v : AV) (hd : d < 256) : frOf (Tm.set 8 r d v) = upd (frOf r) d v := by
  funext i
  simp only [frOf, upd]
  by_cases hi : i < 256
  · have hb : Nat.blt i 256 = true := by simpa [Nat.blt_eq] using hi
    rw [hb]; simp only [cond_true]
    exact Tm.get_set 8 r d i v hd hi
  · have hb : Nat.blt i 256 = false := by
      cases h : Nat.blt i 256 with
      | false => rfl
      | true => exact absurd (by simpa [Nat.blt_eq] using h) hi
    rw [hb]; simp only [cond_false]
    rw [if_neg (by omega)]

/-- The slots that an operation may write. -/
def touchS (ci : CI) : List Nat :=
  match ci with
  | .mv d t => [t, d]
  | .app d (.t t) _ _ _ _ _ => [t, d]
  | .st _ (.t t) _ => [t]
  | ci => (dstC ci).toList
/-- The block that it may write. -/
def touchL (s : ASt) (ci : CI) : Option Nat :=
  match ci with
  | .st a _ _ => match evC s a with | .ptr l _ => some l | _ => none
  | .ldT _ x _ => match evC s x with | .ptr l _ => some l | _ => none
  | .x _ (.mup _) (m :: _) => match evC s m with | .mp l => some l | _ => none
  | _ => none
theorem stepC_slots {s s' : ASt} {ci : CI} (h : stepC s ci = some s') (i : Nat) (hi : i ∉ touchS ci) : s'.fr i = s.fr i := by
  cases ci
  case nop => simp only [stepC, Option.some.injEq] at h; subst h; rfl
  case cp d t => simp only [stepC, Option.some.injEq] at h; subst h; simp [touchS, dstC] at hi; simp [upd, hi]
  case mv d t =>
    simp only [touchS, List.mem_cons, List.not_mem_nil, or_false, not_or] at hi
    simp only [stepC] at h; split at h <;> (simp only [Option.some.injEq] at h; subst h; simp [upd, hi])
  case set d a => simp only [stepC, Option.some.injEq] at h; subst h; simp [touchS, dstC] at hi; simp [upd, hi]
  case ldT d x el =>
    simp [touchS, dstC] at hi
    simp only [stepC] at h
    split at h
    · simp only [Option.some.injEq] at h; subst h; simp [upd, hi]
    · split at h
      · simp only [Option.some.injEq] at h; subst h; simp [upd, hi]
      · cases h
  case st a x n =>
    simp only [stepC] at h
    split at h
    · split at h
      · split at h
        · split at h
          · rename_i t' ht
            simp only [Option.some.injEq] at h; subst h
            have : i ≠ t' := by
              cases x with
              | t q =>
                simp only [touchS, List.mem_cons, List.not_mem_nil, or_false] at hi
                simp only [ownV?] at ht
                split at ht
                · cases ht; exact hi
                · cases ht
              | k q => simp [ownV?] at ht
            simp [upd, this]
          · simp only [Option.some.injEq] at h; subst h; rfl
        · cases h
      · cases h
    · cases h
  case alloc d zs => simp only [stepC, Option.some.injEq] at h; subst h; simp [touchS, dstC] at hi; simp [upd, hi]
  case box d x =>
    simp only [stepC] at h
    split at h
    · simp only [Option.some.injEq] at h; subst h; simp [touchS, dstC] at hi; simp [upd, hi]
    · cases h
  case bs d n xs =>
    simp only [stepC] at h
    split at h
    · simp only [Option.some.injEq] at h; subst h; simp [touchS, dstC] at hi; simp [upd, hi]
    · cases h
  case app d x y n by_ okl oks =>
    simp only [stepC] at h
    split at h
    · split at h
      · simp only [Option.some.injEq] at h; subst h
        cases x with
        | t q =>
          simp only [touchS, List.mem_cons, List.not_mem_nil, or_false, not_or] at hi
          simp [appC, upd, hi]
        | k q => simp [touchS, dstC] at hi; simp [appC, upd, hi]
      · cases h
    · cases h
  case call d f xs j => simp [stepC, pevC] at h
  case x d k xs =>
    simp only [stepC] at h
    split at h
    · simp only [Option.some.injEq] at h; subst h
      rw [put_mk]
      split
      · rename_i e; simp only [touchS, dstC, ← e] at hi; simp at hi
      · rfl
    · cases h
  all_goals
    simp only [stepC] at h
    split at h
    · rename_i d r hpv
      simp only [Option.some.injEq] at h; subst h
      simp only [pevC, Option.some.injEq, Prod.mk.injEq] at hpv
      obtain ⟨rfl, _⟩ := hpv
      rw [put_fr]
      split
      · rename_i e; simp only [touchS, dstC, ← e] at hi; simp at hi
      · rfl
    · cases h
theorem stepC_heap {s s' : ASt} {ci : CI} (h : stepC s ci = some s') : (s'.hp = s.hp ∧ ∀ l, touchL s ci ≠ some l ∨ True) ∨ (∃ b, s'.hp = s.hp.push b) ∨ (∃ l b, touchL s ci = some l ∧ s'.hp = s.hp.set l b) := by
  cases ci
  case nop => simp only [stepC, Option.some.injEq] at h; subst h; exact .inl ⟨rfl, fun _ => .inr trivial⟩
  case cp d t => simp only [stepC, Option.some.injEq] at h; subst h; exact .inl ⟨rfl, fun _ => .inr trivial⟩
  case mv d t => simp only [stepC] at h; split at h <;> (simp only [Option.some.injEq] at h; subst h; exact .inl ⟨rfl, fun _ => .inr trivial⟩)
  case set d a => simp only [stepC, Option.some.injEq] at h; subst h; exact .inl ⟨rfl, fun _ => .inr trivial⟩
  case ldT d x el =>
    simp only [stepC] at h
    split at h
    · rename_i l j a cs hc
      simp only [Option.some.injEq] at h; subst h
      refine .inr (.inr ⟨l, _, ?_, rfl⟩)
      simp only [touchL]
      generalize evC s x = q at hc
      cases q <;> simp only [ownCell, reduceCtorEq] at hc
      split at hc
      · split at hc
        · split at hc
          · simp only [Option.some.injEq, Prod.mk.injEq] at hc; simp [hc.1]
          · cases hc
        · cases hc
      · cases hc
    · split at h
      · simp only [Option.some.injEq] at h; subst h; exact .inl ⟨rfl, fun _ => .inr trivial⟩
      · cases h
  case st a x n =>
    simp only [stepC] at h
    split at h
    · rename_i l o he
      split at h
      · split at h
        · split at h
          · simp only [Option.some.injEq] at h; subst h; exact .inr (.inr ⟨l, _, by simp [touchL, he], rfl⟩)
          · simp only [Option.some.injEq] at h; subst h; exact .inr (.inr ⟨l, _, by simp [touchL, he], rfl⟩)
        · cases h
      · cases h
    · cases h
  case alloc d zs => simp only [stepC, Option.some.injEq] at h; subst h; exact .inr (.inl ⟨_, rfl⟩)
  case box d x =>
    simp only [stepC] at h
    split at h
    · simp only [Option.some.injEq] at h; subst h; exact .inr (.inl ⟨_, rfl⟩)
    · cases h
  case bs d n xs =>
    simp only [stepC] at h
    split at h
    · simp only [Option.some.injEq] at h; subst h; exact .inl ⟨rfl, fun _ => .inr trivial⟩
    · cases h
  case app d x y n by_ okl oks =>
    simp only [stepC] at h
    split at h
    · split at h
      · simp only [Option.some.injEq] at h; subst h
        cases x <;> exact .inl ⟨rfl, fun _ => .inr trivial⟩
      · cases h
    · cases h
  case call d f xs j => simp [stepC, pevC] at h
  case x d k xs =>
    simp only [stepC] at h
    split at h
    · rename_i r h' he
      simp only [Option.some.injEq] at h; subst h
      rw [put_hp]
      by_cases hc : clsX k = 2
      · generalize hys : xs.map (evC s) = ys at he
        unfold evX at he
        split at he <;> simp only [clsX, reduceCtorEq, Nat.reduceEqDiff] at hc
        · simp only [Option.some.injEq, Prod.mk.injEq] at he; exact .inr (.inl ⟨_, he.2.symm⟩)
        · rename_i st l kk v
          have htl : touchL s (.x d (.mup st) xs) = some l := by
            cases xs with
            | nil => cases hys
            | cons m ms => simp only [List.map_cons, List.cons.injEq] at hys; simp only [touchL, hys.1]
          split at he
          · split at he
            · split at he
              · simp only [Option.some.injEq, Prod.mk.injEq] at he; exact .inr (.inr ⟨l, _, htl, he.2.symm⟩)
              · simp only [Option.some.injEq, Prod.mk.injEq] at he; exact .inr (.inr ⟨l, _, htl, he.2.symm⟩)
              · cases he
            · cases he
          · cases he
        · split at he
          · simp only [Option.some.injEq, Prod.mk.injEq] at he; exact .inr (.inl ⟨_, he.2.symm⟩)
          · cases he
        · split at he
          · simp only [Option.some.injEq, Prod.mk.injEq] at he; exact .inr (.inl ⟨_, he.2.symm⟩)
          · cases he
        · cases he
      · exact .inl ⟨evX_hp hc he, fun _ => .inr trivial⟩
    · cases h
  all_goals
    simp only [stepC] at h
    split at h
    · simp only [Option.some.injEq] at h; subst h; exact .inl ⟨put_hp _ _ _, fun _ => .inr trivial⟩
    · cases h
end Go.Proofs.YtnibelnjflhkgaaGreatDoor.Ab
