/- TermTells: its pure law. Plain; no condition beyond the sizes. -/
import Derived.Test.YthaoooohomfkcaaEvLib
import Derived.Test.YthaoooohomfkcaaTmMay2
import Derived.Test.YthaoooohomfkcaaTmNames0
import Derived.Test.YthaoooohomfkcaaA3
import Derived.Test.YthaoooohomfkcaaA4
import Derived.Test.YthaoooohomfkcaaC10
import Derived.Test.YthaoooohomfkcaaC8
import Derived.Test.YthaoooohomfkcaaC7
import Derived.Test.YthaoooohomfkcaaTmRNames0
import Derived.Test.YthaoooohomfkcaaC9
import Derived.Sort.Walk0
import Derived.Test.YthaoooohomfkcaaC11
import Derived.Test.YthaoooohomfkcaaTTermTells
namespace Go.Proofs.Ythaoooohomfkcaa.A
open Go Go.RowKit
open Go.Proofs.YthaoooohomfkcaaW.PrintWords Go.Proofs.YthaoooohomfkcaaW.PrintLast Go.Proofs.YthaoooohomfkcaaW.PrintMore Go.Proofs.Ythaoooohomfkcaa.EvLib
set_option linter.unusedVariables false
set_option linter.unusedSimpArgs false
open List renaming length_append → LA, length_cons → LC

inductive Ok : S31 → Prop
 | mk (x : S31) (h : x.f3.length ≤ 2513169434900) (k : ∀ y, y ∈ x.f3 → Ok y) : Ok x
theorem Ok.len {x : S31} (h : Ok x) : x.f3.length ≤ 2513169434900 := by cases h; assumption
theorem Ok.sub {x y : S31} (h : Ok x) (hy : y ∈ x.f3) : Ok y := by
 cases h with
 | mk _ h k => exact k y hy
theorem rdT_mid (p t : List S31) (x : S31) : rd_T31 (p ++ x :: t) (p.length : Int) = x := by
 unfold rd_T31
 rw [List.getD_eq_getElem?_getD, Int.toNat_natCast, List.getElem?_append_right (Nat.le_refl _)]
 simp
theorem rdS_mid (p t : List ByteArray) (x : ByteArray) : rdOf ByteArray.empty (p ++ x :: t) (p.length : Int) = x := by
 unfold rdOf
 rw [List.getD_eq_getElem?_getD, Int.toNat_natCast, List.getElem?_append_right (Nat.le_refl _)]
 simp
mutual
def szT : S31 → Int
 | ⟨_, _, _, l⟩ => 1 + szL l
def szL : List S31 → Int
 | [] => 0
 | x :: l => szT x + szL l
end
mutual
def deT : S31 → Int
 | ⟨_, _, _, l⟩ => deL 0 l + 1
def deL : Int → List S31 → Int
 | a, [] => a
 | a, x :: l => deL (mx a (deT x)) l
end
theorem szT_eq (x : S31) : szT x = 1 + szL x.f3 := by obtain ⟨a, b, c, d⟩ := x; rw [szT]
theorem deT_eq (x : S31) : deT x = deL 0 x.f3 + 1 := by obtain ⟨a, b, c, d⟩ := x; rw [deT]
theorem szT_pos : ∀ x : S31, 1 ≤ szT x := by
 intro x
 induction x using S31.ind with
 | h x ih =>
  rw [szT_eq]
  have : ∀ l : List S31, (∀ y, y ∈ l → 1 ≤ szT y) → 0 ≤ szL l := by
   intro l
   induction l with
   | nil => intro _; simp [szL]
   | cons y l ih2 => intro h; rw [szL]; have := h y (List.mem_cons_self); have := ih2 (fun z hz => h z (List.mem_cons_of_mem _ hz)); omega
  have := this x.f3 ih
  omega
theorem szL_pos : ∀ l : List S31, 0 ≤ szL l := by
 intro l
 induction l with
 | nil => simp [szL]
 | cons y l ih => rw [szL]; have := szT_pos y; omega
theorem mx_le {a b c : Int} (h1 : a ≤ c) (h2 : b ≤ c) : mx a b ≤ c := by unfold mx; split <;> omega
theorem le_mx {a b : Int} : a ≤ mx a b ∧ b ≤ mx a b := by unfold mx; split <;> omega
theorem deL_le : ∀ (l : List S31) (a c : Int), a ≤ c → (∀ y, y ∈ l → deT y ≤ c) → deL a l ≤ c := by
 intro l
 induction l with
 | nil => intro a c h _; simpa [deL] using h
 | cons y l ih => intro a c h hy; rw [deL]; exact ih _ _ (mx_le h (hy y (List.mem_cons_self))) (fun z hz => hy z (List.mem_cons_of_mem _ hz))
theorem deL_ge : ∀ (l : List S31) (a : Int), a ≤ deL a l ∧ ∀ y, y ∈ l → deT y ≤ deL a l := by
 intro l
 induction l with
 | nil => intro a; simp [deL]
 | cons y l ih =>
  intro a
  rw [deL]
  obtain ⟨h1, h2⟩ := ih (mx a (deT y))
  have := le_mx (a := a) (b := deT y)
  exact ⟨by omega, fun z hz => by
   rcases List.mem_cons.1 hz with rfl | hz
   ·
    omega
   ·
    exact h2 z hz⟩
def valid : Nat → S31 → Bool
 | 0, _ => false
 | d + 1, x =>
  if x.f0 = 1 then varB x.f1 && (decide (x.f2 = 0) && decide (x.f3.length = 0))
  else if x.f0 = 2 then numB x.f2 && (decide (x.f1.toList = []) && decide (x.f3.length = 0))
  else if x.f0 = 3 then (nameB x.f1 && (decide (x.f2 = 0) && decide (x.f3.length ≤ 4))) && x.f3.all (valid d)
  else false
theorem all_val (d : Nat) (ih : ∀ (l : Int) (x : S31), 0 ≤ l → (mayF d l x).1 = (valid d x && decide (szT x ≤ l)) ∧ ((mayF d l x).1 = true → (mayF d l x).2 = l - szT x)) :
  ∀ (xs : List S31) (l : Int), 0 ≤ l → (allF (mayF d) l xs).1 = (xs.all (valid d) && decide (szL xs ≤ l)) ∧ ((allF (mayF d) l xs).1 = true → (allF (mayF d) l xs).2 = l - szL xs) := by
 intro xs
 induction xs with
 | nil => intro l h; simp [allF, szL, h]
 | cons x xs ih2 =>
  intro l h
  obtain ⟨h1, h2⟩ := ih l x h
  simp only [allF]
  have hp := szL_pos xs
  by_cases hm : (mayF d l x).1 = true
  ·
   rw [if_pos hm, h2 hm]
   rw [hm] at h1
   have h1' := h1.symm
   simp only [Bool.and_eq_true, decide_eq_true_eq] at h1'
   obtain ⟨h3, h4⟩ := ih2 (l - szT x) (by omega)
   rw [h3]
   refine ⟨?_, fun hh => ?_⟩
   ·
    rw [List.all_cons, h1'.1, Bool.true_and, szL]
    congr 1
    exact decide_eq_decide.2 (by omega)
   ·
    rw [h4 (by rw [h3]; exact hh), szL]; omega
  ·
   rw [if_neg hm]
   refine ⟨?_, fun hh => by simp at hh⟩
   have hm' : (mayF d l x).1 = false := by simpa using hm
   rw [hm'] at h1
   rw [List.all_cons, szL]
   cases hv : valid d x with
   | false => simp
   | true =>
    rw [hv] at h1
    simp only [Bool.true_and] at h1
    have : ¬ szT x ≤ l := of_decide_eq_false h1.symm
    rw [decide_eq_false (show ¬ szT x + szL xs ≤ l by omega)]
    simp
theorem may_val : ∀ (d : Nat) (l : Int) (x : S31), 0 ≤ l → (mayF d l x).1 = (valid d x && decide (szT x ≤ l)) ∧ ((mayF d l x).1 = true → (mayF d l x).2 = l - szT x) := by
 intro d
 induction d with
 | zero => intro l x h; simp [mayF, valid]
 | succ d ih =>
  intro l x h
  have hs := szT_eq x
  have hp := szL_pos x.f3
  have z0 : x.f3.length = 0 → szL x.f3 = 0 := fun e => by rw [List.eq_nil_of_length_eq_zero e]; simp [szL]
  simp only [mayF, valid]
  by_cases h1 : l - 1 < 0
  ·
   rw [if_pos h1]
   refine ⟨?_, fun e => by simp at e⟩
   rw [decide_eq_false (show ¬ szT x ≤ l by omega)]; simp
  ·
   rw [if_neg h1]
   by_cases k1 : x.f0 = 1
   ·
    rw [if_pos k1, if_pos k1]
    have hb : ∀ b : Bool, (b && (decide (x.f2 = 0) && decide (x.f3.length = 0))) = true → szT x = 1 := fun b hb => by
     simp only [Bool.and_eq_true, decide_eq_true_eq] at hb
     have := z0 hb.2.2; omega
    refine ⟨?_, fun hh => by have := hb _ hh; simp only []; omega⟩
    simp only []
    cases hv : (varB x.f1 && (decide (x.f2 = 0) && decide (x.f3.length = 0))) with
    | false => simp
    | true => have := hb _ hv; rw [decide_eq_true (show szT x ≤ l by omega)]; rfl
   rw [if_neg k1, if_neg k1]
   by_cases k2 : x.f0 = 2
   ·
    rw [if_pos k2, if_pos k2]
    have hb : ∀ b c : Bool, (b && (c && decide (x.f3.length = 0))) = true → szT x = 1 := fun b c hb => by
     simp only [Bool.and_eq_true, decide_eq_true_eq] at hb
     have := z0 hb.2.2; omega
    refine ⟨?_, fun hh => by have := hb _ _ hh; simp only []; omega⟩
    simp only []
    cases hv : (numB x.f2 && (decide (x.f1.toList = []) && decide (x.f3.length = 0))) with
    | false => simp
    | true => have := hb _ _ hv; rw [decide_eq_true (show szT x ≤ l by omega)]; rfl
   rw [if_neg k2, if_neg k2]
   by_cases k3 : x.f0 = 3
   ·
    rw [if_pos k3, if_pos k3]
    cases hc : (nameB x.f1 && (decide (x.f2 = 0) && decide (x.f3.length ≤ 4))) with
    | false => simp
    | true =>
     rw [if_pos rfl]
     obtain ⟨a1, a2⟩ := all_val d ih x.f3 (l - 1) (by omega)
     refine ⟨?_, fun hh => by rw [a2 hh]; omega⟩
     rw [a1]
     simp only [Bool.true_and]
     congr 1
     exact decide_eq_decide.2 (by omega)
   ·
    rw [if_neg k3, if_neg k3]; simp
theorem mayB_eq (x : S31) : mayB x = (valid 5 x && decide (szT x ≤ 24)) := (may_val 5 24 x (by omega)).1
theorem valid_len {d : Nat} {x : S31} (h : valid (d + 1) x = true) : x.f3.length ≤ 4 ∧ ∀ y, y ∈ x.f3 → valid d y = true := by
 simp only [valid] at h
 have z : x.f3.length = 0 → x.f3.length ≤ 4 ∧ ∀ y, y ∈ x.f3 → valid d y = true := fun e => ⟨by omega, fun y hy => by rw [List.eq_nil_of_length_eq_zero e] at hy; simp at hy⟩
 by_cases k1 : x.f0 = 1
 ·
  rw [if_pos k1] at h; simp only [Bool.and_eq_true, decide_eq_true_eq] at h; exact z h.2.2
 rw [if_neg k1] at h
 by_cases k2 : x.f0 = 2
 ·
  rw [if_pos k2] at h; simp only [Bool.and_eq_true, decide_eq_true_eq] at h; exact z h.2.2
 rw [if_neg k2] at h
 by_cases k3 : x.f0 = 3
 ·
  rw [if_pos k3] at h
  simp only [Bool.and_eq_true, decide_eq_true_eq, List.all_eq_true] at h
  exact ⟨h.1.2.2, h.2⟩
 ·
  rw [if_neg k3] at h; simp at h
theorem valid_deep : ∀ (d : Nat) (x : S31), valid d x = true → deT x ≤ d ∧ 1 ≤ deT x := by
 intro d
 induction d with
 | zero => intro x h; simp [valid] at h
 | succ d ih =>
  intro x h
  obtain ⟨_, h2⟩ := valid_len h
  rw [deT_eq]
  have := deL_le x.f3 0 (d : Int) (by omega) (fun y hy => (ih y (h2 y hy)).1)
  have := (deL_ge x.f3 0).1
  omega
end Go.Proofs.Ythaoooohomfkcaa.A

namespace Go.Proofs.Ythaoooohomfkcaa.C
open Go Go.RowKit
open Go.Proofs.YthaoooohomfkcaaW.PrintWords Go.Proofs.YthaoooohomfkcaaW.PrintLast Go.Proofs.YthaoooohomfkcaaW.PrintMore Go.Proofs.Ythaoooohomfkcaa.EvLib Go.Proofs.Ythaoooohomfkcaa.A
set_option linter.unusedVariables false
set_option linter.unusedSimpArgs false
open List renaming length_append → LA, length_cons → LC

theorem wrap_len {p : Nat} (h : p ≤ 2513169434900) : wrap64 ((p : Int) + 1) = ((p + 1 : Nat) : Int) := by unfold wrap64; omega
theorem copy_l (n : Nat) : ∀ (t p acc : List S31), (∀ y, y ∈ t → Ev (fun k => almagestref0_CopyTerm.f k y.f0 y.f1 y.f2 y.f3) (y.f0, y.f1, y.f2, y.f3)) → acc = p → (p ++ t).length ≤ 2513169434900 →
  Ev (fun k => almagestref0_CopyTerms.l0 k (p ++ t) acc (p.length : Int)) (p ++ t) := by
 intro t
 induction t with
 | nil =>
  rintro p acc _ rfl hl
  refine Ev.step (fun k => rfl) (Ev.ite_neg (by simp) ?_)
  simpa using Ev.now acc
 | cons y t ih =>
  rintro p acc hy rfl hl
  have hl' := hl
  simp only [LA, LC] at hl'
  refine Ev.step (fun k => rfl) (Ev.ite_pos (by simp only [LA, LC]; omega) (Ev.ite_pos (by omega) ?_))
  simp only [rdT_mid]
  refine Ev.bind (hy y (List.mem_cons_self)) (Ev.ite_pos (by omega) ?_)
  have := ih (acc ++ [y]) (acc ++ [y]) (fun z hz => hy z (List.mem_cons_of_mem _ hz)) rfl (by simpa using hl)
  rw [wrap_len (by omega)]
  have h2 : Ev (fun k => almagestref0_CopyTerms.l0 k (acc ++ y :: t) (acc ++ [y]) ((acc.length + 1 : Nat) : Int)) (acc ++ y :: t) := by simpa using this
  have e : (⟨y.f0, y.f1, y.f2, y.f3⟩ : S31) = y := by cases y; rfl
  simp only [e]
  exact h2
theorem copy_ev : ∀ x : S31, Ok x → Ev (fun k => almagestref0_CopyTerm.f k x.f0 x.f1 x.f2 x.f3) (x.f0, x.f1, x.f2, x.f3) := by
 intro x
 induction x using S31.ind with
 | h x ih =>
  intro hx
  refine Ev.step (fun k => rfl) (Ev.bind ?_ (Ev.now _))
  refine Ev.step (f := fun k => almagestref0_CopyTerms.l0 k x.f3 [] 0) (fun k => rfl) ?_
  have := copy_l 0 x.f3 [] [] (fun y hy => ih y hy (hx.sub hy)) rfl (by have := hx.len; simp; omega)
  simpa using this
theorem eq_l : ∀ (t p : List S31), (∀ y, y ∈ t → Ev (fun k => almagestref0_EqTerm.f k y.f0 y.f1 y.f2 y.f3 y.f0 y.f1 y.f2 y.f3) true) → (p ++ t).length ≤ 2513169434900 →
  Ev (fun k => almagestref0_EqTerms.l0 k (p ++ t) (p ++ t) (p.length : Int)) true := by
 intro t
 induction t with
 | nil =>
  intro p _ hl
  exact Ev.step (fun k => rfl) (Ev.ite_neg (by simp) (Ev.now _))
 | cons y t ih =>
  intro p hy hl
  have hl' := hl
  simp only [LA, LC] at hl'
  have hlt : (p.length : Int) < ((p ++ y :: t).length : Int) := by simp only [LA, LC]; omega
  refine Ev.step (fun k => rfl) (Ev.ite_pos hlt (Ev.ite_pos (by omega) (Ev.ite_pos hlt ?_)))
  simp only [rdT_mid]
  refine Ev.bind (hy y (List.mem_cons_self)) (Ev.ite_pos rfl ?_)
  have := ih (p ++ [y]) (fun z hz => hy z (List.mem_cons_of_mem _ hz)) (by simpa using hl)
  rw [wrap_len (by omega)]
  simpa using this
theorem eq_ev : ∀ x : S31, Ok x → Ev (fun k => almagestref0_EqTerm.f k x.f0 x.f1 x.f2 x.f3 x.f0 x.f1 x.f2 x.f3) true := by
 intro x
 induction x using S31.ind with
 | h x ih =>
  intro hx
  refine Ev.step (fun k => rfl) (Ev.ite_pos rfl (Ev.ite_pos rfl (Ev.ite_pos rfl (Ev.bind ?_ (Ev.now _)))))
  refine Ev.step (fun k => rfl) (Ev.ite_pos rfl ?_)
  have := eq_l x.f3 [] (fun y hy => ih y hy (hx.sub hy)) (by simpa using hx.len)
  simpa using this
theorem deep_l : ∀ (t p : List S31) (a : Int), (∀ y, y ∈ t → Ev (fun k => term_deep.f k y.f0 y.f1 y.f2 y.f3) (deT y)) → (p ++ t).length ≤ 2513169434900 → 0 ≤ a → deL a t ≤ 1000 →
  Ev (fun k => term_deep.l0 k a (p ++ t) ((p ++ t).length : Int) (p.length : Int)) (deL a t + 1) := by
 intro t
 induction t with
 | nil =>
  intro p a _ hl h0 h1
  simp only [deL] at h1 ⊢
  refine Ev.step (fun k => rfl) (Ev.ite_neg (by simp) ?_)
  rw [show wrap64 (a + 1) = a + 1 by unfold wrap64; omega]
  exact Ev.now _
 | cons y t ih =>
  intro p a hy hl h0 h1
  have hl' := hl
  simp only [LA, LC] at hl'
  have hlt : (p.length : Int) < ((p ++ y :: t).length : Int) := by simp only [LA, LC]; omega
  refine Ev.step (fun k => rfl) (Ev.ite_pos hlt (Ev.ite_pos (by omega) (Ev.ite_pos hlt ?_)))
  simp only [rdT_mid]
  refine Ev.bind (hy y (List.mem_cons_self)) ?_
  rw [deL] at h1 ⊢
  have := ih (p ++ [y]) (mx a (deT y)) (fun z hz => hy z (List.mem_cons_of_mem _ hz)) (by simpa using hl) (by have := le_mx (a := a) (b := deT y); omega) h1
  rw [wrap_len (by omega)]
  simpa using this
theorem deep_ev : ∀ x : S31, Ok x → deT x ≤ 1000 → Ev (fun k => term_deep.f k x.f0 x.f1 x.f2 x.f3) (deT x) := by
 intro x
 induction x using S31.ind with
 | h x ih =>
  intro hx hd
  rw [deT_eq] at hd ⊢
  refine Ev.step (f := fun k => term_deep.l0 k 0 x.f3 (x.f3.length : Int) 0) (fun k => rfl) ?_
  have := deep_l x.f3 [] 0 (fun y hy => ih y hy (hx.sub hy) (by have := (deL_ge x.f3 0).2 y hy; omega)) (by simpa using hx.len) (by omega) (by omega)
  simpa using this
theorem rdepth_l (b0 : Int) (b1 : ByteArray) (b2 : Int) : ∀ (t p : List S31) (a : Int), (∀ y, y ∈ t → Ev (fun k => almagestref1_Depth.f k y.f0 y.f1 y.f2 y.f3) (deT y)) → (p ++ t).length ≤ 2513169434900 → 0 ≤ a → deL a t ≤ 1000 →
  Ev (fun k => almagestref1_Depth.l0 k a (p.length : Int) b0 b1 b2 (p ++ t)) (deL a t + 1) := by
 intro t
 induction t with
 | nil =>
  intro p a _ hl h0 h1
  simp only [deL] at h1 ⊢
  refine Ev.step (fun k => rfl) (Ev.ite_neg (by simp) ?_)
  rw [show wrap64 (a + 1) = a + 1 by unfold wrap64; omega]
  exact Ev.now _
 | cons y t ih =>
  intro p a hy hl h0 h1
  have hl' := hl
  simp only [LA, LC] at hl'
  have hlt : (p.length : Int) < ((p ++ y :: t).length : Int) := by simp only [LA, LC]; omega
  refine Ev.step (fun k => rfl) (Ev.ite_pos hlt (Ev.ite_pos (by omega) ?_))
  simp only [rdT_mid]
  refine Ev.bind (hy y (List.mem_cons_self)) ?_
  rw [deL] at h1 ⊢
  have := ih (p ++ [y]) (mx a (deT y)) (fun z hz => hy z (List.mem_cons_of_mem _ hz)) (by simpa using hl) (by have := le_mx (a := a) (b := deT y); omega) h1
  rw [wrap_len (by omega)]
  simpa using this
theorem rdepth_ev : ∀ x : S31, Ok x → deT x ≤ 1000 → Ev (fun k => almagestref1_Depth.f k x.f0 x.f1 x.f2 x.f3) (deT x) := by
 intro x
 induction x using S31.ind with
 | h x ih =>
  intro hx hd
  rw [deT_eq] at hd ⊢
  refine Ev.step (f := fun k => almagestref1_Depth.l0 k 0 0 x.f0 x.f1 x.f2 x.f3) (fun k => rfl) ?_
  have := rdepth_l x.f0 x.f1 x.f2 x.f3 [] 0 (fun y hy => ih y hy (hx.sub hy) (by have := (deL_ge x.f3 0).2 y hy; omega)) (by simpa using hx.len) (by omega) (by omega)
  simpa using this
theorem size_l : ∀ (t p : List S31) (a : Int), (∀ y, y ∈ t → Ev (fun k => term_size.f k y.f0 y.f1 y.f2 y.f3) (szT y)) → (p ++ t).length ≤ 2513169434900 → 0 ≤ a → a + szL t ≤ 1000 →
  Ev (fun k => term_size.l0 k a (p ++ t) ((p ++ t).length : Int) (p.length : Int)) (a + szL t) := by
 intro t
 induction t with
 | nil =>
  intro p a _ hl h0 h1
  simp only [szL, Int.add_zero] at h1 ⊢
  exact Ev.step (fun k => rfl) (Ev.ite_neg (by simp) (Ev.now _))
 | cons y t ih =>
  intro p a hy hl h0 h1
  have hl' := hl
  simp only [LA, LC] at hl'
  have hlt : (p.length : Int) < ((p ++ y :: t).length : Int) := by simp only [LA, LC]; omega
  refine Ev.step (fun k => rfl) (Ev.ite_pos hlt (Ev.ite_pos (by omega) (Ev.ite_pos hlt ?_)))
  simp only [rdT_mid]
  refine Ev.bind (hy y (List.mem_cons_self)) ?_
  rw [szL] at h1 ⊢
  have hp := szT_pos y
  have hq := szL_pos t
  have := ih (p ++ [y]) (a + szT y) (fun z hz => hy z (List.mem_cons_of_mem _ hz)) (by simpa using hl) (by omega) (by omega)
  rw [wrap_len (by omega), show wrap64 (a + szT y) = a + szT y by unfold wrap64; omega, ← Int.add_assoc]
  simpa using this
theorem size_ev : ∀ x : S31, Ok x → szT x ≤ 1000 → Ev (fun k => term_size.f k x.f0 x.f1 x.f2 x.f3) (szT x) := by
 intro x
 induction x using S31.ind with
 | h x ih =>
  intro hx hd
  rw [szT_eq] at hd ⊢
  refine Ev.step (f := fun k => term_size.l0 k 1 x.f3 (x.f3.length : Int) 0) (fun k => rfl) ?_
  have hle : ∀ (l : List S31) (y : S31), y ∈ l → szT y ≤ szL l := by
   intro l
   induction l with
   | nil => intro y h; simp at h
   | cons z l ih2 =>
    intro y h
    rw [szL]
    have := szT_pos z
    have := szL_pos l
    rcases List.mem_cons.1 h with rfl | h
    ·
     omega
    ·
     have := ih2 y h; omega
  have := size_l x.f3 [] 1 (fun y hy => ih y hy (hx.sub hy) (by have := hle x.f3 y hy; omega)) (by simpa using hx.len) (by omega) (by omega)
  simpa using this
end Go.Proofs.Ythaoooohomfkcaa.C

namespace Go.Proofs.Ythaoooohomfkcaa.C
open Go Go.RowKit
open Go.Proofs.YthaoooohomfkcaaW.PrintWords Go.Proofs.YthaoooohomfkcaaW.PrintLast Go.Proofs.YthaoooohomfkcaaW.PrintMore Go.Proofs.Ythaoooohomfkcaa.EvLib Go.Proofs.Ythaoooohomfkcaa.A
set_option linter.unusedVariables false
set_option linter.unusedSimpArgs false
open List renaming length_append → LA, length_cons → LC

def innerB (c : Int) : Bool := (decide (c ≥ 97) && decide (c ≤ 122)) || ((decide (c ≥ 65) && decide (c ≤ 90)) || ((decide (c ≥ 48) && decide (c ≤ 57)) || decide (c = 95)))
theorem inner_f (c : Int) : term_Inner.f c = some (innerB c) := by
 unfold term_Inner.f term_small.f term_great.f term_digit.f innerB
 by_cases h1 : c ≥ 97 <;> by_cases h2 : c ≤ 122 <;> by_cases h3 : c ≥ 65 <;> by_cases h4 : c ≤ 90 <;> by_cases h5 : c ≥ 48 <;> by_cases h6 : c ≤ 57 <;> by_cases h7 : c = 95 <;> simp [h1, h2, h3, h4, h5, h6, h7] <;> omega
theorem tail_step (k : Nat) (s : ByteArray) (i : Int) (h0 : 0 ≤ i) (h1 : i < (s.size : Int)) : almagestref1_tail.l0 (k + 1) s i = if innerB (bt s i) = true then almagestref1_tail.l0 k s (wrap64 (i + 1)) else some false := by
 simp only [almagestref1_tail.l0]
 rw [if_pos h1, if_pos h0]
 unfold innerB
 generalize bt s i = c
 by_cases h1 : c ≥ 97 <;> by_cases h2 : c ≤ 122 <;> by_cases h3 : c ≥ 65 <;> by_cases h4 : c ≤ 90 <;> by_cases h5 : c ≥ 48 <;> by_cases h6 : c ≤ 57 <;> by_cases h7 : c = 95 <;> simp [h1, h2, h3, h4, h5, h6, h7] <;> omega
theorem wrap_i {i : Int} {n : Nat} (h0 : 0 ≤ i) (h : i < (n : Int)) (hn : n ≤ 140737488355328) : wrap64 (i + 1) = i + 1 := by unfold wrap64; omega
theorem tails_great (s : ByteArray) (hn : s.size ≤ 16) (d : Nat) : ∀ (i : Int), 0 ≤ i → i ≤ s.size → (s.size : Int) - i = d → ∃ b, Ev (fun k => term_word_at_term_great.l0 k s (s.size : Int) i) b ∧ Ev (fun k => almagestref1_tail.l0 k s i) b := by
 induction d with
 | zero =>
  intro i h0 h1 hd
  exact ⟨true, Ev.step (fun k => rfl) (Ev.ite_neg (by omega) (Ev.now _)), Ev.step (fun k => rfl) (Ev.ite_neg (by omega) (Ev.now _))⟩
 | succ d ih =>
  intro i h0 h1 hd
  have hlt : i < (s.size : Int) := by omega
  obtain ⟨b, e1, e2⟩ := ih (i + 1) (by omega) (by omega) (by omega)
  have hw : wrap64 (i + 1) = i + 1 := wrap_i h0 hlt (by omega)
  by_cases hb : innerB (bt s i) = true
  ·
   refine ⟨b, Ev.step (fun k => rfl) (Ev.ite_pos hlt (Ev.ite_pos h0 (Ev.ite_pos hlt (Ev.bindc (inner_f _) (Ev.ite_pos hb ?_))))), Ev.step (fun k => tail_step k s i h0 hlt) (Ev.ite_pos hb ?_)⟩
   ·
    rw [hw]; exact e1
   ·
    rw [hw]; exact e2
  ·
   exact ⟨false, Ev.step (fun k => rfl) (Ev.ite_pos hlt (Ev.ite_pos h0 (Ev.ite_pos hlt (Ev.bindc (inner_f _) (Ev.ite_neg hb (Ev.now _)))))), Ev.step (fun k => tail_step k s i h0 hlt) (Ev.ite_neg hb (Ev.now _))⟩
theorem rVar_ev (s : ByteArray) : Ev (fun k => almagestref1_Var.f k s) (varB s) := by
 have hp : Ev (fun k => term_Var.f k s) (varB s) := Ev.of (term_Var.mono s) (k := 40) (var_ok s)
 have key : ∃ b, Ev (fun k => term_Var.f k s) b ∧ Ev (fun k => almagestref1_Var.f k s) b := by
  unfold term_Var.f almagestref1_Var.f term_word_at_term_great.f almagestref1_word.f
  have hj : ∀ q, Ev (fun k => term_word_at_term_great.l0 k s (s.size : Int) 0) q → Ev (fun k => term_word_at_term_great.j0 k s false) q := fun q h =>
   Ev.step (f := fun k => if false = true then some false else term_word_at_term_great.l0 k s (s.size : Int) 0) (fun k => rfl) (Ev.ite_neg (by simp) h)
  have hj1 : Ev (fun k => term_word_at_term_great.j0 k s true) false :=
   Ev.step (f := fun k => if true = true then some false else term_word_at_term_great.l0 k s (s.size : Int) 0) (fun k => rfl) (Ev.ite_pos rfl (Ev.now _))
  by_cases h0 : s.toList = ([] : List UInt8)
  ·
   have hz : (s.size : Int) = 0 := by rw [Lib.size_eq, ← Lib.toList_data, h0]; rfl
   exact ⟨false, Ev.bind (Ev.ite_pos h0 hj1) (Ev.now _), Ev.bind (Ev.ite_pos hz (Ev.now _)) (Ev.now _)⟩
  ·
   have hs := size0 h0
   by_cases h1 : (s.size : Int) > 16
   ·
    exact ⟨false, Ev.bind (Ev.ite_neg h0 (Ev.ite_pos h1 hj1)) (Ev.now _), Ev.bind (Ev.ite_neg (by omega) (Ev.ite_pos h1 (Ev.now _))) (Ev.now _)⟩
   ·
    obtain ⟨b, e1, e2⟩ := tails_great s (by omega) s.size 0 (by omega) (by omega) (by omega)
    have hpos : (0 : Int) < (s.size : Int) := by omega
    by_cases c1 : bt s 0 ≥ 65
    ·
     by_cases c2 : bt s 0 ≤ 90
     ·
      refine ⟨b, Ev.bind (Ev.ite_neg h0 (Ev.ite_neg h1 (Ev.ite_pos hpos (Ev.bindc (show term_great.f (bt s 0) = some true by unfold term_great.f; rw [if_pos c1, decide_eq_true c2]) (hj b e1))))) (Ev.now _), ?_⟩
      exact Ev.bind (Ev.ite_neg (by omega) (Ev.ite_neg h1 (Ev.ite_pos hpos (Ev.ite_neg (by omega) (Ev.ite_neg (by omega) (Ev.bind e2 (Ev.now _))))))) (Ev.now _)
     ·
      refine ⟨false, Ev.bind (Ev.ite_neg h0 (Ev.ite_neg h1 (Ev.ite_pos hpos (Ev.bindc (show term_great.f (bt s 0) = some false by unfold term_great.f; rw [if_pos c1, decide_eq_false c2]) hj1)))) (Ev.now _), ?_⟩
      exact Ev.bind (Ev.ite_neg (by omega) (Ev.ite_neg h1 (Ev.ite_pos hpos (Ev.ite_neg (by omega) (Ev.ite_pos (by omega) (Ev.now _)))))) (Ev.now _)
    ·
     refine ⟨false, Ev.bind (Ev.ite_neg h0 (Ev.ite_neg h1 (Ev.ite_pos hpos (Ev.bindc (show term_great.f (bt s 0) = some false by unfold term_great.f; rw [if_neg c1]) hj1)))) (Ev.now _), ?_⟩
     exact Ev.bind (Ev.ite_neg (by omega) (Ev.ite_neg h1 (Ev.ite_pos hpos (Ev.ite_pos (by omega) (Ev.now _))))) (Ev.now _)
 obtain ⟨b, e1, e2⟩ := key
 rw [Ev.inj hp e1]
 exact e2
theorem tails_small (s : ByteArray) (hn : s.size ≤ 16) (d : Nat) : ∀ (i : Int), 0 ≤ i → i ≤ s.size → (s.size : Int) - i = d → ∃ b, Ev (fun k => term_word_at_term_small.l0 k s (s.size : Int) i) b ∧ Ev (fun k => almagestref1_tail.l0 k s i) b := by
 induction d with
 | zero =>
  intro i h0 h1 hd
  exact ⟨true, Ev.step (fun k => rfl) (Ev.ite_neg (by omega) (Ev.now _)), Ev.step (fun k => rfl) (Ev.ite_neg (by omega) (Ev.now _))⟩
 | succ d ih =>
  intro i h0 h1 hd
  have hlt : i < (s.size : Int) := by omega
  obtain ⟨b, e1, e2⟩ := ih (i + 1) (by omega) (by omega) (by omega)
  have hw : wrap64 (i + 1) = i + 1 := wrap_i h0 hlt (by omega)
  by_cases hb : innerB (bt s i) = true
  ·
   refine ⟨b, Ev.step (fun k => rfl) (Ev.ite_pos hlt (Ev.ite_pos h0 (Ev.ite_pos hlt (Ev.bindc (inner_f _) (Ev.ite_pos hb ?_))))), Ev.step (fun k => tail_step k s i h0 hlt) (Ev.ite_pos hb ?_)⟩
   ·
    rw [hw]; exact e1
   ·
    rw [hw]; exact e2
  ·
   exact ⟨false, Ev.step (fun k => rfl) (Ev.ite_pos hlt (Ev.ite_pos h0 (Ev.ite_pos hlt (Ev.bindc (inner_f _) (Ev.ite_neg hb (Ev.now _)))))), Ev.step (fun k => tail_step k s i h0 hlt) (Ev.ite_neg hb (Ev.now _))⟩
theorem rName_ev (s : ByteArray) : Ev (fun k => almagestref1_Name.f k s) (nameB s) := by
 have hp : Ev (fun k => term_Name.f k s) (nameB s) := Ev.of (term_Name.mono s) (k := 40) (name_ok s)
 have key : ∃ b, Ev (fun k => term_Name.f k s) b ∧ Ev (fun k => almagestref1_Name.f k s) b := by
  unfold term_Name.f almagestref1_Name.f term_word_at_term_small.f almagestref1_word.f
  have hj : ∀ q, Ev (fun k => term_word_at_term_small.l0 k s (s.size : Int) 0) q → Ev (fun k => term_word_at_term_small.j0 k s false) q := fun q h =>
   Ev.step (f := fun k => if false = true then some false else term_word_at_term_small.l0 k s (s.size : Int) 0) (fun k => rfl) (Ev.ite_neg (by simp) h)
  have hj1 : Ev (fun k => term_word_at_term_small.j0 k s true) false :=
   Ev.step (f := fun k => if true = true then some false else term_word_at_term_small.l0 k s (s.size : Int) 0) (fun k => rfl) (Ev.ite_pos rfl (Ev.now _))
  by_cases h0 : s.toList = ([] : List UInt8)
  ·
   have hz : (s.size : Int) = 0 := by rw [Lib.size_eq, ← Lib.toList_data, h0]; rfl
   exact ⟨false, Ev.bind (Ev.ite_pos h0 hj1) (Ev.now _), Ev.bind (Ev.ite_pos hz (Ev.now _)) (Ev.now _)⟩
  ·
   have hs := size0 h0
   by_cases h1 : (s.size : Int) > 16
   ·
    exact ⟨false, Ev.bind (Ev.ite_neg h0 (Ev.ite_pos h1 hj1)) (Ev.now _), Ev.bind (Ev.ite_neg (by omega) (Ev.ite_pos h1 (Ev.now _))) (Ev.now _)⟩
   ·
    obtain ⟨b, e1, e2⟩ := tails_small s (by omega) s.size 0 (by omega) (by omega) (by omega)
    have hpos : (0 : Int) < (s.size : Int) := by omega
    by_cases c1 : bt s 0 ≥ 97
    ·
     by_cases c2 : bt s 0 ≤ 122
     ·
      refine ⟨b, Ev.bind (Ev.ite_neg h0 (Ev.ite_neg h1 (Ev.ite_pos hpos (Ev.bindc (show term_small.f (bt s 0) = some true by unfold term_small.f; rw [if_pos c1, decide_eq_true c2]) (hj b e1))))) (Ev.now _), ?_⟩
      exact Ev.bind (Ev.ite_neg (by omega) (Ev.ite_neg h1 (Ev.ite_pos hpos (Ev.ite_neg (by omega) (Ev.ite_neg (by omega) (Ev.bind e2 (Ev.now _))))))) (Ev.now _)
     ·
      refine ⟨false, Ev.bind (Ev.ite_neg h0 (Ev.ite_neg h1 (Ev.ite_pos hpos (Ev.bindc (show term_small.f (bt s 0) = some false by unfold term_small.f; rw [if_pos c1, decide_eq_false c2]) hj1)))) (Ev.now _), ?_⟩
      exact Ev.bind (Ev.ite_neg (by omega) (Ev.ite_neg h1 (Ev.ite_pos hpos (Ev.ite_neg (by omega) (Ev.ite_pos (by omega) (Ev.now _)))))) (Ev.now _)
    ·
     refine ⟨false, Ev.bind (Ev.ite_neg h0 (Ev.ite_neg h1 (Ev.ite_pos hpos (Ev.bindc (show term_small.f (bt s 0) = some false by unfold term_small.f; rw [if_neg c1]) hj1)))) (Ev.now _), ?_⟩
     exact Ev.bind (Ev.ite_neg (by omega) (Ev.ite_neg h1 (Ev.ite_pos hpos (Ev.ite_pos (by omega) (Ev.now _))))) (Ev.now _)
 obtain ⟨b, e1, e2⟩ := key
 rw [Ev.inj hp e1]
 exact e2
theorem between_f (n : Int) : almagestref0_Between.f n (-1073741824) 1073741824 = some (numB n) := by
 unfold almagestref0_Between.f numB
 by_cases h : n ≥ -1073741824
 ·
  rw [if_pos h, decide_eq_true h]; simp
 ·
  rw [if_neg h, decide_eq_false h]; simp
def Sz (d : Nat) (x : S31) (r : Int) : Prop := 1 ≤ r ∧ r ≤ 1 + 24 * (d : Int) ∧ (r ≤ 24 ↔ valid d x = true ∧ szT x ≤ 24) ∧ (r ≤ 24 → r = szT x)
theorem rsize_l (b0 : Int) (b1 : ByteArray) (b2 : Int) (d : Nat) (hd : d ≤ 4) (D : Int) (hD : D = (d : Int) + 1) : ∀ (t p : List S31) (a : Int), (∀ y, y ∈ t → ∃ r, Ev (fun k => almagestref1_size.f k y.f0 y.f1 y.f2 y.f3 (d : Int)) r ∧ Sz d y r) → (p ++ t).length ≤ 4 → 1 ≤ a → a ≤ 25 + 24 * (d : Int) →
  ∃ r, Ev (fun k => almagestref1_size.l0 k D a (p.length : Int) b0 b1 b2 (p ++ t)) r ∧ 1 ≤ r ∧ r ≤ 25 + 24 * (d : Int) ∧ (r ≤ 24 ↔ a + szL t ≤ 24 ∧ t.all (valid d) = true) ∧ (r ≤ 24 → r = a + szL t) := by
 intro t
 induction t with
 | nil =>
  intro p a _ hl h0 h1
  refine ⟨a, Ev.step (fun k => rfl) (Ev.ite_neg (by simp) (Ev.now _)), h0, h1, ?_, ?_⟩
  ·
   simp [szL]
  ·
   simp [szL]
 | cons y t ih =>
  intro p a hy hl h0 h1
  have hl' := hl
  simp only [LA, LC] at hl'
  have hlt : (p.length : Int) < ((p ++ y :: t).length : Int) := by simp only [LA, LC]; omega
  have hq := szL_pos t
  have hp := szT_pos y
  by_cases ha : a ≤ 24
  ·
   obtain ⟨s, e1, s1, s2, s3, s4⟩ := hy y (List.mem_cons_self)
   obtain ⟨r, e2, r1, r2, r3, r4⟩ := ih (p ++ [y]) (a + s) (fun z hz => hy z (List.mem_cons_of_mem _ hz)) (by simpa using hl) (by omega) (by omega)
   refine ⟨r, Ev.step (fun k => rfl) (Ev.ite_pos hlt (Ev.ite_pos ha (Ev.ite_pos (by omega) ?_))), r1, r2, ?_, ?_⟩
   ·
    simp only [rdT_mid]
    rw [show wrap64 (D - 1) = (d : Int) by unfold wrap64; omega]
    refine Ev.bind e1 ?_
    rw [wrap_len (by omega), show wrap64 (a + s) = a + s by unfold wrap64; omega]
    simpa using e2
   ·
    rw [r3, szL, List.all_cons, Bool.and_eq_true]
    constructor
    ·
     rintro ⟨h2, h3⟩
     have hs : s ≤ 24 := by omega
     have h4 := s3.1 hs
     have h5 := s4 hs
     exact ⟨by omega, h4.1, h3⟩
    ·
     rintro ⟨h2, h3, h4⟩
     have hs := s3.2 ⟨h3, by omega⟩
     have h5 := s4 hs
     exact ⟨by omega, h4⟩
   ·
    intro hr
    rw [r4 hr, szL]
    have h2 := (r3.1 hr).1
    have hs : s ≤ 24 := by omega
    have h5 := s4 hs
    omega
  ·
   refine ⟨a, Ev.step (fun k => rfl) (Ev.ite_pos hlt (Ev.ite_neg ha (Ev.now _))), h0, h1, ?_, fun h => absurd h ha⟩
   rw [szL]
   constructor
   ·
    intro h; exact absurd h ha
   ·
    rintro ⟨h, _⟩; omega
theorem rsize_step (d : Nat) (hd : d ≤ 4) (x : S31) (ih : 0 < d → ∀ y, ∃ r, Ev (fun k => almagestref1_size.f k y.f0 y.f1 y.f2 y.f3 (d : Int)) r ∧ Sz d y r) :
  ∃ r, Ev (fun k => almagestref1_size.f k x.f0 x.f1 x.f2 x.f3 ((d : Int) + 1)) r ∧ Sz (d + 1) x r := by
 have bad : valid (d + 1) x = false → Sz (d + 1) x 25 := fun h => ⟨by omega, by omega, ⟨fun e => absurd e (by omega), fun e => by rw [h] at e; exact absurd e.1 (by simp)⟩, fun e => absurd e (by omega)⟩
 have one : valid (d + 1) x = true → x.f3.length = 0 → Sz (d + 1) x 1 := fun h e => by
  have : szT x = 1 := by rw [szT_eq, List.eq_nil_of_length_eq_zero e]; simp [szL]
  exact ⟨by omega, by omega, ⟨fun _ => ⟨h, by omega⟩, fun _ => by omega⟩, fun _ => this.symm⟩
 by_cases k1 : x.f0 = 1
 ·
  have hv : valid (d + 1) x = (varB x.f1 && (decide (x.f2 = 0) && decide (x.f3.length = 0))) := by simp only [valid]; rw [if_pos k1]
  have e1 := rVar_ev x.f1
  cases h1 : varB x.f1 with
  | false =>
   rw [h1] at e1 hv
   exact ⟨25, Ev.step (fun k => rfl) (Ev.ite_pos k1 (Ev.bind e1 (Ev.ite_neg (by simp) (Ev.now _)))), bad (by rw [hv]; rfl)⟩
  | true =>
   rw [h1] at e1 hv
   by_cases h2 : x.f2 = 0
   ·
    by_cases h3 : (x.f3.length : Int) = 0
    ·
     exact ⟨1, Ev.step (fun k => rfl) (Ev.ite_pos k1 (Ev.bind e1 (Ev.ite_pos (by rfl) (Ev.ite_pos h2 (Ev.ite_pos h3 (Ev.now _)))))), one (by rw [hv, decide_eq_true h2, decide_eq_true (show x.f3.length = 0 by omega)]; rfl) (by omega)⟩
    ·
     exact ⟨25, Ev.step (fun k => rfl) (Ev.ite_pos k1 (Ev.bind e1 (Ev.ite_pos (by rfl) (Ev.ite_pos h2 (Ev.ite_neg h3 (Ev.now _)))))), bad (by rw [hv, decide_eq_false (show ¬ x.f3.length = 0 by omega)]; simp)⟩
   ·
    exact ⟨25, Ev.step (fun k => rfl) (Ev.ite_pos k1 (Ev.bind e1 (Ev.ite_pos (by rfl) (Ev.ite_neg h2 (Ev.now _))))), bad (by rw [hv, decide_eq_false h2]; simp)⟩
 by_cases k2 : x.f0 = 2
 ·
  have hv : valid (d + 1) x = (numB x.f2 && (decide (x.f1.toList = []) && decide (x.f3.length = 0))) := by simp only [valid]; rw [if_neg k1, if_pos k2]
  have e1 := between_f x.f2
  by_cases h2 : x.f1.toList = ([] : List UInt8)
  ·
   rw [decide_eq_true h2] at hv
   cases h1 : numB x.f2 with
   | false =>
    rw [h1] at e1 hv
    exact ⟨25, Ev.step (fun k => rfl) (Ev.ite_neg k1 (Ev.ite_pos k2 (Ev.ite_pos h2 (Ev.bindc e1 (Ev.ite_neg (by simp) (Ev.now _)))))), bad (by rw [hv]; rfl)⟩
   | true =>
    rw [h1] at e1 hv
    by_cases h3 : (x.f3.length : Int) = 0
    ·
     exact ⟨1, Ev.step (fun k => rfl) (Ev.ite_neg k1 (Ev.ite_pos k2 (Ev.ite_pos h2 (Ev.bindc e1 (Ev.ite_pos (by rfl) (Ev.ite_pos h3 (Ev.now _))))))), one (by rw [hv, decide_eq_true (show x.f3.length = 0 by omega)]; rfl) (by omega)⟩
    ·
     exact ⟨25, Ev.step (fun k => rfl) (Ev.ite_neg k1 (Ev.ite_pos k2 (Ev.ite_pos h2 (Ev.bindc e1 (Ev.ite_pos (by rfl) (Ev.ite_neg h3 (Ev.now _))))))), bad (by rw [hv, decide_eq_false (show ¬ x.f3.length = 0 by omega)]; simp)⟩
  ·
   exact ⟨25, Ev.step (fun k => rfl) (Ev.ite_neg k1 (Ev.ite_pos k2 (Ev.ite_neg h2 (Ev.now _)))), bad (by rw [hv, decide_eq_false h2]; simp)⟩
 by_cases k3 : x.f0 = 3
 ·
  have hv : valid (d + 1) x = ((nameB x.f1 && (decide (x.f2 = 0) && decide (x.f3.length ≤ 4))) && x.f3.all (valid d)) := by simp only [valid]; rw [if_neg k1, if_neg k2, if_pos k3]
  have e1 := rName_ev x.f1
  have hj1 : Ev (fun k => almagestref1_size.j0 k ((d : Int) + 1) true x.f0 x.f1 x.f2 x.f3) 25 :=
   Ev.step (f := fun k => if true = true then some 25 else almagestref1_size.l0 k ((d : Int) + 1) 1 0 x.f0 x.f1 x.f2 x.f3) (fun k => rfl) (Ev.ite_pos rfl (Ev.now _))
  have hj0 : ∀ r, Ev (fun k => almagestref1_size.l0 k ((d : Int) + 1) 1 0 x.f0 x.f1 x.f2 x.f3) r → Ev (fun k => almagestref1_size.j0 k ((d : Int) + 1) false x.f0 x.f1 x.f2 x.f3) r := fun r h =>
   Ev.step (f := fun k => if false = true then some 25 else almagestref1_size.l0 k ((d : Int) + 1) 1 0 x.f0 x.f1 x.f2 x.f3) (fun k => rfl) (Ev.ite_neg (by simp) h)
  cases h1 : nameB x.f1 with
  | false =>
   rw [h1] at e1 hv
   exact ⟨25, Ev.step (fun k => rfl) (Ev.ite_neg k1 (Ev.ite_neg k2 (Ev.ite_pos k3 (Ev.bind e1 (Ev.ite_neg (by simp) hj1))))), bad (by rw [hv]; rfl)⟩
  | true =>
   rw [h1] at e1 hv
   by_cases h2 : x.f2 = 0
   ·
    rw [decide_eq_true h2] at hv
    by_cases h3 : (x.f3.length : Int) > 4
    ·
     exact ⟨25, Ev.step (fun k => rfl) (Ev.ite_neg k1 (Ev.ite_neg k2 (Ev.ite_pos k3 (Ev.bind e1 (Ev.ite_pos (by rfl) (Ev.ite_pos h2 (Ev.ite_pos h3 hj1))))))), bad (by rw [hv, decide_eq_false (show ¬ x.f3.length ≤ 4 by omega)]; simp)⟩
    ·
     rw [decide_eq_true (show x.f3.length ≤ 4 by omega)] at hv
     have hv' : valid (d + 1) x = x.f3.all (valid d) := by rw [hv]; rfl
     by_cases h4 : (x.f3.length : Int) > 0
     ·
      by_cases h5 : d = 0
      ·
       subst h5
       have hx : x.f3.all (valid 0) = false := by
        cases hl : x.f3 with
        | nil => rw [hl] at h4; simp at h4
        | cons y t => simp [valid]
       refine ⟨25, Ev.step (fun k => rfl) (Ev.ite_neg k1 (Ev.ite_neg k2 (Ev.ite_pos k3 (Ev.bind e1 (Ev.ite_pos (by rfl) (Ev.ite_pos h2 (Ev.ite_neg h3 (Ev.ite_pos h4 ?_)))))))), bad (by rw [hv']; exact hx)⟩
       exact hj1
      ·
       obtain ⟨r, e2, r1, r2, r3, r4⟩ := rsize_l x.f0 x.f1 x.f2 d hd ((d : Int) + 1) rfl x.f3 [] 1 (fun y _ => ih (by omega) y) (by simp only [List.nil_append]; omega) (by omega) (by omega)
       refine ⟨r, Ev.step (fun k => rfl) (Ev.ite_neg k1 (Ev.ite_neg k2 (Ev.ite_pos k3 (Ev.bind e1 (Ev.ite_pos (by rfl) (Ev.ite_pos h2 (Ev.ite_neg h3 (Ev.ite_pos h4 ?_)))))))), r1, ?_, ?_, ?_⟩
       ·
        rw [show (((d : Int) + 1) == 1) = false from by rw [beq_eq_false_iff_ne]; omega]
        exact hj0 r e2
       ·
        omega
       ·
        rw [r3, hv', szT_eq]; exact ⟨fun h => ⟨h.2, h.1⟩, fun h => ⟨h.2, h.1⟩⟩
       ·
        intro h; rw [r4 h, szT_eq]
     ·
      have hn : x.f3 = [] := List.eq_nil_of_length_eq_zero (by omega)
      refine ⟨1, Ev.step (fun k => rfl) (Ev.ite_neg k1 (Ev.ite_neg k2 (Ev.ite_pos k3 (Ev.bind e1 (Ev.ite_pos (by rfl) (Ev.ite_pos h2 (Ev.ite_neg h3 (Ev.ite_neg h4 (hj0 1 ?_))))))))), one (by rw [hv', hn]; rfl) (by omega)⟩
      exact Ev.step (fun k => rfl) (Ev.ite_neg (by omega) (Ev.now _))
   ·
    refine ⟨25, Ev.step (fun k => rfl) (Ev.ite_neg k1 (Ev.ite_neg k2 (Ev.ite_pos k3 (Ev.bind e1 (Ev.ite_pos (by rfl) (Ev.ite_neg h2 hj1)))))), bad (by rw [hv, decide_eq_false h2]; simp)⟩
 ·
  exact ⟨25, Ev.step (fun k => rfl) (Ev.ite_neg k1 (Ev.ite_neg k2 (Ev.ite_neg k3 (Ev.now _)))), bad (by simp only [valid]; rw [if_neg k1, if_neg k2, if_neg k3])⟩
theorem rsize_ev : ∀ (d : Nat) (x : S31), d ≤ 4 → ∃ r, Ev (fun k => almagestref1_size.f k x.f0 x.f1 x.f2 x.f3 ((d : Int) + 1)) r ∧ Sz (d + 1) x r := by
 intro d
 induction d with
 | zero => intro x hd; exact rsize_step 0 hd x (fun h => absurd h (by omega))
 | succ d ih => intro x hd; exact rsize_step (d + 1) hd x (fun _ y => ih y (by omega))
theorem rterm_ev (x : S31) : Ev (fun k => almagestref1_Term.f k x.f0 x.f1 x.f2 x.f3) (mayB x) := by
 obtain ⟨r, e, r1, r2, r3, r4⟩ := rsize_ev 4 x (by omega)
 refine Ev.bind e ?_
 have : decide (r ≤ 24) = mayB x := by
  rw [mayB_eq]
  cases hb : (valid 5 x && decide (szT x ≤ 24)) with
  | true => simp only [Bool.and_eq_true, decide_eq_true_eq] at hb; exact decide_eq_true (r3.2 hb)
  | false =>
   refine decide_eq_false (fun h => ?_)
   have := r3.1 h
   rw [this.1, decide_eq_true this.2] at hb
   simp at hb
 rw [this]
 exact Ev.now _
theorem rSize_ev (x : S31) (h : mayB x = true) : Ev (fun k => almagestref1_Size.f k x.f0 x.f1 x.f2 x.f3) (szT x) := by
 obtain ⟨r, e, r1, r2, r3, r4⟩ := rsize_ev 4 x (by omega)
 refine Ev.bind e ?_
 rw [mayB_eq] at h
 simp only [Bool.and_eq_true, decide_eq_true_eq] at h
 rw [r4 (r3.2 h)]
 exact Ev.now _
end Go.Proofs.Ythaoooohomfkcaa.C

namespace Go.Proofs.Ythaoooohomfkcaa.C
open Go Go.RowKit
open Go.Proofs.YthaoooohomfkcaaW.PrintWords Go.Proofs.YthaoooohomfkcaaW.PrintLast Go.Proofs.YthaoooohomfkcaaW.PrintMore Go.Proofs.Ythaoooohomfkcaa.EvLib Go.Proofs.Ythaoooohomfkcaa.A
set_option linter.unusedVariables false
set_option linter.unusedSimpArgs false
open List renaming length_append → LA, length_cons → LC

theorem bL_nil : bytesL [] = [] := rfl
theorem bL_cons (x : ByteArray) (l : List ByteArray) : bytesL (x :: l) = x.data.toList :: bytesL l := rfl
theorem bL_app (l m : List ByteArray) : bytesL (l ++ m) = bytesL l ++ bytesL m := List.map_append
def rise (l : List ByteArray) : Prop := (bytesL l).Pairwise (· < ·)
theorem insB_nil (s : ByteArray) : insB [] s = [s] := by simp [insB, posB]
theorem insB_lt {x s : ByteArray} (l : List ByteArray) (h : x.data.toList < s.data.toList) : insB (x :: l) s = x :: insB l s := by
 have h' : Op.bytesLess x.toList s.toList = true := by rw [bytesLess_eq, Lib.toList_data, Lib.toList_data]; exact decide_eq_true h
 unfold insB
 simp only [posB, if_pos h', List.drop_succ_cons, List.take_succ_cons]
 split <;> simp
theorem insB_ge {x s : ByteArray} (l : List ByteArray) (h : ¬ x.data.toList < s.data.toList) : insB (x :: l) s = if x.data.toList = s.data.toList then x :: l else s :: x :: l := by
 have h' : ¬ Op.bytesLess x.toList s.toList = true := by rw [bytesLess_eq, Lib.toList_data, Lib.toList_data]; simpa using h
 have hp : posB s (x :: l) = 0 := by simp only [posB]; rw [if_neg h']
 unfold insB
 rw [hp]
 simp only [List.drop_zero, List.take_zero, List.head?_cons, Option.map_some, List.nil_append, Lib.toList_data, Option.some.injEq]
theorem insB_rise (s : ByteArray) : ∀ l, rise l → rise (insB l s) ∧ (∀ y, y ∈ bytesL (insB l s) ↔ y ∈ bytesL l ∨ y = s.data.toList) ∧ (insB l s).length ≤ l.length + 1 := by
 intro l
 induction l with
 | nil => intro _; rw [insB_nil]; refine ⟨?_, ?_, by simp⟩ <;> simp [rise, bytesL]
 | cons x l ih =>
  intro h
  have h0 := h
  unfold rise at h
  rw [bL_cons, List.pairwise_cons] at h
  obtain ⟨h1, h2⟩ := h
  by_cases hl : x.data.toList < s.data.toList
  ·
   rw [insB_lt l hl]
   obtain ⟨a, b, c⟩ := ih h2
   refine ⟨?_, ?_, by simp only [List.length_cons]; omega⟩
   ·
    unfold rise; rw [bL_cons, List.pairwise_cons]
    refine ⟨fun y hy => ?_, a⟩
    rcases (b y).1 hy with hy | rfl
    ·
     exact h1 y hy
    ·
     exact hl
   ·
    intro y; rw [bL_cons, bL_cons, List.mem_cons, List.mem_cons, b y, or_assoc]
  ·
   rw [insB_ge l hl]
   by_cases he : x.data.toList = s.data.toList
   ·
    rw [if_pos he]
    refine ⟨h0, fun y => ?_, by simp⟩
    rw [bL_cons, List.mem_cons, ← he]
    constructor
    ·
     exact Or.inl
    ·
     rintro (h | h)
     ·
      exact h
     ·
      exact Or.inl h
   ·
    rw [if_neg he]
    have hlt : s.data.toList < x.data.toList := by
     refine Decidable.byContradiction fun h' => he (List.le_antisymm ?_ ?_)
     ·
      exact h'
     ·
      exact hl
    refine ⟨?_, ?_, by simp⟩
    ·
     unfold rise; rw [bL_cons, List.pairwise_cons]
     refine ⟨fun y hy => ?_, h0⟩
     rw [bL_cons, List.mem_cons] at hy
     rcases hy with rfl | hy
     ·
      exact hlt
     ·
      exact List.lt_trans hlt (h1 y hy)
    ·
     intro y; rw [bL_cons, List.mem_cons]; exact or_comm
theorem fold_rise : ∀ (m l : List ByteArray), rise l → rise (m.foldl insB l) ∧ (∀ y, y ∈ bytesL (m.foldl insB l) ↔ y ∈ bytesL l ∨ y ∈ bytesL m) := by
 intro m
 induction m with
 | nil => intro l h; refine ⟨h, fun y => ?_⟩; simp [bytesL]
 | cons s m ih =>
  intro l h
  obtain ⟨a, b, _⟩ := insB_rise s l h
  obtain ⟨c, d⟩ := ih (insB l s) a
  refine ⟨c, fun y => ?_⟩
  rw [List.foldl_cons, d y, b y, bL_cons, List.mem_cons, or_assoc]
theorem bL_names (l : List ByteArray) : bytesL (namesS l) = namesB l := by
 unfold bytesL namesS
 rw [List.map_map]
 exact (List.map_congr_left (fun x _ => rfl)).trans (List.map_id _)
theorem back_bL (l : List ByteArray) : (bytesL l).map (fun x => (⟨x.toArray⟩ : ByteArray)) = l := by
 unfold bytesL
 rw [List.map_map]
 exact (List.map_congr_left (fun x _ => rfl)).trans (List.map_id _)
theorem names_rise (l : List ByteArray) : rise (namesS l) := by
 unfold rise
 rw [bL_names]
 have h1 : (namesB l).Pairwise (fun a b => leQ a b = true) := List.pairwise_mergeSort leQ_trans leQ_total _
 have h2 : (namesB l).Nodup := (List.mergeSort_perm _ _).nodup_iff.2 (nodup_dd _)
 refine List.Pairwise.imp₂ (R := fun a b => leQ a b = true) (S := fun a b => a ≠ b) ?_ h1 h2
 intro a b h3 h4
 refine Decidable.byContradiction fun h5 => h4 (List.le_antisymm (of_decide_eq_true h3) ?_)
 exact h5
theorem mem_names (l : List ByteArray) (y : List UInt8) : y ∈ bytesL (namesS l) ↔ y ∈ bytesL l := by
 rw [bL_names]
 unfold namesB
 rw [(List.mergeSort_perm _ _).mem_iff, mem_dd]
theorem rise_eq {l m : List ByteArray} (hl : rise l) (hm : rise m) (h : ∀ y, y ∈ bytesL l ↔ y ∈ bytesL m) : l = m := by
 have nd : ∀ {l : List ByteArray}, rise l → (bytesL l).Nodup := fun h => h.imp (fun {a b} h e => by subst e; exact List.lt_irrefl _ h)
 have : bytesL l = bytesL m := by
  refine List.Perm.eq_of_pairwise (le := fun a b => a < b) ?_ hl hm ((List.perm_ext_iff_of_nodup (nd hl) (nd hm)).2 h)
  intro a b _ _ h1 h2
  exact absurd (List.lt_trans h1 h2) (List.lt_irrefl _)
 rw [← back_bL l, ← back_bL m, this]
theorem names_join (l m : List ByteArray) : (namesS m).foldl insB (namesS l) = namesS (l ++ m) := by
 obtain ⟨a, b⟩ := fold_rise (namesS m) (namesS l) (names_rise l)
 refine rise_eq a (names_rise _) (fun y => ?_)
 rw [b y, mem_names, mem_names, mem_names, bL_app, List.mem_append]
theorem names_one (s : ByteArray) : namesS [s] = [s] := by
 refine rise_eq (names_rise _) (by simp [rise, bytesL]) (fun y => mem_names _ _)
theorem dd_len : ∀ l, (dd l).length ≤ l.length := by
 intro l
 induction l with
 | nil => simp [dd]
 | cons x l ih => simp only [dd]; split <;> simp only [List.length_cons] <;> omega
theorem names_len (l : List ByteArray) : (namesS l).length ≤ l.length := by
 have h := dd_len (bytesL l)
 have h2 : (bytesL l).length = l.length := by unfold bytesL; rw [List.length_map]
 unfold namesS namesB
 rw [List.length_map, List.length_mergeSort]
 omega
theorem occ_few : ∀ x : S31, ((occ x).length : Int) ≤ szT x := by
 intro x
 induction x using S31.ind with
 | h x ih =>
  rw [occ_eq, szT_eq, List.length_append]
  have h1 : (if x.f0 = 1 then [x.f1] else []).length ≤ 1 := by split <;> simp
  have : ∀ l : List S31, (∀ y, y ∈ l → ((occ y).length : Int) ≤ szT y) → ((occL l).length : Int) ≤ szL l := by
   intro l
   induction l with
   | nil => intro _; simp [occL, szL]
   | cons y l ih2 => intro h; rw [occL, szL, List.length_append]; have := h y (List.mem_cons_self); have := ih2 (fun z hz => h z (List.mem_cons_of_mem _ hz)); omega
  have := this x.f3 ih
  omega
theorem occL_few (l : List S31) : ((occL l).length : Int) ≤ szL l := by
 induction l with
 | nil => simp [occL, szL]
 | cons y l ih => rw [occL, szL, List.length_append]; have := occ_few y; omega
theorem valid_var {d : Nat} {x : S31} (h : valid d x = true) (k1 : x.f0 = 1) : varB x.f1 = true ∧ x.f3 = [] := by
 cases d with
 | zero => simp [valid] at h
 | succ d =>
  simp only [valid] at h
  rw [if_pos k1] at h
  simp only [Bool.and_eq_true, decide_eq_true_eq] at h
  exact ⟨h.1, List.eq_nil_of_length_eq_zero h.2.2⟩
theorem rvars_l (b0 : Int) (b1 : ByteArray) (b2 : Int) : ∀ (t p : List S31), (∀ y, y ∈ t → Ev (fun k => almagestref1_Vars.f k y.f0 y.f1 y.f2 y.f3) (namesS (occ y))) → (p ++ t).length ≤ 4 → szL (p ++ t) ≤ 1000 →
  Ev (fun k => almagestref1_Vars.l0 k (namesS (occL p)) (p.length : Int) b0 b1 b2 (p ++ t)) (namesS (occL (p ++ t))) := by
 intro t
 induction t with
 | nil =>
  intro p _ hl _
  simp only [List.append_nil]
  exact Ev.step (fun k => rfl) (Ev.ite_neg (by simp) (Ev.now _))
 | cons y t ih =>
  intro p hy hl hs
  have hl' := hl
  simp only [LA, LC] at hl'
  have hlt : (p.length : Int) < ((p ++ y :: t).length : Int) := by simp only [LA, LC]; omega
  refine Ev.step (fun k => rfl) (Ev.ite_pos hlt (Ev.ite_pos (by omega) ?_))
  simp only [rdT_mid]
  have hw : wrap64 ((p.length : Int) + 1) = ((p ++ [y]).length : Int) := by simp only [LA, LC, List.length_nil]; unfold wrap64; omega
  have hq : almagestref1_Names.f (namesS (occL p)) (namesS (occ y)) = some (namesS (occL (p ++ [y]))) := by
   have e := occL_few (p ++ y :: t)
   rw [occL_app, occL] at e
   simp only [List.length_append] at e
   have e1 := names_len (occL p)
   have e2 := names_len (occ y)
   unfold almagestref1_Names.f
   rw [if_pos (by omega), names_join, occL_app, occL, occL, List.append_nil]
  refine Ev.bind (hy y (List.mem_cons_self)) (Ev.bindc hq ?_)
  have := ih (p ++ [y]) (fun z hz => hy z (List.mem_cons_of_mem _ hz)) (by simpa using hl) (by simpa using hs)
  rw [hw]
  simpa using this
theorem rvars_ev : ∀ (d : Nat) (x : S31), valid d x = true → szT x ≤ 1000 → Ev (fun k => almagestref1_Vars.f k x.f0 x.f1 x.f2 x.f3) (namesS (occ x)) := by
 intro d
 induction d with
 | zero => intro x h; simp [valid] at h
 | succ d ih =>
  intro x h hs
  by_cases k1 : x.f0 = 1
  ·
   obtain ⟨_, h2⟩ := valid_var h k1
   rw [occ_eq, if_pos k1, h2, occL, List.append_nil, names_one]
   exact Ev.step (fun k => rfl) (Ev.ite_pos k1 (Ev.now _))
  ·
   obtain ⟨h1, h2⟩ := valid_len h
   rw [szT_eq] at hs
   have hz : ∀ (l : List S31) y, y ∈ l → szT y ≤ szL l := by
    intro l
    induction l with
    | nil => intro y hy; simp at hy
    | cons z l ihl =>
     intro y hy
     rw [szL]
     have := szT_pos z
     have := szL_pos l
     rcases List.mem_cons.1 hy with rfl | hy
     ·
      omega
     ·
      have := ihl y hy; omega
   have := rvars_l x.f0 x.f1 x.f2 x.f3 [] (fun y hy => ih y (h2 y hy) (by have := hz x.f3 y hy; omega)) (by simpa using h1) (by simp only [List.nil_append]; omega)
   have h0 : namesS (occL []) = [] := List.eq_nil_of_length_eq_zero (by have := names_len (occL []); simp only [occL, List.length_nil] at this; simp only [occL]; omega)
   rw [h0] at this
   rw [occ_eq, if_neg k1, List.nil_append]
   exact Ev.step (fun k => rfl) (Ev.ite_neg k1 this)
theorem var_small {s : ByteArray} (h : varB s = true) : s.size ≤ 16 := by
 have e := var_ok s
 rw [h] at e
 unfold term_Var.f term_word_at_term_great.f at e
 by_cases h0 : s.toList = ([] : List UInt8)
 ·
  rw [Lib.size_eq, ← Lib.toList_data, h0]; simp
 ·
  rw [if_neg h0] at e
  by_cases h1 : (s.size : Int) > 16
  ·
   rw [if_pos h1] at e
   simp [term_word_at_term_great.j0] at e
  ·
   omega
theorem occ_small : ∀ (d : Nat) (x : S31), valid d x = true → ∀ s ∈ occ x, s.size ≤ 16 := by
 intro d
 induction d with
 | zero => intro x h; simp [valid] at h
 | succ d ih =>
  intro x h s hs
  rw [occ_eq, List.mem_append] at hs
  rcases hs with hs | hs
  ·
   by_cases k1 : x.f0 = 1
   ·
    rw [if_pos k1] at hs
    rw [List.mem_singleton.1 hs]
    exact var_small (valid_var h k1).1
   ·
    rw [if_neg k1] at hs; simp at hs
  ·
   obtain ⟨_, h2⟩ := valid_len h
   have : ∀ l : List S31, (∀ y ∈ l, valid d y = true) → ∀ s ∈ occL l, s.size ≤ 16 := by
    intro l
    induction l with
    | nil => intro _ s hs; simp [occL] at hs
    | cons y l ihl =>
     intro hl s hs
     rw [occL, List.mem_append] at hs
     rcases hs with hs | hs
     ·
      exact ih y (hl y (List.mem_cons_self)) s hs
     ·
      exact ihl (fun z hz => hl z (List.mem_cons_of_mem _ hz)) s hs
   exact this x.f3 h2 s hs
theorem few_occ {x : S31} (h : mayB x = true) : fewB (occL [x]) = true := by
 rw [mayB_eq] at h
 simp only [Bool.and_eq_true, decide_eq_true_eq] at h
 have h1 := occ_few x
 have h2 := occ_small 5 x h.1
 have e : occL [x] = occ x := by rw [occL, occL, List.append_nil]
 rw [e]
 unfold fewB
 rw [decide_eq_true (show (occ x).length ≤ 1000000 by omega), Bool.true_and, List.all_eq_true]
 intro s hs
 exact decide_eq_true (Nat.le_trans (h2 s hs) (by omega))
theorem names_may {x : S31} (h : mayB x = true) : term_Names.f [x] = some (namesS (occ x)) := by
 unfold term_Names.f
 rw [if_pos (few_occ h), occL, occL, List.append_nil]
end Go.Proofs.Ythaoooohomfkcaa.C

namespace Go.Proofs.Ythaoooohomfkcaa.C
open Go Go.RowKit
open Go.Proofs.YthaoooohomfkcaaW.PrintWords Go.Proofs.YthaoooohomfkcaaW.PrintLast Go.Proofs.YthaoooohomfkcaaW.PrintMore Go.Proofs.Ythaoooohomfkcaa.EvLib Go.Proofs.Ythaoooohomfkcaa.A
set_option linter.unusedVariables false
set_option linter.unusedSimpArgs false
open List renaming length_append → LA, length_cons → LC

inductive OkW : S31 → Prop
 | mk (x : S31) (h : x.f3.length ≤ 2513169434900) (s : x.f1.size ≤ 140737488351232) (k : ∀ y, y ∈ x.f3 → OkW y) : OkW x
theorem OkW.ok : ∀ {x : S31}, OkW x → Ok x := by
 intro x
 induction x using S31.ind with
 | h x ih =>
  intro h
  cases h with
  | mk _ h s k => exact .mk x h (fun y hy => ih y hy (k y hy))
def WB : Nat → Int
 | 0 => 140737488351300
 | d + 1 => WB d + 1048576
theorem WB_eq (d : Nat) : WB d = 140737488351300 + 1048576 * (d : Int) := by
 induction d with
 | zero => rfl
 | succ d ih => rw [WB, ih]; omega
theorem weight_l (d : Nat) (hd : d ≤ 40) (b0 : Int) (b1 : ByteArray) (b2 : Int) : ∀ (t p : List S31) (a : Int), (∀ y, y ∈ t → ∃ r, Ev (fun k => almagestlaw0_TermWeight.f k y.f0 y.f1 y.f2 y.f3 (d : Int)) r ∧ 0 ≤ r ∧ r ≤ WB d) → (p ++ t).length ≤ 2513169434900 → 0 ≤ a → a ≤ WB (d + 1) →
  ∃ r, Ev (fun k => almagestlaw0_TermWeight.l0 k ((d : Int) + 1) a (p.length : Int) b0 b1 b2 (p ++ t)) r ∧ 0 ≤ r ∧ r ≤ WB (d + 1) := by
 intro t
 induction t with
 | nil =>
  intro p a _ hl h0 h1
  exact ⟨a, Ev.step (fun k => rfl) (Ev.ite_neg (by simp) (Ev.now _)), h0, h1⟩
 | cons y t ih =>
  intro p a hy hl h0 h1
  have hl' := hl
  simp only [LA, LC] at hl'
  have hlt : (p.length : Int) < ((p ++ y :: t).length : Int) := by simp only [LA, LC]; omega
  by_cases ha : a < 1048576
  ·
   obtain ⟨s, e1, s1, s2⟩ := hy y (List.mem_cons_self)
   have w1 : WB (d + 1) = WB d + 1048576 := rfl
   have w2 := WB_eq d
   obtain ⟨r, e2, r1, r2⟩ := ih (p ++ [y]) (a + s) (fun z hz => hy z (List.mem_cons_of_mem _ hz)) (by simpa using hl) (by omega) (by omega)
   refine ⟨r, Ev.step (fun k => rfl) (Ev.ite_pos hlt (Ev.ite_pos ha (Ev.ite_pos (by omega) ?_))), r1, r2⟩
   simp only [rdT_mid]
   rw [show wrap64 ((d : Int) + 1 - 1) = (d : Int) by unfold wrap64; omega]
   refine Ev.bind e1 ?_
   rw [wrap_len (by omega), show wrap64 (a + s) = a + s by unfold wrap64; omega]
   simpa using e2
  ·
   exact ⟨a, Ev.step (fun k => rfl) (Ev.ite_pos hlt (Ev.ite_neg ha (Ev.now _))), h0, h1⟩
theorem weight_ev : ∀ (d : Nat) (x : S31), d ≤ 40 → OkW x → ∃ r, Ev (fun k => almagestlaw0_TermWeight.f k x.f0 x.f1 x.f2 x.f3 (d : Int)) r ∧ 0 ≤ r ∧ r ≤ WB d := by
 intro d
 induction d with
 | zero => intro x _ _; exact ⟨1048576, Ev.step (f := fun k => some 1048576) (fun k => by simp [almagestlaw0_TermWeight.f]) (Ev.now _), by omega, by rw [WB]; omega⟩
 | succ d ih =>
  intro x hd hx
  cases hx with
  | mk _ h s k =>
   have w1 : WB (d + 1) = WB d + 1048576 := rfl
   have w2 := WB_eq d
   obtain ⟨r, e, r1, r2⟩ := weight_l d (by omega) x.f0 x.f1 x.f2 x.f3 [] (1 + (x.f1.size : Int)) (fun y hy => ih y (by omega) (k y hy)) (by simpa using h) (by omega) (by omega)
   refine ⟨r, ?_, r1, r2⟩
   rw [show ((d + 1 : Nat) : Int) = (d : Int) + 1 by omega]
   refine Ev.step (f := fun k => if (d : Int) + 1 = 0 then some 1048576 else almagestlaw0_TermWeight.l0 k ((d : Int) + 1) (wrap64 (1 + (x.f1.size : Int))) 0 x.f0 x.f1 x.f2 x.f3) (fun k => rfl) (Ev.ite_neg (by omega) ?_)
   rw [show wrap64 (1 + (x.f1.size : Int)) = 1 + (x.f1.size : Int) by unfold wrap64; omega]
   exact e
theorem terms_l : ∀ (t p : List S31) (a : Int), (∀ y, y ∈ t → OkW y) → (p ++ t).length ≤ 2513169434900 → 0 ≤ a → a ≤ 300000000000000 →
  ∃ r, Ev (fun k => almagestlaw0_Terms.l0 k (p ++ t) a (p.length : Int)) r := by
 intro t
 induction t with
 | nil => intro p a _ hl h0 h1; exact ⟨a, Ev.step (fun k => rfl) (Ev.ite_neg (by simp) (Ev.now _))⟩
 | cons y t ih =>
  intro p a hy hl h0 h1
  have hl' := hl
  simp only [LA, LC] at hl'
  have hlt : (p.length : Int) < ((p ++ y :: t).length : Int) := by simp only [LA, LC]; omega
  by_cases ha : a < 1048576
  ·
   obtain ⟨s, e1, s1, s2⟩ := weight_ev 30 y (by omega) (hy y (List.mem_cons_self))
   have w2 := WB_eq 30
   obtain ⟨r, e2⟩ := ih (p ++ [y]) (a + s) (fun z hz => hy z (List.mem_cons_of_mem _ hz)) (by simpa using hl) (by omega) (by omega)
   refine ⟨r, Ev.step (fun k => rfl) (Ev.ite_pos hlt (Ev.ite_pos ha (Ev.ite_pos (by omega) ?_)))⟩
   simp only [rdT_mid]
   refine Ev.bind e1 ?_
   rw [wrap_len (by omega), show wrap64 (a + s) = a + s by unfold wrap64; omega]
   simpa using e2
  ·
   exact ⟨a, Ev.step (fun k => rfl) (Ev.ite_pos hlt (Ev.ite_neg ha (Ev.now _)))⟩
theorem texts_l : ∀ (t p : List ByteArray) (a : Int), (∀ y, y ∈ t → y.size ≤ 140737488351232) → (p ++ t).length ≤ 140737488351232 → 0 ≤ a → a ≤ 300000000000000 →
  ∃ r, Ev (fun k => almagestlaw0_Texts.l0 k (p ++ t) a (p.length : Int)) r := by
 intro t
 induction t with
 | nil => intro p a _ hl h0 h1; exact ⟨a, Ev.step (fun k => rfl) (Ev.ite_neg (by simp) (Ev.now _))⟩
 | cons y t ih =>
  intro p a hy hl h0 h1
  have hl' := hl
  simp only [LA, LC] at hl'
  have hlt : (p.length : Int) < ((p ++ y :: t).length : Int) := by simp only [LA, LC]; omega
  by_cases ha : a < 1048576
  ·
   have hs := hy y (List.mem_cons_self)
   obtain ⟨r, e2⟩ := ih (p ++ [y]) (a + (y.size : Int)) (fun z hz => hy z (List.mem_cons_of_mem _ hz)) (by simpa using hl) (by omega) (by omega)
   refine ⟨r, Ev.step (fun k => rfl) (Ev.ite_pos hlt (Ev.ite_pos ha (Ev.ite_pos (by omega) ?_)))⟩
   simp only [rdS_mid]
   rw [show wrap64 ((p.length : Int) + 1) = ((p ++ [y]).length : Int) by simp only [LA, LC, List.length_nil]; unfold wrap64; omega, show wrap64 (a + (y.size : Int)) = a + (y.size : Int) by unfold wrap64; omega]
   simpa using e2
  ·
   exact ⟨a, Ev.step (fun k => rfl) (Ev.ite_pos hlt (Ev.ite_neg ha (Ev.now _)))⟩
theorem heavy_ev (l : List S31) (m : List ByteArray) (hl : ∀ y, y ∈ l → OkW y) (hn : l.length ≤ 2513169434900) (hm : ∀ y, y ∈ m → y.size ≤ 140737488351232) (hk : m.length ≤ 140737488351232) :
  ∃ b, Ev (fun k => almagestlaw1_Heavy.f k l m) b := by
 obtain ⟨r, e⟩ := terms_l l [] (l.length : Int) hl (by simpa using hn) (by omega) (by omega)
 obtain ⟨q, f⟩ := texts_l m [] (m.length : Int) hm (by simpa using hk) (by omega) (by omega)
 by_cases hr : r > 2500
 ·
  exact ⟨true, Ev.bind (f := fun k t => if t > 2500 then some true else (almagestlaw0_Texts.f k m).bind fun t => some (decide (t > 2000))) e (Ev.ite_pos hr (Ev.now _))⟩
 ·
  exact ⟨decide (q > 2000), Ev.bind (f := fun k t => if t > 2500 then some true else (almagestlaw0_Texts.f k m).bind fun t => some (decide (t > 2000))) e (Ev.ite_neg hr (Ev.bind f (Ev.now _)))⟩
theorem eqs_l : ∀ (t p : List ByteArray), (p ++ t).length ≤ 140737488351232 → Ev (fun k => almagestref0_EqStrings.l0 k (p ++ t) (p ++ t) (p.length : Int)) true := by
 intro t
 induction t with
 | nil => intro p _; exact Ev.step (fun k => rfl) (Ev.ite_neg (by simp) (Ev.now _))
 | cons y t ih =>
  intro p hl
  have hl' := hl
  simp only [LA, LC] at hl'
  have hlt : (p.length : Int) < ((p ++ y :: t).length : Int) := by simp only [LA, LC]; omega
  refine Ev.step (fun k => rfl) (Ev.ite_pos hlt (Ev.ite_pos (by omega) (Ev.ite_pos hlt (Ev.ite_pos rfl ?_))))
  have := ih (p ++ [y]) (by simpa using hl)
  rw [show wrap64 ((p.length : Int) + 1) = ((p ++ [y]).length : Int) by simp only [LA, LC, List.length_nil]; unfold wrap64; omega]
  simpa using this
theorem eqs_ev (l : List ByteArray) (h : l.length ≤ 140737488351232) : Ev (fun k => almagestref0_EqStrings.f k l l) true := Ev.ite_pos rfl (eqs_l l [] (by simpa using h))
theorem spoil_l (d : Nat) : ∀ (l : List ByteArray) (i : Nat), i + d = l.length → l.length ≤ 140737488351232 → ∃ r, Ev (fun k => almagestlaw0_Strings.l0 k l (i : Int)) r := by
 induction d with
 | zero => intro l i h _; exact ⟨l, Ev.step (fun k => rfl) (Ev.ite_neg (by omega) (Ev.now _))⟩
 | succ d ih =>
  intro l i h hl
  obtain ⟨r, e⟩ := ih (l.set i (⟨#[115, 112, 111, 105, 108, 116]⟩ : ByteArray)) (i + 1) (by rw [List.length_set]; omega) (by rw [List.length_set]; omega)
  refine ⟨r, Ev.step (fun k => rfl) (Ev.ite_pos (by omega) (Ev.ite_pos (by omega) ?_))⟩
  rw [Int.toNat_natCast, show wrap64 ((i : Int) + 1) = ((i + 1 : Nat) : Int) by unfold wrap64; omega]
  exact e
theorem spoil_ev (l : List ByteArray) (h : l.length ≤ 140737488351232) : ∃ r, Ev (fun k => almagestlaw0_Strings.f k l) r := spoil_l l.length l 0 (by omega) h
theorem may_f (x : S31) : term_May.f x.f0 x.f1 x.f2 x.f3 = some (mayB x) := rfl
theorem wakes_ev : Ev (fun k => almagestlaw1_wakes.f k) true := by
 have h0 : mayB ⟨3, (⟨#[102]⟩ : ByteArray), 0, [⟨1, (⟨#[88]⟩ : ByteArray), 0, []⟩]⟩ = true := by decide +kernel
 have ok : Ok ⟨3, (⟨#[102]⟩ : ByteArray), 0, [⟨1, (⟨#[88]⟩ : ByteArray), 0, []⟩]⟩ := .mk _ (by simp) (fun y hy => by rw [List.mem_singleton.1 hy]; exact .mk _ (by simp) (fun z hz => by simp at hz))
 have d0 : deT ⟨3, (⟨#[102]⟩ : ByteArray), 0, [⟨1, (⟨#[88]⟩ : ByteArray), 0, []⟩]⟩ = 2 := by simp [deT, deL, mx]
 have s0 : szT ⟨3, (⟨#[102]⟩ : ByteArray), 0, [⟨1, (⟨#[88]⟩ : ByteArray), 0, []⟩]⟩ = 2 := by simp [szT, szL]
 have hd := deep_ev _ ok (by rw [d0]; omega)
 have hs := size_ev _ ok (by rw [s0]; omega)
 rw [d0] at hd
 rw [s0] at hs
 have e1 : Ev (fun k => term_Depth.f k 3 (⟨#[102]⟩ : ByteArray) 0 [⟨1, (⟨#[88]⟩ : ByteArray), 0, []⟩]) (2, 0) :=
  Ev.bindc (congrArg some h0) (Ev.ite_pos rfl (Ev.bind hd (Ev.now _)))
 have e2 : Ev (fun k => term_Size.f k 3 (⟨#[102]⟩ : ByteArray) 0 [⟨1, (⟨#[88]⟩ : ByteArray), 0, []⟩]) (2, 0) :=
  Ev.bindc (congrArg some h0) (Ev.ite_pos rfl (Ev.bind hs (Ev.now _)))
 exact Ev.bindc rfl (Ev.bind e1 (Ev.bind e2 (Ev.bindc rfl (Ev.ite_pos rfl (Ev.bindc rfl (Ev.ite_pos rfl (Ev.ite_pos rfl (Ev.now _))))))))
theorem five {x : S31} (ok : Ok x) (h : mayB x = true) :
  Ev (fun k => term_Depth.f k x.f0 x.f1 x.f2 x.f3) (deT x, 0) ∧ Ev (fun k => term_Size.f k x.f0 x.f1 x.f2 x.f3) (szT x, 0) ∧
  term_Ground.f x.f0 x.f1 x.f2 x.f3 = some ((((namesS (occ x)).length : Int) == 0), 0) ∧ Ev (fun k => term_Atom.f k x.f0 x.f1 x.f2 x.f3) (decide (x.f0 = 3) && decide (deT x ≤ 2), 0) ∧
  term_Vars.f x.f0 x.f1 x.f2 x.f3 = some (namesS (occ x), 0) := by
 have hv := h
 rw [mayB_eq] at hv
 simp only [Bool.and_eq_true, decide_eq_true_eq] at hv
 have hd := valid_deep 5 x hv.1
 have d := deep_ev x ok (by omega)
 have s := size_ev x ok (by omega)
 have nm : term_Names.f [(⟨x.f0, x.f1, x.f2, x.f3⟩ : S31)] = some (namesS (occ x)) := by cases x; exact names_may h
 refine ⟨Ev.bindc (congrArg some h) (Ev.ite_pos rfl (Ev.bind d (Ev.now _))), Ev.bindc (congrArg some h) (Ev.ite_pos rfl (Ev.bind s (Ev.now _))), ?_, ?_, ?_⟩
 ·
  unfold term_Ground.f term_Is.f
  rw [may_f, h, nm]; rfl
 ·
  refine Ev.bindc (congrArg some h) (Ev.ite_pos rfl (Ev.bind (a := decide (x.f0 = 3) && decide (deT x ≤ 2)) ?_ (Ev.now _)))
  by_cases k3 : x.f0 = 3
  ·
   rw [decide_eq_true k3, Bool.true_and]; exact Ev.ite_pos k3 (Ev.bind d (Ev.now _))
  ·
   rw [decide_eq_false k3, Bool.false_and]; exact Ev.ite_neg k3 (Ev.now _)
 ·
  unfold term_Vars.f
  rw [may_f, h, nm]; rfl
theorem five_no {x : S31} (h : mayB x = false) :
  Ev (fun k => term_Depth.f k x.f0 x.f1 x.f2 x.f3) (0, 1) ∧ Ev (fun k => term_Size.f k x.f0 x.f1 x.f2 x.f3) (0, 1) ∧
  term_Ground.f x.f0 x.f1 x.f2 x.f3 = some (false, 1) ∧ Ev (fun k => term_Atom.f k x.f0 x.f1 x.f2 x.f3) (false, 1) ∧
  term_Vars.f x.f0 x.f1 x.f2 x.f3 = some ([], 1) := by
 refine ⟨Ev.bindc (congrArg some h) (Ev.ite_neg (by simp) (Ev.now _)), Ev.bindc (congrArg some h) (Ev.ite_neg (by simp) (Ev.now _)), ?_, Ev.bindc (congrArg some h) (Ev.ite_neg (by simp) (Ev.now _)), ?_⟩
 ·
  unfold term_Ground.f
  rw [may_f, h]; rfl
 ·
  unfold term_Vars.f
  rw [may_f, h]; rfl
theorem rfive {x : S31} (ok : Ok x) (h : mayB x = true) :
  Ev (fun k => almagestref1_Depth.f k x.f0 x.f1 x.f2 x.f3) (deT x) ∧ Ev (fun k => almagestref1_Size.f k x.f0 x.f1 x.f2 x.f3) (szT x) ∧
  Ev (fun k => almagestref1_Ground.f k x.f0 x.f1 x.f2 x.f3) (((namesS (occ x)).length : Int) == 0) ∧ Ev (fun k => almagestref1_Atom.f k x.f0 x.f1 x.f2 x.f3) (decide (x.f0 = 3) && decide (deT x ≤ 2)) ∧
  Ev (fun k => almagestref1_Vars.f k x.f0 x.f1 x.f2 x.f3) (namesS (occ x)) := by
 have hv := h
 rw [mayB_eq] at hv
 simp only [Bool.and_eq_true, decide_eq_true_eq] at hv
 have hd := valid_deep 5 x hv.1
 have d := rdepth_ev x ok (by omega)
 have v := rvars_ev 5 x hv.1 (by omega)
 refine ⟨d, rSize_ev x h, Ev.bind v (Ev.now _), ?_, v⟩
 by_cases k3 : x.f0 = 3
 ·
  rw [decide_eq_true k3, Bool.true_and]; exact Ev.ite_pos k3 (Ev.bind d (Ev.now _))
 ·
  rw [decide_eq_false k3, Bool.false_and]; exact Ev.ite_neg k3 (Ev.now _)
theorem j2_ev {x : S31} (ok : Ok x) (l : List S31) (m : List ByteArray) (i : Int) (h0 : 0 ≤ i) (h1 : i < (l.length : Int)) (hx : rd_T31 l i = x) (n : Int) (hn : wrap64 (i + 1) = n) (hl : Ev (fun k => almagestlaw1_TermTells.l0 k n l m) true)
  (e : Int) (he : e = if mayB x = true then 0 else 1) (d s : Int) (g a : Bool) (v : List ByteArray) (hv : v.length ≤ 140737488351232) :
  Ev (fun k => almagestlaw1_TermTells.j2 k i d e s e g e a e v e e d s g a v l m x.f0 x.f1 x.f2 x.f3) true := by
 have hc : term_Check.f x.f0 x.f1 x.f2 x.f3 = some e := by
  unfold term_Check.f
  rw [may_f, he]
  cases mayB x <;> rfl
 obtain ⟨q, hq⟩ := spoil_ev v hv
 have heq := eq_ev x ok
 refine Ev.step (fun k => rfl) (Ev.bindc hc (Ev.bindc rfl (Ev.ite_pos rfl (Ev.bindc rfl (Ev.ite_pos rfl (Ev.bindc rfl (Ev.ite_pos rfl (Ev.bindc rfl (Ev.ite_pos rfl (Ev.bindc rfl (Ev.ite_pos rfl (Ev.bindc rfl (Ev.ite_pos rfl (Ev.ite_pos rfl (Ev.ite_pos rfl (Ev.ite_neg (by simp) (Ev.ite_neg (by simp) (Ev.bind (eqs_ev v hv) (Ev.ite_pos rfl (Ev.ite_pos h0 (Ev.ite_pos h1 ?_)))))))))))))))))))))
 rw [hx]
 refine Ev.bind heq (Ev.ite_pos rfl (Ev.bind hq ?_))
 rw [hn]
 exact hl
theorem law_l (l : List S31) (m : List ByteArray) (hl : ∀ y, y ∈ l → OkW y) : ∀ (n i : Nat), i + n = 6 → Ev (fun k => almagestlaw1_TermTells.l0 k (i : Int) l m) true := by
 have end1 : ∀ i : Int, Ev (fun k => almagestlaw1_TermTells.j1 k i false l m) true := fun i =>
  Ev.step (f := fun k => (almagestlaw1_wakes.f k).bind fun t => some t) (fun k => by simp [almagestlaw1_TermTells.j1]) (Ev.bind wakes_ev (Ev.now _))
 intro n
 induction n with
 | zero =>
  intro i hi
  have : i = 6 := by omega
  subst this
  by_cases h : ((6 : Nat) : Int) < (l.length : Int)
  ·
   exact Ev.step (fun k => rfl) (Ev.ite_pos h (by simpa using end1 6))
  ·
   exact Ev.step (fun k => rfl) (Ev.ite_neg h (end1 _))
 | succ n ih =>
  intro i hi
  by_cases h : (i : Int) < (l.length : Int)
  ·
   refine Ev.step (fun k => rfl) (Ev.ite_pos h ?_)
   rw [decide_eq_true (show (i : Int) < 6 by omega)]
   have hx : ∃ x, rd_T31 l (i : Int) = x ∧ OkW x := by
    refine ⟨_, rfl, hl _ ?_⟩
    unfold rd_T31
    rw [List.getD_eq_getElem?_getD, Int.toNat_natCast, List.getElem?_eq_getElem (by omega)]
    exact List.getElem_mem _
   obtain ⟨x, hx, ow⟩ := hx
   have ok := ow.ok
   have nx := ih (i + 1) (by omega)
   have cp := copy_ev x ok
   have rt := rterm_ev x
   refine Ev.succ ?_
   simp only [almagestlaw1_TermTells.j1, eq_self, if_true]
   refine Ev.ite_pos (by omega) (Ev.ite_pos h ?_)
   simp only [hx]
   cases hm : mayB x with
   | true =>
    obtain ⟨a1, a2, a3, a4, a5⟩ := five ok hm
    obtain ⟨b1, b2, b3, b4, b5⟩ := rfive ok hm
    rw [hm] at rt
    refine Ev.bind cp (Ev.bind a1 (Ev.bind a2 (Ev.bindc a3 (Ev.bind a4 (Ev.bindc a5 (Ev.bind rt (Ev.ite_pos rfl (Ev.bind b1 (Ev.bind b2 (Ev.bind b3 (Ev.bind b4 (Ev.bind b5 ?_))))))))))))
    exact j2_ev ok l m i (by omega) h hx _ (by unfold wrap64; omega) nx 0 (by rw [hm]; rfl) _ _ _ _ _ (by
     have := names_len (occ x)
     have := occ_few x
     have hv := hm
     rw [mayB_eq] at hv
     simp only [Bool.and_eq_true, decide_eq_true_eq] at hv
     show (namesS (occ x)).length ≤ _
     omega)
   | false =>
    obtain ⟨a1, a2, a3, a4, a5⟩ := five_no hm
    rw [hm] at rt
    refine Ev.bind cp (Ev.bind a1 (Ev.bind a2 (Ev.bindc a3 (Ev.bind a4 (Ev.bindc a5 (Ev.bind rt (Ev.ite_neg (by simp) ?_)))))))
    exact j2_ev ok l m i (by omega) h hx _ (by unfold wrap64; omega) nx 1 (by rw [hm]; rfl) _ _ _ _ _ (by simp)
  ·
   exact Ev.step (fun k => rfl) (Ev.ite_neg h (end1 _))
theorem tells_ev (l : List S31) (m : List ByteArray) (hl : ∀ y, y ∈ l → OkW y) (hn : l.length ≤ 2513169434900) (hm : ∀ y, y ∈ m → y.size ≤ 140737488351232) (hk : m.length ≤ 140737488351232) : ∃ k, almagestlaw1_TermTells.f k l m = some true := by
 obtain ⟨b, hb⟩ := heavy_ev l m hl hn hm hk
 have : Ev (fun k => almagestlaw1_TermTells.f k l m) true := by
  refine Ev.bind hb ?_
  cases b with
  | true => exact Ev.ite_pos rfl (Ev.now _)
  | false => exact Ev.ite_neg (by simp) (law_l l m hl 6 0 rfl)
 obtain ⟨k, h⟩ := this
 exact ⟨k, h k (Nat.le_refl _)⟩
end Go.Proofs.Ythaoooohomfkcaa.C

namespace Go.Proofs.Ythaoooohomfkcaa.C
open Go Go.RowKit Go.Proofs.Ythaoooohomfkcaa.Open Go.Proofs.YthaoooohomfkcaaW.PrintWords Go.Proofs.Ythaoooohomfkcaa.A
theorem okW_of : ∀ x : S31, g31 x → OkW x := by
 intro x
 induction x using S31.ind with
 | h x ih =>
  intro h
  cases h with
  | mk _ h0 h1 h2 h3 h4 h5 => exact .mk x (by omega) h1 (fun y hy => ih y hy (h5 y hy))
theorem PureTermTells.TermTells : PureTermTells := fun l m hl hm =>
 tells_ev l m (fun y hy => okW_of y (hl.2.2 y hy)) (by have := hl.1; omega) (fun y hy => hm.2.2 y hy) (by have := hm.1; omega)
end Go.Proofs.Ythaoooohomfkcaa.C
