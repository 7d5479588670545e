/- The order is one of all: plain. -/
import Derived.Test.YthaoooohomfkcaaTt6
namespace Go.Proofs.Ythaoooohomfkcaa.Ab
set_option linter.unusedVariables false
set_option linter.unusedSimpArgs false
set_option maxRecDepth 10000
def Tri (x y z : Int) : Prop := (x = 0 → z = y) ∧ (y = 0 → z = x) ∧ (x < 0 → y < 0 → z < 0) ∧ (x > 0 → y > 0 → z > 0)
theorem or4 (a b c d e : Int) : (if orI [a, b, c, d] ≠ 0 then orI [a, b, c, d] else e) = (if a ≠ 0 then a else if b ≠ 0 then b else if c ≠ 0 then c else if d ≠ 0 then d else e) := by
  simp only [orI]
  by_cases a0 : a = 0 <;> by_cases b0 : b = 0 <;> by_cases c0 : c = 0 <;> by_cases d0 : d = 0 <;> simp [a0, b0, c0, d0]
theorem tri_lex {x y z x' y' z' : Int} (h : Tri x y z) (h' : Tri x' y' z') : Tri (if x ≠ 0 then x else x') (if y ≠ 0 then y else y') (if z ≠ 0 then z else z') := by
  unfold Tri at *
  generalize hX : (if x ≠ 0 then x else x') = X
  generalize hY : (if y ≠ 0 then y else y') = Y
  generalize hZ : (if z ≠ 0 then z else z') = Z
  split at hX <;> split at hY <;> split at hZ <;> subst hX <;> subst hY <;> subst hZ <;> omega
theorem tri_cmpI (a b c : Int) : Tri (cmpI a b) (cmpI b c) (cmpI a c) := by
  unfold Tri cmpI
  split <;> split <;> split <;> (try split) <;> (try split) <;> (try split) <;> omega
theorem anti_cmpI (a b : Int) : cmpI b a = -cmpI a b := by unfold cmpI; split <;> split <;> omega
theorem zero_cmpI (a b : Int) : cmpI a b = 0 ↔ a = b := by unfold cmpI; split <;> (try split) <;> omega
theorem rng_cmpI (a b : Int) : -1 ≤ cmpI a b ∧ cmpI a b ≤ 1 := by unfold cmpI; split <;> (try split) <;> omega
open Lib in
theorem cmpB_cons (a b : UInt8) (ar br : List UInt8) : compareBytes (a :: ar) (b :: br) = if cmpI a.toNat b.toNat ≠ 0 then cmpI a.toNat b.toNat else compareBytes ar br := by
  rw [compareBytes]
  by_cases h : a < b
  · have h' : (a.toNat : Int) < b.toNat := by have := UInt8.lt_iff_toNat_lt.1 h; omega
    simp [h, cmpI, h']
  · have h' : ¬ (a.toNat : Int) < b.toNat := fun q => h (UInt8.lt_iff_toNat_lt.2 (by omega))
    by_cases k : b < a
    · have k' : (b.toNat : Int) < a.toNat := by have := UInt8.lt_iff_toNat_lt.1 k; omega
      simp [h, k, cmpI, h', k']
    · have k' : ¬ (b.toNat : Int) < a.toNat := fun q => k (UInt8.lt_iff_toNat_lt.2 (by omega))
      simp [h, k, cmpI, h', k']
open Lib in
theorem anti_cmpB : ∀ a b : List UInt8, compareBytes b a = -compareBytes a b
  | [], [] => by simp [compareBytes]
  | [], _ :: _ => by simp [compareBytes]
  | _ :: _, [] => by simp [compareBytes]
  | a :: ar, b :: br => by rw [cmpB_cons, cmpB_cons, anti_cmpI, anti_cmpB ar br]; split <;> split <;> omega
open Lib in
theorem zero_cmpB : ∀ a b : List UInt8, compareBytes a b = 0 ↔ a = b
  | [], [] => by simp [compareBytes]
  | [], _ :: _ => by simp [compareBytes]
  | _ :: _, [] => by simp [compareBytes]
  | a :: ar, b :: br => by
    rw [cmpB_cons]
    have h1 := zero_cmpI a.toNat b.toNat
    have h2 := zero_cmpB ar br
    have h3 : ((a.toNat : Int) = b.toNat) ↔ a = b := by rw [← UInt8.toNat_inj]; omega
    by_cases h : cmpI a.toNat b.toNat = 0
    · simp only [h, ne_eq, not_true_eq_false, if_false]
      rw [h2, h3.1 (h1.1 h)]
      simp
    · have : a ≠ b := fun e => h (h1.2 (h3.2 e))
      simp [h, this]
open Lib in
theorem rng_cmpB : ∀ a b : List UInt8, -1 ≤ compareBytes a b ∧ compareBytes a b ≤ 1
  | [], [] => by simp [compareBytes]
  | [], _ :: _ => by simp [compareBytes]
  | _ :: _, [] => by simp [compareBytes]
  | a :: ar, b :: br => by rw [cmpB_cons]; split; exact rng_cmpI _ _; exact rng_cmpB ar br
open Lib in
theorem tri_cmpB : ∀ a b c : List UInt8, Tri (compareBytes a b) (compareBytes b c) (compareBytes a c)
  | [], [], [] => by simp [compareBytes, Tri]
  | [], [], _ :: _ => by simp [compareBytes, Tri]
  | [], _ :: _, [] => by simp [compareBytes, Tri]
  | [], b :: br, c :: cr => by simp [compareBytes, Tri]
  | _ :: _, [], [] => by simp [compareBytes, Tri]
  | a :: ar, [], c :: cr => by simp [compareBytes, Tri]
  | a :: ar, b :: br, [] => by simp [compareBytes, Tri]
  | a :: ar, b :: br, c :: cr => by
    rw [cmpB_cons, cmpB_cons, cmpB_cons]
    exact tri_lex (tri_cmpI _ _ _) (tri_cmpB ar br cr)
theorem cmpT_mk (k : Int) (n : List UInt8) (v : Int) (l : List T) (k' : Int) (n' : List UInt8) (v' : Int) (l' : List T) : cmpT (.mk k n v l) (.mk k' n' v' l') =
    (if cmpI k k' ≠ 0 then cmpI k k' else if cmpI v v' ≠ 0 then cmpI v v' else if cmpI l.length l'.length ≠ 0 then cmpI l.length l'.length else if Lib.compareBytes n n' ≠ 0 then Lib.compareBytes n n' else cmpTs l l') := by
  rw [cmpT, or4]
theorem cmpTs_cons (t u : T) (l m : List T) : cmpTs (t :: l) (u :: m) = if cmpT t u ≠ 0 then cmpT t u else cmpTs l m := by rw [cmpTs]
theorem anti_Ts : ∀ (l : List T), (∀ t ∈ l, ∀ u, cmpT u t = -cmpT t u) → ∀ m, cmpTs m l = -cmpTs l m
  | [], _, [] => by simp [cmpTs]
  | [], _, _ :: _ => by simp [cmpTs]
  | _ :: _, _, [] => by simp [cmpTs]
  | t :: l, h, u :: m => by
    rw [cmpTs_cons, cmpTs_cons, h t (by simp) u, anti_Ts l (fun x hx => h x (by simp [hx])) m]
    split <;> split <;> omega
theorem anti_T : ∀ t u : T, cmpT u t = -cmpT t u := by
  refine T.ind ?_
  rintro k n v l ih ⟨k', n', v', l'⟩
  rw [cmpT_mk, cmpT_mk, anti_cmpI k k', anti_cmpI v v', anti_cmpI l.length l'.length, anti_cmpB n n', anti_Ts l ih l']
  by_cases h1 : cmpI k k' = 0 <;> by_cases h2 : cmpI v v' = 0 <;> by_cases h3 : cmpI l.length l'.length = 0 <;> by_cases h4 : Lib.compareBytes n n' = 0 <;> simp [h1, h2, h3, h4]
theorem rng_Ts : ∀ (l : List T), (∀ t ∈ l, ∀ u, -1 ≤ cmpT t u ∧ cmpT t u ≤ 1) → ∀ m, -1 ≤ cmpTs l m ∧ cmpTs l m ≤ 1
  | [], _, [] => by simp [cmpTs]
  | [], _, _ :: _ => by simp [cmpTs]
  | _ :: _, _, [] => by simp [cmpTs]
  | t :: l, h, u :: m => by
    rw [cmpTs_cons]
    split
    · exact h t (by simp) u
    · exact rng_Ts l (fun x hx => h x (by simp [hx])) m
theorem rng_T : ∀ t u : T, -1 ≤ cmpT t u ∧ cmpT t u ≤ 1 := by
  refine T.ind ?_
  rintro k n v l ih ⟨k', n', v', l'⟩
  rw [cmpT_mk]
  split
  · exact rng_cmpI _ _
  split
  · exact rng_cmpI _ _
  split
  · exact rng_cmpI _ _
  split
  · exact rng_cmpB _ _
  exact rng_Ts l ih l'
theorem tri_Ts : ∀ (l : List T), (∀ t ∈ l, ∀ u w, Tri (cmpT t u) (cmpT u w) (cmpT t w)) → ∀ m p, Tri (cmpTs l m) (cmpTs m p) (cmpTs l p)
  | [], _, [], [] => by simp [cmpTs, Tri]
  | [], _, [], _ :: _ => by simp [cmpTs, Tri]
  | [], _, _ :: _, [] => by simp [cmpTs, Tri]
  | [], _, b :: br, c :: cr => by simp [cmpTs, Tri]
  | _ :: _, _, [], [] => by simp [cmpTs, Tri]
  | a :: ar, _, [], c :: cr => by simp [cmpTs, Tri]
  | a :: ar, _, b :: br, [] => by simp [cmpTs, Tri]
  | t :: l, h, u :: m, w :: p => by
    rw [cmpTs_cons, cmpTs_cons, cmpTs_cons]
    exact tri_lex (h t (by simp) u w) (tri_Ts l (fun x hx => h x (by simp [hx])) m p)
theorem tri_T : ∀ t u w : T, Tri (cmpT t u) (cmpT u w) (cmpT t w) := by
  refine T.ind ?_
  rintro k n v l ih ⟨k', n', v', l'⟩ ⟨k'', n'', v'', l''⟩
  rw [cmpT_mk, cmpT_mk, cmpT_mk]
  exact tri_lex (tri_cmpI _ _ _) (tri_lex (tri_cmpI _ _ _) (tri_lex (tri_cmpI _ _ _) (tri_lex (tri_cmpB _ _ _) (tri_Ts l ih l' l''))))
theorem zero_Ts : ∀ (l : List T), (∀ t ∈ l, ∀ u, cmpT t u = 0 ↔ eqT t u = true) → ∀ m, cmpTs l m = 0 ↔ eqTs l m = true
  | [], _, [] => by simp [cmpTs, eqTs]
  | [], _, _ :: _ => by simp [cmpTs, eqTs]
  | _ :: _, _, [] => by simp [cmpTs, eqTs]
  | t :: l, h, u :: m => by
    have h1 := h t (by simp) u
    have h2 := zero_Ts l (fun x hx => h x (by simp [hx])) m
    rw [cmpTs_cons, eqTs]
    by_cases e : cmpT t u = 0
    · simp [e, h2, h1.1 e]
    · have : eqT t u = false := by rw [← Bool.not_eq_true]; exact fun q => e (h1.2 q)
      simp [e, this]
theorem zero_T : ∀ t u : T, cmpT t u = 0 ↔ eqT t u = true := by
  refine T.ind ?_
  rintro k n v l ih ⟨k', n', v', l'⟩
  rw [cmpT_mk, eqT]
  have h1 := zero_cmpI k k'
  have h2 := zero_cmpI v v'
  have h3 := zero_cmpI l.length l'.length
  have h4 := zero_cmpB n n'
  have h5 := zero_Ts l ih l'
  by_cases e1 : cmpI k k' = 0
  · by_cases e2 : cmpI v v' = 0
    · by_cases e3 : cmpI l.length l'.length = 0
      · by_cases e4 : Lib.compareBytes n n' = 0
        · simp only [e1, e2, e3, e4, ne_eq, not_true_eq_false, if_false]
          rw [h5, h1.1 e1, h2.1 e2, h4.1 e4]
          simp
        · have : ¬ n = n' := fun q => e4 (h4.2 q)
          simp [e1, e2, e3, e4, this]
      · have : eqTs l l' = false := eqTs_len (fun q => e3 (h3.2 (by omega)))
        simp [e1, e2, e3, this]
    · have : ¬ v = v' := fun q => e2 (h2.2 q)
      simp [e1, e2, this]
  · have : ¬ k = k' := fun q => e1 (h1.2 q)
    simp [e1, this]
theorem same_T (t u : T) : (cmpT t u == 0) = eqT t u := by
  rw [Bool.eq_iff_iff, ← zero_T]; simp
end Go.Proofs.Ythaoooohomfkcaa.Ab
