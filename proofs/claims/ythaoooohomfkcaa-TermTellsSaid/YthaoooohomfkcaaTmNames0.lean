/- The variables of terms: plain words. No condition. -/
import Derived.Test.YthaoooohomfkcaaA1
import Derived.Sort.KeysCollected
import Derived.Maps.Own
import Derived.Maps.Views
import Derived.Maps.Keyed
namespace Go.Proofs.Ythaoooohomfkcaa.A
open Go Go.RowKit Go.Maps Go.Sort
open Go.Proofs.YthaoooohomfkcaaW.PrintWords Go.Proofs.YthaoooohomfkcaaW.PrintLast Go.Proofs.YthaoooohomfkcaaW.PrintMore
set_option linter.unusedVariables false
set_option linter.unusedSimpArgs false

theorem S31.ind {P : S31 → Prop} (h : ∀ x, (∀ y, y ∈ x.f3 → P y) → P x) : ∀ x, P x := by
  intro x
  induction hn : SizeOf.sizeOf x using Nat.strongRecOn generalizing x with
  | _ n ih =>
    refine h x (fun y hy => ih (SizeOf.sizeOf y) ?_ y rfl)
    have h1 := List.sizeOf_lt_of_mem hy
    obtain ⟨a, b, c, d⟩ := x
    simp only [] at h1 hy
    rw [← hn]
    simp only [S31.mk.sizeOf_spec]
    omega
mutual
/-- The variables of a term, in order, each as often as it stands there. -/
def occ : S31 → List ByteArray
  | ⟨k, n, _, l⟩ => (if k = 1 then [n] else []) ++ occL l
def occL : List S31 → List ByteArray
  | [] => []
  | x :: l => occ x ++ occL l
end
theorem occ_eq (x : S31) : occ x = (if x.f0 = 1 then [x.f1] else []) ++ occL x.f3 := by
  obtain ⟨a, b, c, d⟩ := x
  rw [occ]
theorem occL_app (l m : List S31) : occL (l ++ m) = occL l ++ occL m := by
  induction l with
  | nil => simp [occL]
  | cons x l ih => simp [occL, ih]
/-- Each once. -/
def dd : List (List UInt8) → List (List UInt8)
  | [] => []
  | x :: l => if x ∈ dd l then dd l else x :: dd l
theorem mem_dd {x : List UInt8} : ∀ {l : List (List UInt8)}, x ∈ dd l ↔ x ∈ l := by
  intro l
  induction l with
  | nil => simp [dd]
  | cons y l ih =>
    simp only [dd]
    split
    · rename_i h
      rw [ih, List.mem_cons]
      constructor
      · exact fun h => Or.inr h
      · rintro (rfl | h')
        · exact ih.1 h
        · exact h'
    · rw [List.mem_cons, List.mem_cons, ih]
theorem nodup_dd : ∀ l : List (List UInt8), (dd l).Nodup := by
  intro l
  induction l with
  | nil => simp [dd]
  | cons y l ih =>
    simp only [dd]
    split
    · exact ih
    · rename_i h; exact List.nodup_cons.2 ⟨h, ih⟩
abbrev leQ (x y : List UInt8) : Bool := decide (x ≤ y)
theorem leQ_trans (a b c : List UInt8) (h1 : leQ a b = true) (h2 : leQ b c = true) : leQ a c = true := decide_eq_true (List.le_trans (of_decide_eq_true h1) (of_decide_eq_true h2))
theorem leQ_total (a b : List UInt8) : (leQ a b || leQ b a) = true := by
  rcases List.le_total a b with h | h
  · simp [leQ, h]
  · simp [leQ, h]
theorem sort_same {l m : List (List UInt8)} (hl : l.Nodup) (hm : m.Nodup) (h : ∀ x, x ∈ l ↔ x ∈ m) : l.mergeSort leQ = m.mergeSort leQ := by
  refine List.Perm.eq_of_pairwise (le := fun a b => leQ a b = true) ?_ (List.pairwise_mergeSort leQ_trans leQ_total l) (List.pairwise_mergeSort leQ_trans leQ_total m) ?_
  · intro a b _ _ h1 h2
    exact List.le_antisymm (of_decide_eq_true h1) (of_decide_eq_true h2)
  · exact ((List.mergeSort_perm l leQ).trans ((List.perm_ext_iff_of_nodup hl hm).2 h)).trans (List.mergeSort_perm m leQ).symm
def bytesL (l : List ByteArray) : List (List UInt8) := l.map fun s => s.data.toList
def namesB (l : List ByteArray) : List (List UInt8) := (dd (bytesL l)).mergeSort leQ
/-- The variables, rising, each once. -/
def namesS (l : List ByteArray) : List ByteArray := (namesB l).map fun x => ⟨x.toArray⟩
def fewB (l : List ByteArray) : Bool := decide (l.length ≤ 1000000) && l.all fun s => decide (s.size ≤ 1000000)
def term_Names.f (l0 : List (S31)) : Option (List ByteArray) := if fewB (occL l0) = true then some (namesS (occL l0)) else none
end Go.Proofs.Ythaoooohomfkcaa.A
