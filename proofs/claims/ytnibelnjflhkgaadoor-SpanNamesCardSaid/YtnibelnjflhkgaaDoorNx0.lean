/- Words of a text, as plain data. No condition. -/
import Derived.Test.YtnibelnjflhkgaaDoorCs0
namespace Go.Proofs.YtnibelnjflhkgaaDoor.Ab
set_option linter.unusedVariables false
set_option linter.unusedSimpArgs false
structure Tk where
  k : Int
  s : List UInt8
  n : Int
  p : Nat
def Tk.av (t : Tk) : AV := .agg [.int .i64 t.k, .str t.s, .int .i64 t.n, .int .i64 (t.p : Nat)]
def inR (lo hi c : Int) : Bool := decide (c ≥ lo) && decide (c ≤ hi)
def digB (c : UInt8) : Bool := inR 48 57 (c.toNat : Nat)
def smaB (c : UInt8) : Bool := inR 97 122 (c.toNat : Nat)
def greB (c : UInt8) : Bool := inR 65 90 (c.toNat : Nat)
def innB (c : UInt8) : Bool := smaB c || greB c || digB c || c == 95
def blaB (c : UInt8) : Bool := c == 32 || c == 9 || c == 10 || c == 13
/-- How many bytes of a text's begin are of a sort. -/
def spanN (f : UInt8 → Bool) : List UInt8 → Nat
  | [] => 0
  | c :: s => if f c then spanN f s + 1 else 0
/-- How many bytes of a text's begin are no word's; true: within a remark. -/
def skipN : Bool → List UInt8 → Nat
  | _, [] => 0
  | true, c :: s => if c = 10 then skipN false s + 1 else skipN true s + 1
  | false, c :: s => if blaB c then skipN false s + 1 else if c = 37 then skipN true s + 1 else 0
def digV (l : List UInt8) : Nat := l.foldl (fun n c => 10 * n + (c.toNat - 48)) 0
def marksL : List (List UInt8) := [[40], [41], [44], [46], [59], [58, 45], [60, 45], [61, 60], [60], [61], [92, 61], [38], [124], [64], [92, 43]]
inductive Wd | tok (k : Int) (s : List UInt8) (n : Int) (len : Nat) | bad (e : Int)
def pre1 (c : UInt8) (s : List UInt8) : Bool := match s with | d :: _ => d == c | [] => false
def digAt (s : List UInt8) : Bool := match s with | d :: _ => digB d | [] => false
def numW (sg : Nat) (s : List UInt8) : Wd :=
  if digV ((s.drop sg).take (spanN digB (s.drop sg))) > 1073741824 then .bad 2
  else .tok 3 [] (if sg = 1 then -(digV ((s.drop sg).take (spanN digB (s.drop sg))) : Int) else (digV ((s.drop sg).take (spanN digB (s.drop sg))) : Int)) (sg + spanN digB (s.drop sg))
def markW (s : List UInt8) : Wd := match marksL.find? (·.isPrefixOf s) with | some m => .tok 4 m 0 m.length | none => .bad 4
def wordW (s : List UInt8) : Wd :=
  match s with
  | [] => .bad 4
  | c :: r =>
    if smaB c || greB c then (if spanN innB (c :: r) > 16 then .bad 2 else .tok (if greB c then 2 else 1) ((c :: r).take (spanN innB (c :: r))) 0 (spanN innB (c :: r)))
    else if digB c then numW 0 (c :: r)
    else if c == 45 && digAt r then numW 1 (c :: r)
    else markW (c :: r)
/-- A text's words behind those that are there: words, where, the error. -/
def toksF : Nat → Nat → List UInt8 → List Tk → List Tk × Nat × Int
  | 0, _, _, _ => ([], 0, 0)
  | f + 1, p, s, acc =>
    if s.drop (skipN false s) = [] then (acc ++ [⟨5, [], 0, p + skipN false s⟩], 0, 0)
    else match wordW (s.drop (skipN false s)) with
      | .bad e => ([], p + skipN false s, e)
      | .tok k t n len => toksF f (p + skipN false s + len) ((s.drop (skipN false s)).drop len) (acc ++ [⟨k, t, n, p + skipN false s⟩])
def toks (s : List UInt8) : List Tk × Nat × Int := if s.length > 4000 then ([], 0, 2) else toksF (s.length + 1) 0 s []
theorem spanN_le (f : UInt8 → Bool) : ∀ s, spanN f s ≤ s.length
  | [] => Nat.le_refl _
  | c :: s => by rw [spanN]; split <;> simp; exact spanN_le f s
theorem skipN_le : ∀ b s, skipN b s ≤ s.length
  | _, [] => by simp [skipN]
  | true, c :: s => by rw [skipN]; split <;> simp <;> exact skipN_le _ s
  | false, c :: s => by rw [skipN]; split; · simp; exact skipN_le _ s
                        split <;> simp; exact skipN_le _ s
theorem skipN_rem : ∀ s, skipN true s = spanN (fun c => c != 10) s + skipN false (s.drop (spanN (fun c => c != 10) s))
  | [] => rfl
  | c :: s => by
    by_cases h : c = 10
    · subst h; simp [skipN, spanN, blaB]
    · have : (c != 10) = true := by simpa using h
      rw [skipN, if_neg h, spanN, this, if_pos rfl, List.drop_succ_cons, skipN_rem s]; omega
theorem spanN_pos {f : UInt8 → Bool} {c : UInt8} {s : List UInt8} (h : f c = true) : 0 < spanN f (c :: s) := by rw [spanN, h]; simp
theorem marks_pos : ∀ m ∈ marksL, 0 < m.length := by decide
theorem wordW_len {s : List UInt8} {k : Int} {t : List UInt8} {n : Int} {len : Nat} (h : wordW s = .tok k t n len) : 0 < len ∧ len ≤ s.length := by
  unfold wordW at h
  split at h
  · cases h
  · rename_i c r
    split at h
    · rename_i h1
      split at h
      · cases h
      · cases h
        exact ⟨spanN_pos (by simp only [innB, Bool.or_eq_true] at h1 ⊢; exact .inl (.inl h1)), spanN_le _ _⟩
    split at h
    · rename_i h1
      unfold numW at h
      split at h
      · cases h
      · cases h
        have := spanN_le digB (c :: r)
        have := spanN_pos (f := digB) (s := r) h1
        simp only [List.drop_zero]; omega
    split at h
    · rename_i h1
      simp only [Bool.and_eq_true] at h1
      unfold numW at h
      split at h
      · cases h
      · cases h
        have := spanN_le digB r
        simp only [List.drop_succ_cons, List.drop_zero, List.length_cons]; omega
    · unfold markW at h
      split at h
      · rename_i m hm
        cases h
        have h1 := List.mem_of_find?_eq_some hm
        have h2 := List.find?_some hm
        exact ⟨marks_pos _ h1, (List.isPrefixOf_iff_prefix.1 h2).length_le⟩
      · cases h
end Go.Proofs.YtnibelnjflhkgaaDoor.Ab
