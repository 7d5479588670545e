/- Values made of parts, and those that a type begins with. No condition. -/
import Derived.Test.YtnibelnjflhkgaaDoorAb4
import Derived.Laws.Tables
namespace Go.Proofs.YtnibelnjflhkgaaDoor.Ab
set_option linter.unusedVariables false
set_option linter.unusedSimpArgs false
open Go.RowKit

/-- A constant; 'n': the cells of an element, where it is a nil slice. -/
def constA1 (n : Nat) : Value → AV
  | .bool b => .bool b
  | .int k n => .int k n
  | .string s => .str s.data.toList
  | .slice none 0 0 => .sl .full n []
  | .pointer none => .pnil
  | .map none => .mnil
  | .nilFunc => .fnil
  | v => .val v
def constA (n : Nat) : Value → AV
  | .agg cs => .agg (cs.toList.map fun v => strip (constA1 0 v))
  | v => constA1 n v

def okc : AV → Bool
  | .junk => false
  | .val _ => false
  | .tup _ => false
  | _ => true

section
variable {P : Program} {g : Gh} {w : World}
theorem constA1_vr (n : Nat) (v : Value) : VR g w (constA1 n v) v := by
  unfold constA1
  split
  · exact .bool _
  · exact .int _ _
  · exact VR.str _
  · exact .sl0 _ _
  · exact .pnil
  · exact .mnil
  · exact .fnil
  · exact .val _
theorem constA1_not (n : Nat) (v : Value) (b : Nat) : ¬ OwnV (constA1 n v) v b := by
  rintro ⟨sz, xs, o, len, cap, h1, h2⟩
  subst h2
  simp [constA1] at h1
theorem oneCell_of {a : AV} {v : Value} (h : VR g w a v) (ho : okc a = true) (hn : ∀ cs, a ≠ .agg cs) : v.oneCell' = true := by
  cases h <;> simp [okc] at ho <;> first | rfl | exact absurd rfl (hn _)
theorem CL_map_strip {cs : List AV} {vs : List Value} (h : CL g w cs vs) : CL g w (cs.map strip) vs := by
  induction cs generalizing vs with
  | nil => cases h; exact .nil
  | cons c cs ih => cases h with | cons _ _ v vs h1 h2 t => exact .cons _ _ _ _ h1 h2.strip (ih t)
theorem cellsCL {a : AV} {v : Value} (h : VR g w a v) (ho : okc a = true) : CL g w a.cells v.cells.toList := by
  by_cases hn : ∃ cs, a = .agg cs
  · obtain ⟨cs, rfl⟩ := hn
    cases h with | agg _ vs hc => simpa [AV.cells, Value.cells] using hc
  · have h1 := oneCell_of h ho (fun cs e => hn ⟨cs, e⟩)
    have e1 : a.cells = [a] := by cases a <;> first | rfl | exact absurd ⟨_, rfl⟩ hn
    have e2 : v.cells = #[v] := by cases v <;> simp [Value.oneCell'] at h1 <;> rfl
    rw [e1, e2]
    exact .cons _ _ _ _ h1 h .nil
theorem constA_vr (n : Nat) (v : Value) (hv : ∀ cs, v = .agg cs → ∀ u ∈ cs.toList, u.oneCell' = true) : VR g w (constA n v) v := by
  unfold constA
  split
  · rename_i cs
    have : ∀ l : List Value, (∀ u ∈ l, u.oneCell' = true) → CL g w (l.map fun v => strip (constA1 0 v)) l := by
      intro l
      induction l with
      | nil => intro _; exact .nil
      | cons u l ih => intro h; exact .cons _ _ _ _ (h u (by simp)) (constA1_vr 0 u).strip (ih fun x hx => h x (by simp [hx]))
    exact .agg _ _ (this cs.toList (hv cs rfl))
  · exact constA1_vr n v
theorem constA_not (n : Nat) (v : Value) (b : Nat) : ¬ OwnV (constA n v) v b := by
  unfold constA
  split
  · rintro ⟨sz, xs, o, len, cap, h1, h2⟩; cases h1
  · exact constA1_not n v b
end

/-- What a type's variable begins with. -/
def zeroC (P : Program) : Nat → TypeId → Option (List AV)
  | 0, _ => none
  | d + 1, t =>
    match P.underlying t with
    | some .bool => some [.bool false]
    | some (.int k) => some [.int k 0]
    | some .string => some [.str []]
    | some (.pointer _) => some [.pnil]
    | some (.map _ _) => some [.mnil]
    | some (.func _ _ _) => some [.fnil]
    | some (.slice e) => match szT P e with | some n => some [.sl .full n []] | none => none
    | some (.struct fs) => fs.toList.foldr (fun f acc => match zeroC P d f.type, acc with | some a, some b => some (a ++ b) | _, _ => none) (some [])
    | some (.array n e) => match zeroC P d e with | some a => some (List.replicate n a).flatten | none => none
    | _ => none
def matchZ1 : AV → Value → Bool
  | .bool b, .bool c => b == c
  | .int k n, .int k' n' => k == k' && n == n'
  | .str l, .string s => l == s.data.toList
  | .pnil, .pointer none => true
  | .mnil, .map none => true
  | .fnil, .nilFunc => true
  | .sl _ _ [], .slice none 0 0 => true
  | _, _ => false
def matchZ : List AV → List Value → Bool
  | [], [] => true
  | a :: as, v :: vs => matchZ1 a v && matchZ as vs
  | _, _ => false
def zeroA (P : Program) (t : TypeId) : Option (List AV) :=
  match zeroC P 12 t, (P.info? t).bind (·.zero) with
  | some cs, some z => if matchZ cs z.cells.toList && (szT P t == some cs.length) then some cs else none
  | _, _ => none

section
variable {P : Program} {g : Gh} {w : World}
theorem matchZ1_vr {a : AV} {v : Value} (h : matchZ1 a v = true) : VR g w a v ∧ v.oneCell' = true ∧ ∀ b, ¬ OwnV a v b := by
  unfold matchZ1 at h
  split at h
  · simp at h; subst h; exact ⟨.bool _, rfl, fun b ⟨_, _, _, _, _, h1, _⟩ => by cases h1⟩
  · simp at h; obtain ⟨rfl, rfl⟩ := h; exact ⟨.int _ _, rfl, fun b ⟨_, _, _, _, _, h1, _⟩ => by cases h1⟩
  · simp at h; subst h; exact ⟨.str _, rfl, fun b ⟨_, _, _, _, _, h1, _⟩ => by cases h1⟩
  · exact ⟨.pnil, rfl, fun b ⟨_, _, _, _, _, h1, _⟩ => by cases h1⟩
  · exact ⟨.mnil, rfl, fun b ⟨_, _, _, _, _, h1, _⟩ => by cases h1⟩
  · exact ⟨.fnil, rfl, fun b ⟨_, _, _, _, _, h1, _⟩ => by cases h1⟩
  · exact ⟨.sl0 _ _, rfl, fun b ⟨_, _, _, _, _, _, h1⟩ => by cases h1⟩
  · cases h
theorem matchZ_cl {cs : List AV} {vs : List Value} (h : matchZ cs vs = true) : CL g w cs vs ∧ ∀ (j : Nat) av v, cs[j]? = some av → vs[j]? = some v → ∀ b, ¬ OwnV av v b := by
  induction cs generalizing vs with
  | nil => cases vs <;> simp [matchZ] at h; exact ⟨.nil, by simp⟩
  | cons c cs ih =>
    cases vs with
    | nil => simp [matchZ] at h
    | cons v vs =>
      simp [matchZ] at h
      obtain ⟨h1, h2, h3⟩ := matchZ1_vr (g := g) (w := w) h.1
      obtain ⟨k1, k2⟩ := ih h.2
      refine ⟨.cons _ _ _ _ h2 h1 k1, fun j av u hj hu => ?_⟩
      cases j with
      | zero => simp at hj hu; subst hj; subst hu; exact h3
      | succ j => simp at hj hu; exact k2 j av u hj hu
theorem zeroA_spec {t : TypeId} {cs : List AV} (h : zeroA P t = some cs) : ∃ i z, P.info? t = some i ∧ i.zero = some z ∧ matchZ cs z.cells.toList = true ∧ szT P t = some cs.length := by
  unfold zeroA at h
  split at h
  · rename_i cs' z h1 h2
    split at h
    · rename_i hm
      simp at h hm; subst h
      cases hi : P.info? t with
      | none => simp [hi] at h2
      | some i => simp [hi] at h2; exact ⟨i, z, rfl, h2, hm.1, hm.2⟩
    · cases h
  · cases h
end

def stPl (P : Program) (t : TypeId) : Option (List (Nat × Nat)) :=
  match P.underlying t with
  | some (.struct fs) => fs.toList.mapM fun f => (P.info? f.type).map fun i => (f.offset, i.size)
  | _ => none
def arPl (P : Program) (t : TypeId) : Option Nat := match P.underlying t with | some (.array _ e) => szT P e | _ => none
def fillA (pl : Nat → Option (Nat × Nat)) : List AV → List (Nat × AV) → Option (List AV)
  | cs, [] => some cs
  | cs, (i, a) :: rest =>
    match pl i with
    | some (off, size) => if okc a = true ∧ a.cells.length = size ∧ off + size ≤ cs.length then fillA pl (cs.take off ++ (a.cells.map strip ++ cs.drop (off + size))) rest else none
    | none => none
def buildA (P : Program) (t : TypeId) (parts : List (Nat × AV)) : Option AV :=
  match zeroA P t with
  | some zs => match stPl P t with
    | some l => match fillA (fun i => l[i]?) (zs.map strip) parts with | some cs => some (.agg cs) | none => none
    | none => match arPl P t with
      | some n => match fillA (fun i => some (i * n, n)) (zs.map strip) parts with | some cs => some (.agg cs) | none => none
      | none => none
  | none => none

inductive PR (g : Gh) (w : World) : List (Nat × AV) → List (Nat × Value) → Prop
  | nil : PR g w [] []
  | cons (i a v ps qs) (h : VR g w a v) (t : PR g w ps qs) : PR g w ((i, a) :: ps) ((i, v) :: qs)

theorem foldl_set : ∀ (l : List Value) (k off : Nat) (cs : Array Value), off + k + l.length ≤ cs.size →
    (l.zipIdx k).foldl (fun cs (p : Value × Nat) => cs.setIfInBounds (off + p.2) p.1) cs = (cs.toList.take (off + k) ++ (l ++ cs.toList.drop (off + k + l.length))).toArray := by
  intro l
  induction l with
  | nil => intro k off cs h; simp
  | cons v l ih =>
    intro k off cs h
    simp only [List.zipIdx_cons, List.foldl_cons]
    rw [ih (k + 1) off _ (by simp at h ⊢; omega)]
    have hlt : off + k < cs.toList.length := by simp at h ⊢; omega
    congr 1
    rw [Array.toList_setIfInBounds]
    have e1 : (cs.toList.set (off + k) v).take (off + (k + 1)) = cs.toList.take (off + k) ++ [v] := by
      rw [← Nat.add_assoc, List.take_add_one, List.getElem?_set_self hlt, List.take_set_of_le (Nat.le_refl _)]
      rfl
    have e2 : (cs.toList.set (off + k) v).drop (off + (k + 1) + l.length) = cs.toList.drop (off + k + (v :: l).length) := by
      rw [List.drop_set_of_lt (by omega)]
      congr 1
      simp; omega
    rw [e1, e2]
    simp

section
variable {P : Program} {g : Gh} {w : World}
theorem run_fillA {pl : Nat → Option (Nat × Nat)} {parts : List (Nat × AV)} {vparts : List (Nat × Value)} (hp : PR g w parts vparts) : ∀ {cs : List AV} {vs : List Value} {r : List AV}, CL g w cs vs → fillA pl cs parts = some r →
    ∃ us, Instr.fill pl ⟨vs⟩ vparts = some ⟨us⟩ ∧ CL g w r us := by
  induction hp with
  | nil => intro cs vs r hc h; simp [fillA] at h; subst h; exact ⟨vs, rfl, hc⟩
  | cons i a v ps qs hv _ ih =>
    intro cs vs r hc h
    unfold fillA at h
    split at h
    · rename_i off size hpl
      split at h
      · rename_i hk
        obtain ⟨ho, hl, hle⟩ := hk
        have hcl := cellsCL hv ho
        have hl' : v.cells.toList.length = size := by rw [← hcl.length]; exact hl
        have hlv := hc.length
        have hl2 : v.cells.size = size := by simpa using hl'
        obtain ⟨us, h1, h2⟩ := ih (((hc.take off).append ((CL_map_strip hcl).append (hc.drop (off + size))))) h
        refine ⟨us, ?_, h2⟩
        unfold Instr.fill
        have hcond : ¬ ((v.cells.size ≠ size || decide (off + v.cells.size > (⟨vs⟩ : Array Value).size)) = true) := by
          simp [hl2]; omega
        have hf := foldl_set v.cells.toList 0 off ⟨vs⟩ (by simp; omega)
        have hz : v.cells.zipIdx.foldl (fun cs (x : Value × Nat) => cs.setIfInBounds (off + x.2) x.1) (⟨vs⟩ : Array Value) = (vs.take off ++ (v.cells.toList ++ vs.drop (off + size))).toArray := by
          rw [← Array.foldl_toList, Array.toList_zipIdx, hf, hl']; rfl
        simp only [hpl]
        rw [if_neg hcond]
        refine Eq.trans ?_ h1
        exact congrArg (fun z => Instr.fill pl z qs) hz
      · cases h
    · cases h
theorem run_buildA {t : TypeId} {parts : List (Nat × AV)} {vparts : Array (Nat × Value)} {r : AV} (hp : PR g w parts vparts.toList) (h : buildA P t parts = some r) :
    ∃ z, (Instr.build t vparts).run P w = .ok z w ∧ VR g w r z ∧ NotOwn r := by
  unfold buildA at h
  split at h
  · rename_i zs hz
    obtain ⟨i, z, h1, h2, h3, h4⟩ := zeroA_spec hz
    have hcl := CL_map_strip (matchZ_cl (g := g) (w := w) h3).1
    split at h
    · rename_i l hl
      split at h
      · rename_i cs hf
        simp at h; subst h
        obtain ⟨us, k1, k2⟩ := run_fillA hp hcl hf
        refine ⟨.agg ⟨us⟩, run_build w t vparts ⟨us⟩ ?_, .agg _ _ k2, fun _ _ e => by cases e⟩
        unfold stPl at hl
        split at hl
        · rename_i fs hu
          simp only [Program.built, h1, hu, h2, hl]
          simpa using k1
        · cases hl
      · cases h
    · split at h
      · rename_i n hn
        split at h
        · rename_i cs hf
          simp at h; subst h
          obtain ⟨us, k1, k2⟩ := run_fillA hp hcl hf
          refine ⟨.agg ⟨us⟩, run_build w t vparts ⟨us⟩ ?_, .agg _ _ k2, fun _ _ e => by cases e⟩
          unfold arPl at hn
          split at hn
          · rename_i m e hu
            unfold szT at hn
            cases hi : P.info? e with
            | none => simp [hi] at hn
            | some ie =>
              simp [hi] at hn; subst hn
              simp only [Program.built, h1, hu, h2, hi]
              simpa using k1
          · cases hn
        · cases h
      · cases h
  · cases h

def minA (a b : AV) : Option AV := match a, b with | .int k x, .int k' y => if k = k' then some (.int k (if y < x then y else x)) else none | _, _ => none
def maxA (a b : AV) : Option AV := match a, b with | .int k x, .int k' y => if k = k' then some (.int k (if y > x then y else x)) else none | _, _ => none
theorem run_minA {a b r : AV} {u v : Value} (hx : VR g w a u) (hy : VR g w b v) (h : minA a b = some r) : ∃ z, (∀ ts t, (Builtin.min_ ts t #[u, v]).run P w = .ok z w) ∧ VR g w r z ∧ NotOwn r := by
  cases hx <;> cases hy <;> simp only [minA] at h <;> try (cases h; done)
  split at h
  · simp at h; subst h; exact ⟨_, fun ts t => run_min_int2 w ts t _ _ _ _, .int _ _, fun _ _ e => by cases e⟩
  · cases h
theorem run_maxA {a b r : AV} {u v : Value} (hx : VR g w a u) (hy : VR g w b v) (h : maxA a b = some r) : ∃ z, (∀ ts t, (Builtin.max_ ts t #[u, v]).run P w = .ok z w) ∧ VR g w r z ∧ NotOwn r := by
  cases hx <;> cases hy <;> simp only [maxA] at h <;> try (cases h; done)
  split at h
  · simp at h; subst h; exact ⟨_, fun ts t => run_max_int2 w ts t _ _ _ _, .int _ _, fun _ _ e => by cases e⟩
  · cases h
end
end Go.Proofs.YtnibelnjflhkgaaDoor.Ab
