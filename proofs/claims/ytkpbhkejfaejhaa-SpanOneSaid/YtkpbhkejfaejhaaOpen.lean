/- What a readable datum is, as a Lean value of the printed kinds: by the type's shape; how long and how large it is comes along. Plain lemmas over the reading; no condition. -/
import Derived.ChangeArms
import Derived.Deep.Slices
import Derived.DataElems
import Derived.WideShapes
import Derived.SizedLaws
import Derived.Test.YtkpbhkejfaejhaaWWords
import Derived.Test.YtkpbhkejfaejhaaWMore
namespace Go.Proofs.Ytkpbhkejfaejhaa.Open
open Go Go.RowKit Go.ChangeShapes Go.WideShapes Go.Proofs.YtkpbhkejfaejhaaW.PrintWords
set_option linter.unusedVariables false

structure At {α : Type} (P : Program) (n : Nat) (t : TypeId) (d : Kd α) (G : α → Prop) : Prop where
  sz : d.sz = P.cellsOf t
  op : ∀ {H : Type} {enc : TypeId × Value → H} {w : World} {base : Nat} {sp : Nat → Bool} {hd : Bool} {cs : List Value} {x : DataW H × List MemPlace},
    DataW.trod enc P w base sp hd n t cs = some x → (∀ k ∈ x.1.weights P t, k ≤ reachBytes) → ∃ y : α, d.K w y cs ∧ G y

/-- What is known of a value that was read: a number is of its kind; a text, a slice is no larger than memory. -/
def Num (k : IntKind) (x : Int) : Prop := (Lit.int k x).wf = true
def Str (s : ByteArray) : Prop := s.size ≤ 140737488351232
def Bit (_ : Bool) : Prop := True
def Row {α : Type} (B : Nat) (G : α → Prop) (xs : List α) : Prop := xs.length * B ≤ 140737488351232 ∧ xs.length ≤ 9223372036854775807 ∧ ∀ x ∈ xs, G x

theorem At.imp {α : Type} {P : Program} {n : Nat} {t : TypeId} {d : Kd α} {G G' : α → Prop} (h : At P n t d G) (i : ∀ x, G x → G' x) : At P n t d G' :=
  ⟨h.sz, fun hx hw => by obtain ⟨y, hk, hg⟩ := h.op hx hw; exact ⟨y, hk, i y hg⟩⟩

theorem At.int {P : Program} {n : Nat} {t : TypeId} {k : IntKind} (ht : P.underlying t = some (.int k)) (hc : P.cellsOf t = 1) : At P n t (Kd.int k) (Num k) :=
  ⟨hc.symm, fun hx _ => by
    obtain ⟨m, rfl, rfl, hw⟩ := DataW.trod_int ht hx
    exact ⟨m, rfl, hw⟩⟩
theorem At.bool {P : Program} {n : Nat} {t : TypeId} (ht : P.underlying t = some .bool) (hc : P.cellsOf t = 1) : At P n t Kd.bool Bit :=
  ⟨hc.symm, fun hx _ => by
    obtain ⟨m, rfl, rfl⟩ := DataW.trod_bool ht hx
    exact ⟨m, rfl, trivial⟩⟩
theorem At.string {P : Program} {n : Nat} {t : TypeId} (ht : P.underlying t = some .string) (hc : P.cellsOf t = 1) : At P n t Kd.string Str :=
  ⟨hc.symm, fun hx hw => by
    obtain ⟨s, rfl, rfl, _⟩ := DataW.trod_string ht hx
    refine ⟨s, rfl, ?_⟩
    unfold Str
    have := hw s.data.toList.length (by simp [DataW.weights])
    simpa [reachBytes] using this⟩

theorem weightsAll_mem {H : Type} {P : Program} {e : TypeId} : ∀ {ds : List (DataW H)} {i : Nat} {d : DataW H}, ds[i]? = some d → ∀ k ∈ d.weights P e, k ∈ DataW.weightsAll P e ds
  | d0 :: ds, 0, d, h, k, hk => by
    simp only [List.getElem?_cons_zero, Option.some.injEq] at h
    subst h
    simp only [DataW.weightsAll, List.mem_append]
    exact Or.inl hk
  | d0 :: ds, i + 1, d, h, k, hk => by
    simp only [List.getElem?_cons_succ] at h
    simp only [DataW.weightsAll, List.mem_append]
    exact Or.inr (weightsAll_mem h k hk)
  | [], _, _, h, _, _ => by simp at h

theorem At.slice {α : Type} {P : Program} {n : Nat} {t e : TypeId} {d : Kd α} {G : α → Prop} {B : Nat} (ht : P.underlying t = some (.slice e)) (hc : P.cellsOf t = 1) (hB : P.bytesOf e = B) (h : ∀ m, m + 1 = n → At P m e d G) :
    At P n t (Kd.slice e d) (Row B G) :=
  ⟨hc.symm, @fun H enc w base sp hd cs x hx hw => by
    rcases DataW.trod_slice ht hx with ⟨rfl, rfl⟩ | ⟨a, len, cap, elems, rest, m, hm, rfl, rfl, hb, hl, hcap, hlen, hel, _, _⟩
    · exact ⟨[], ⟨none, 0, rfl, Nat.le_refl _, Kd.C_nil d w⟩, by simp, by simp, fun x hx => by simp at hx⟩
    · subst hm
      have A := h m rfl
      have hsz := A.sz
      have hw1 : ((elems.map (·.1)).length + (rest.map (·.1)).length) * P.bytesOf e ≤ reachBytes := hw _ (by simp [DataW.weights, ht])
      have hwe : ∀ (i : Nat) (y : DataW H × List MemPlace), elems[i]? = some y → ∀ k ∈ y.1.weights P e, k ≤ reachBytes := fun i y hi k hk => hw k (by
        simp only [DataW.weights, ht, List.mem_cons, List.mem_append]
        exact Or.inr (Or.inl (weightsAll_mem (i := i) (by rw [List.getElem?_map, hi]; rfl) k hk)))
      have key : ∀ m', m' ≤ len → ∃ ys : List α, ys.length = m' ∧ ∀ (j : Nat) p, ys[j]? = some p → G p ∧ ∃ c, c.length = d.sz ∧ d.K w p c ∧ ∀ (i : Nat) u, c[i]? = some u → w.cell? (a.add (j * d.sz + i)) = some u := by
        intro m'
        induction m' with
        | zero => exact fun _ => ⟨[], rfl, fun j p h => by simp at h⟩
        | succ i ih =>
          intro hi
          obtain ⟨ys, hl1, hys⟩ := ih (by omega)
          have hi' : i < elems.length := by omega
          have he := hel i (by omega)
          rw [List.getElem?_eq_getElem hi'] at he
          obtain ⟨c, hc1, hc2⟩ := Option.bind_eq_some_iff.1 he
          obtain ⟨y, hk, hg⟩ := A.op hc2 (hwe i _ (List.getElem?_eq_getElem hi'))
          obtain ⟨_, hcl, hcell⟩ := World.cells?_some hc1
          refine ⟨ys ++ [y], by simp [hl1], fun j p hj => ?_⟩
          rcases Nat.lt_or_ge j ys.length with h1 | h1
          · rw [List.getElem?_append_left h1] at hj
            exact hys j p hj
          · rw [List.getElem?_append_right h1] at hj
            have hj0 : j - ys.length = 0 := by
              rcases Nat.eq_zero_or_pos (j - ys.length) with h2 | h2
              · exact h2
              · rw [List.getElem?_eq_none (by simp; omega)] at hj; simp at hj
            rw [hj0] at hj
            simp at hj
            subst hj
            have hji : j = i := by omega
            subst hji
            refine ⟨hg, c, by rw [hcl, hsz], hk, fun q u hu => ?_⟩
            have hq : q < c.length := by
              rcases Nat.lt_or_ge q c.length with h1 | h1
              · exact h1
              · rw [List.getElem?_eq_none h1] at hu; simp at hu
            rw [hsz, ← Addr.add_add, hcell q (by omega), hu]
      obtain ⟨ys, hl1, hys⟩ := key len (Nat.le_refl _)
      refine ⟨ys, ⟨some a, cap, by rw [hl1], by omega, ?_⟩, ?_, ?_, fun y hy => ?_⟩
      · refine ⟨rfl, ?_, fun _ => ⟨a, rfl, fun j p hj => ?_⟩⟩
        · have := hcap; unfold maxLen at this; omega
        · obtain ⟨_, c, h1, h2, h3⟩ := hys j p hj
          exact ⟨c, h1, h2, h3⟩
      · rw [hB] at hw1
        have h2 : ys.length ≤ (elems.map (·.1)).length + (rest.map (·.1)).length := by simp; omega
        have h3 := Nat.mul_le_mul_right B h2
        have h4 : reachBytes = 140737488351232 := rfl
        omega
      · have := hcap; unfold maxLen at this; omega
      · obtain ⟨j, hj, rfl⟩ := List.getElem_of_mem hy
        exact (hys j _ (List.getElem?_eq_getElem hj)).1⟩

/-- Fields in line, from the cell 'off' on. -/
structure Fs {α : Type} (P : Program) (n : Nat) (off : Nat) (fs : List Field) (d : Kd α) (G : α → Prop) : Prop where
  op : ∀ {H : Type} {enc : TypeId × Value → H} {w : World} {base : Nat} {sp : Nat → Bool} {hd : Bool} {cs : List Value} {xs : List (DataW H × List MemPlace)},
    cs.length = off + d.sz → xs.length = fs.length → (∀ (i : Nat) (f : Field), fs[i]? = some f → DataW.trod enc P w base sp hd n f.type ((cs.drop f.offset).take (P.cellsOf f.type)) = xs[i]?) →
    (∀ k ∈ DataW.weightsEach P (fs.map (·.type)) (xs.map (·.1)), k ≤ reachBytes) → ∃ y : α, d.K w y (cs.drop off) ∧ G y

theorem Fs.one {α : Type} {P : Program} {n : Nat} {f : Field} {d : Kd α} {G : α → Prop} (h : At P n f.type d G) : Fs P n f.offset [f] d G :=
  ⟨fun {H enc w base sp hd cs xs} hc hl hf hw => by
    match xs, hl with
    | [x], _ =>
      have h1 := hf 0 f rfl
      have h2 : (cs.drop f.offset).take (P.cellsOf f.type) = cs.drop f.offset := by
        rw [List.take_of_length_le]
        rw [List.length_drop, hc, h.sz]; omega
      rw [h2] at h1
      exact h.op h1 (fun k hk => hw k (by simpa [DataW.weightsEach] using hk))⟩
theorem Fs.cons {α β : Type} {P : Program} {n : Nat} {f : Field} {fs : List Field} {d : Kd α} {d' : Kd β} {G : α → Prop} {G' : β → Prop} (h : At P n f.type d G) (hs : Fs P n (f.offset + d.sz) fs d' G') :
    Fs P n f.offset (f :: fs) (Kd.pair d d') (fun p => G p.1 ∧ G' p.2) :=
  ⟨fun {H enc w base sp hd cs xs} hc hl hf hw => by
    match xs, hl with
    | x :: xs, hl =>
      have hc' : cs.length = f.offset + (d.sz + d'.sz) := hc
      have h1 := hf 0 f rfl
      obtain ⟨y, hk, hg⟩ := h.op h1 (fun k hk => hw k (by
        simp only [List.map_cons, DataW.weightsEach, List.mem_append]
        exact Or.inl hk))
      obtain ⟨y', hk', hg'⟩ := hs.op (cs := cs) (xs := xs) (by omega) (by simpa using hl) (fun i g hi => by simpa using hf (i + 1) g (by simpa using hi)) (fun k hk => hw k (by
        simp only [List.map_cons, DataW.weightsEach, List.mem_append]
        exact Or.inr hk))
      refine ⟨(y, y'), ⟨_, _, ?_, hk, hk'⟩, hg, hg'⟩
      rw [← h.sz, ← List.drop_drop]
      exact (List.take_append_drop _ _).symm⟩

theorem Fs.one' {α : Type} {P : Program} {n off : Nat} {f : Field} {t : TypeId} {d : Kd α} {G : α → Prop} (ho : f.offset = off) (ht : f.type = t) (h : At P n t d G) : Fs P n off [f] d G := by
  subst ho; subst ht; exact Fs.one h
theorem Fs.cons' {α β : Type} {P : Program} {n off off' : Nat} {f : Field} {t : TypeId} {fs : List Field} {d : Kd α} {d' : Kd β} {G : α → Prop} {G' : β → Prop} (ho : f.offset = off) (ht : f.type = t) (hn : off + d.sz = off') (h : At P n t d G) (hs : Fs P n off' fs d' G') :
    Fs P n off (f :: fs) (Kd.pair d d') (fun p => G p.1 ∧ G' p.2) := by
  subst ho; subst ht; subst hn; exact Fs.cons h hs

theorem At.struct {α β : Type} {P : Program} {n : Nat} {t : TypeId} {fs : Array Field} {d : Kd α} {G : α → Prop} (ht : P.underlying t = some (.struct fs)) (hc : P.cellsOf t = d.sz) (h : ∀ m, m + 1 = n → Fs P m 0 fs.toList d G)
    (f : β → α) (g : α → β) (hfg : ∀ a, f (g a) = a) : At P n t (Kd.iso d f) (fun b => G (f b)) :=
  ⟨hc.symm, fun hx hw => by
    obtain ⟨xs, m, rfl, rfl, hl, hlen, hf⟩ := DataW.trod_struct ht hx
    obtain ⟨y, hk, hg⟩ := (h m rfl).op (by rw [hl, hc]; omega) (by simpa using hlen) (fun i f hi => hf i f (by simpa using hi)) (fun k hk => hw k (by simpa [DataW.weights, ht] using hk))
    exact ⟨g y, by show d.K _ (f (g y)) _; rw [hfg]; simpa using hk, by rw [hfg]; exact hg⟩⟩
/-- The same, the value taken apart. -/
theorem At.fields {α : Type} {P : Program} {n : Nat} {t : TypeId} {fs : Array Field} {d : Kd α} {G : α → Prop} (ht : P.underlying t = some (.struct fs)) (hc : P.cellsOf t = d.sz) (h : ∀ m, m + 1 = n → Fs P m 0 fs.toList d G) : At P n t d G :=
  ⟨hc.symm, fun hx hw => by
    obtain ⟨xs, m, rfl, rfl, hl, hlen, hf⟩ := DataW.trod_struct ht hx
    obtain ⟨y, hk, hg⟩ := (h m rfl).op (by rw [hl, hc]; omega) (by simpa using hlen) (fun i f hi => hf i f (by simpa using hi)) (fun k hk => hw k (by simpa [DataW.weights, ht] using hk))
    exact ⟨y, by simpa using hk, hg⟩⟩

theorem At.upto {α : Type} {P : Program} {t : TypeId} {F : Kd α → Kd α} {sz : Nat} {E : List Nat} {G : α → Prop} (hsz : sz = P.cellsOf t)
    (h : ∀ (n : Nat) (d : Kd α), (∀ k, k + 2 = n → At P k t d G) → At P n t (F d) G) : ∀ n, ∃ m, At P n t (Kd.upto F sz E m) G := by
  intro n
  induction n using Nat.strongRecOn with
  | _ n ih =>
    rcases Nat.lt_or_ge n 2 with h2 | h2
    · refine ⟨1, h n _ (fun k hk => by omega)⟩
    · obtain ⟨m, hm⟩ := ih (n - 2) (by omega)
      exact ⟨m + 1, h n _ (fun k hk => by obtain rfl : k = n - 2 := by omega
                                          exact hm)⟩
theorem At.fix {α : Type} {P : Program} {t : TypeId} {F : Kd α → Kd α} {sz : Nat} {E : List Nat} {hs : ∀ n, (Kd.upto F sz E n).sz = sz} {hE : ∀ n q, q ∈ (Kd.upto F sz E n).E → q ∈ E} {G : α → Prop} (hsz : sz = P.cellsOf t)
    (h : ∀ (n : Nat) (d : Kd α), (∀ k, k + 2 = n → At P k t d G) → At P n t (F d) G) (n : Nat) : At P n t (Kd.fix F sz E hs hE) G := by
  obtain ⟨m, hm⟩ := At.upto (E := E) hsz h n
  exact ⟨hsz, fun hx hw => by
    obtain ⟨y, hk, hg⟩ := hm.op hx hw
    exact ⟨y, ⟨m, hk⟩, hg⟩⟩

/-- A call's argument that is a struct, opened. -/
theorem At.arg {α : Type} {H : Type} {enc : TypeId × Value → H} {P : Program} {w : World} {r : Reach} {b0 base : Nat} {sp : Nat → Bool} {hd : Bool} {t : TypeId} {fs : Array Field} {v : Value} {dt : DataW H} {ps : List MemPlace} {d : Kd α} {G : α → Prop}
    (h : ∀ n, At P n t d G) (ht : P.underlying t = some (.struct fs)) (hv : Value.okWide P w r b0 t v) (hx : DataW.Trod enc P w base sp hd t v dt ps) (hw : ∀ k ∈ dt.weights P t, k ≤ reachBytes) :
    ∃ (y : α) (cs : List Value), v = .agg cs.toArray ∧ d.K w y cs ∧ G y := by
  obtain ⟨cs, rfl, _⟩ := okWide_struct ht hv
  obtain ⟨fuel, hf⟩ := hx
  obtain ⟨y, hk, hg⟩ := (h fuel).op hf hw
  exact ⟨y, cs.toList, by simp, by simpa [Value.cells] using hk, hg⟩
theorem sized_at {H : Type} {P : Program} {ts : List TypeId} {ds : List (DataW H)} (h : (DataW.weightsEach P ts ds).all (· ≤ reachBytes) = true) {j : Nat} {t : TypeId} {d : DataW H} (ht : ts[j]? = some t) (hd : ds[j]? = some d) :
    ∀ k ∈ d.weights P t, k ≤ reachBytes := fun k hk => by
  have := List.all_eq_true.1 h _ (DataW.weights_mem_each ht hd k hk)
  simpa using this
end Go.Proofs.Ytkpbhkejfaejhaa.Open
