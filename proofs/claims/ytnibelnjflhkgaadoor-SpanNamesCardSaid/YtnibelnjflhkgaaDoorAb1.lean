/- The abstract state and how it stands to memory: steps that keep to it, one behind the other. No condition. -/
import Derived.Test.YtnibelnjflhkgaaDoorAb0
namespace Go.Proofs.YtnibelnjflhkgaaDoor.Ab
set_option linter.unusedVariables false
open Go.RowKit

inductive Blk where
  | cells (cs : List AV)
  | map (es : List (AV × AV))
structure Hp where
  n : Nat
  bk : Nat → Blk
structure ASt where
  fr : Nat → AV
  hp : Hp

inductive ML (g : Gh) (w : World) : List (AV × AV) → List MapEntry → Prop
  | nil : ML g w [] []
  | cons (k v : AV) (es : List (AV × AV)) (e : MapEntry) (l : List MapEntry) (hk : VR g w k e.key) (hv : VR g w v e.val) (t : ML g w es l) : ML g w ((k, v) :: es) (e :: l)

def BR (g : Gh) (w : World) : Blk → Nat → Prop
  | .cells cs, c => ∃ vs us e fr, w.heap[c]? = some (.cells ⟨vs ++ us⟩ e fr) ∧ CL g w cs vs ∧ (fr = (0, 0) ∨ vs.length ≤ fr.1)
  | .map es, c => ∃ l clock, w.heap[c]? = some (.map ⟨l⟩ clock) ∧ ML g w es l ∧ (∀ e ∈ l, e.born < clock) ∧ (l.map MapEntry.born).Nodup

def OwnV (av : AV) (v : Value) (b : Nat) : Prop := ∃ sz xs o len cap, av = .sl .own sz xs ∧ v = .slice (some ⟨b, o, none⟩) len cap
inductive Pl | slot (i : Nat) | cell (l j : Nat)
def Own (s : ASt) (vf : Nat → Value) (w : World) (g : Gh) : Pl → Nat → Prop
  | .slot i, b => OwnV (s.fr i) (vf i) b
  | .cell l j, b => l < s.hp.n ∧ ∃ cs av v, s.hp.bk l = .cells cs ∧ cs[j]? = some av ∧ w.cell? ⟨g.ρ l, j, none⟩ = some v ∧ OwnV av v b
def OwnB (s : ASt) (vf : Nat → Value) (w : World) (g : Gh) (b : Nat) : Prop := ∃ p, Own s vf w g p b
/-- What is known of a slice that may grow in place. -/
def Tip (g : Gh) (w : World) (av : AV) (v : Value) : Prop :=
  ∀ sz xs b o len cap, av = .sl .own sz xs → v = .slice (some ⟨b, o, none⟩) len cap →
    o = 0 ∧ (∃ cur e, w.heap[b]? = some (.cells cur e (0, 0)) ∧ cur.size = cap * sz) ∧ (∀ j, xs.length * sz ≤ j → ¬ g.G b j) ∧ ∀ l, l < g.n → g.ρ l ≠ b

structure SR (s : ASt) (vf : Nat → Value) (w : World) (g : Gh) : Prop where
  n : g.n = s.hp.n
  fr : ∀ i, VR g w (s.fr i) (vf i)
  bk : ∀ l, l < g.n → BR g w (s.hp.bk l) (g.ρ l)
  inj : ∀ l l', l < g.n → l' < g.n → g.ρ l = g.ρ l' → l = l'
  G : ∀ b o, g.G b o → b < w.heap.size ∧ ∀ l, l < g.n → g.ρ l ≠ b
  tipS : ∀ i, Tip g w (s.fr i) (vf i)
  tipC : ∀ l j cs av v, l < g.n → s.hp.bk l = .cells cs → cs[j]? = some av → w.cell? ⟨g.ρ l, j, none⟩ = some v → Tip g w av v
  one : ∀ p q b, Own s vf w g p b → Own s vf w g q b → p = q

structure Stp (O : Nat → Prop) (g : Gh) (w : World) (g' : Gh) (w' : World) : Prop extends Ext g w g' w' where
  os : w'.os = w.os
  tape : w'.tape = w.tape
  output : w'.output = w.output
  size : w.heap.size ≤ w'.heap.size
  blk : ∀ k, k < w.heap.size → (∀ l, l < g.n → g.ρ l ≠ k) → ¬ O k → w'.heap[k]? = w.heap[k]?
  newG : ∀ b o, g'.G b o → g.G b o ∨ w.heap.size ≤ b ∨ O b
  newρ : ∀ l, g.n ≤ l → l < g'.n → w.heap.size ≤ g'.ρ l

structure Tr (s : ASt) (vf : Nat → Value) (w : World) (g : Gh) (s' : ASt) (vf' : Nat → Value) (w' : World) (g' : Gh) : Prop where
  sr : SR s' vf' w' g'
  st : Stp (OwnB s vf w g) g w g' w'
  ow : ∀ b, OwnB s' vf' w' g' b → OwnB s vf w g b ∨ w.heap.size ≤ b

theorem Stp.refl (O : Nat → Prop) (g : Gh) (w : World) : Stp O g w g w :=
  { Ext.refl g w with os := rfl, tape := rfl, output := rfl, size := Nat.le_refl _, blk := fun _ _ _ _ => rfl, newG := fun _ _ h => .inl h, newρ := fun l h1 h2 => absurd h1 (Nat.not_le.2 h2) }

theorem SR.size_ρ {s vf w g} (h : SR s vf w g) {l : Nat} (hl : l < g.n) : g.ρ l < w.heap.size := by
  have := h.bk l hl
  cases hb : s.hp.bk l with
  | cells cs => rw [hb] at this; obtain ⟨vs, us, e, fr, h1, _⟩ := this; exact (Array.getElem?_eq_some_iff.1 h1).1
  | map es => rw [hb] at this; obtain ⟨vs, e, h1, _⟩ := this; exact (Array.getElem?_eq_some_iff.1 h1).1

theorem SR.own_lt {s vf w g} (h : SR s vf w g) {p : Pl} {b : Nat} (ho : Own s vf w g p b) : b < w.heap.size ∧ ∀ l, l < g.n → g.ρ l ≠ b := by
  cases p with
  | slot i =>
    obtain ⟨sz, xs, o, len, cap, h1, h2⟩ := ho
    obtain ⟨_, ⟨cur, e, hc, _⟩, _, h3⟩ := h.tipS i sz xs b o len cap h1 h2
    exact ⟨(Array.getElem?_eq_some_iff.1 hc).1, h3⟩
  | cell l j =>
    obtain ⟨hl, cs, av, v, hb, hj, hv, sz, xs, o, len, cap, h1, h2⟩ := ho
    obtain ⟨_, ⟨cur, e, hc, _⟩, _, h3⟩ := h.tipC l j cs av v (h.n ▸ hl) hb hj hv sz xs b o len cap h1 h2
    exact ⟨(Array.getElem?_eq_some_iff.1 hc).1, h3⟩

theorem Tr.refl {s vf w g} (h : SR s vf w g) : Tr s vf w g s vf w g := ⟨h, Stp.refl _ _ _, fun _ h => .inl h⟩

theorem Tr.trans {s vf w g s1 vf1 w1 g1 s2 vf2 w2 g2} (h0 : SR s vf w g) (h : Tr s vf w g s1 vf1 w1 g1) (k : Tr s1 vf1 w1 g1 s2 vf2 w2 g2) : Tr s vf w g s2 vf2 w2 g2 where
  sr := k.sr
  st := { h.st.toExt.trans k.st.toExt with
    os := k.st.os.trans h.st.os, tape := k.st.tape.trans h.st.tape, output := k.st.output.trans h.st.output, size := Nat.le_trans h.st.size k.st.size
    blk := fun b hb hρ hO => by
      rw [k.st.blk b (Nat.lt_of_lt_of_le hb h.st.size) (fun l hl => ?_) (fun hO1 => ?_)]
      · exact h.st.blk b hb hρ hO
      · by_cases hlt : l < g.n
        · rw [h.st.ρ l hlt]; exact hρ l hlt
        · have := h.st.newρ l (by omega) hl; omega
      · rcases h.ow b hO1 with h1 | h1
        · exact hO h1
        · omega
    newG := fun b o hG => by
      rcases k.st.newG b o hG with h1 | h1 | h1
      · exact h.st.newG b o h1
      · exact .inr (.inl (Nat.le_trans h.st.size h1))
      · rcases h.ow b h1 with h2 | h2
        · exact .inr (.inr h2)
        · exact .inr (.inl h2)
    newρ := fun l h1 h2 => by
      by_cases hlt : l < g1.n
      · have := h.st.newρ l h1 hlt
        rwa [k.st.ρ l hlt]
      · exact Nat.le_trans h.st.size (k.st.newρ l (by omega) h2) }
  ow := fun b hb => by
    rcases k.ow b hb with h1 | h1
    · exact h.ow b h1
    · exact .inr (Nat.le_trans h.st.size h1)

/-- The state behind one write of a slot. -/
def upd (f : Nat → AV) (i : Nat) (v : AV) : Nat → AV := fun j => if j = i then v else f j
def updv (f : Nat → Value) (i : Nat) (v : Value) : Nat → Value := fun j => if j = i then v else f j
@[simp] theorem upd_same (f i v) : upd f i v i = v := by simp [upd]
theorem upd_ne {i j : Nat} (f v) (h : j ≠ i) : upd f i v j = f j := by simp [upd, h]
@[simp] theorem updv_same (f i v) : updv f i v i = v := by simp [updv]
theorem updv_ne {i j : Nat} (f v) (h : j ≠ i) : updv f i v j = f j := by simp [updv, h]

def NotOwn (av : AV) : Prop := ∀ sz xs, av ≠ .sl .own sz xs
def strip : AV → AV
  | .sl .own sz xs => .sl .sh sz xs
  | a => a
theorem strip_notOwn (a : AV) : NotOwn (strip a) := by
  intro sz xs h; unfold strip at h; split at h
  · cases h
  · rename_i h1; exact h1 sz xs h
theorem VR.strip {g w a v} (h : VR g w a v) : VR g w (strip a) v := by
  cases h with
  | sl0 fl sz => cases fl <;> exact .sl0 _ _
  | sle fl sz a cap h1 h2 => cases fl <;> first | exact .sle _ _ _ _ h1 h2 | (rcases h2 with h2 | ⟨h2, _⟩ <;> cases h2; done)
  | sl fl sz xs b o cap h1 h2 h3 h4 h5 =>
    cases fl with
    | own => exact .sl .sh sz xs b o cap h1 h2 (fun h => by cases h) h4 h5
    | sh => exact .sl .sh sz xs b o cap h1 h2 h3 h4 h5
    | full => exact .sl .full sz xs b o cap h1 h2 h3 h4 h5
  | junk v => exact .junk v
  | bool b => exact .bool b
  | int k n => exact .int k n
  | str l => exact .str l
  | agg cs vs h => exact .agg cs vs h
  | tup cs vs h => exact .tup cs vs h
  | pnil => exact .pnil
  | ptr l o h => exact .ptr l o h
  | eptr cs b o h => exact .eptr cs b o h
  | hs l o len sz cap h1 h2 h3 => exact .hs l o len sz cap h1 h2 h3
  | mp l h => exact .mp l h
  | mnil => exact .mnil
  | func f xs ys us vs h h' => exact .func f xs ys us vs h h'
  | fnil => exact .fnil
  | val v => exact .val v
theorem not_ownV {av v b} (h : NotOwn av) : ¬ OwnV av v b := fun ⟨sz, xs, _, _, _, h1, _⟩ => h sz xs h1
theorem tip_notOwn {g w av v} (h : NotOwn av) : Tip g w av v := fun sz xs _ _ _ _ h1 => absurd h1 (h sz xs)

/-- A value that is no owner's goes into a slot. -/
theorem tip_of_not {g w av v} (h : ∀ b, ¬ OwnV av v b) : Tip g w av v := fun sz xs b o len cap h1 h2 => absurd ⟨sz, xs, o, len, cap, h1, h2⟩ (h b)
theorem SR.put {s vf w g} (h : SR s vf w g) (d : Nat) {av : AV} {v : Value} (hv : VR g w av v) (hn : ∀ b, ¬ OwnV av v b) :
    Tr s vf w g ⟨upd s.fr d av, s.hp⟩ (updv vf d v) w g := by
  have back : ∀ p b, Own ⟨upd s.fr d av, s.hp⟩ (updv vf d v) w g p b → Own s vf w g p b := by
    intro p b ho
    cases p with
    | slot i =>
      simp only [Own, upd, updv] at ho ⊢
      by_cases hi : i = d
      · simp only [hi, if_true] at ho; exact absurd ho (hn _)
      · simpa only [hi, if_false] using ho
    | cell l j => exact ho
  refine ⟨⟨h.n, fun i => ?_, h.bk, h.inj, h.G, fun i => ?_, h.tipC, fun p q b hp hq => h.one p q b (back p b hp) (back q b hq)⟩, Stp.refl _ _ _, fun b ⟨p, hp⟩ => .inl ⟨p, back p b hp⟩⟩
  · by_cases hi : i = d
    · subst hi; simpa using hv
    · simpa [upd, updv, hi] using h.fr i
  · by_cases hi : i = d
    · subst hi; simpa using tip_of_not hn
    · simpa [upd, updv, hi] using h.tipS i

/-- A slot's value moves into another one, with what it owns. -/
theorem SR.moveSlot {s vf w g} (h : SR s vf w g) (d t : Nat) (hdt : d ≠ t) :
    Tr s vf w g ⟨upd (upd s.fr t (strip (s.fr t))) d (s.fr t), s.hp⟩ (updv vf d (vf t)) w g := by
  have back : ∀ p b, Own ⟨upd (upd s.fr t (strip (s.fr t))) d (s.fr t), s.hp⟩ (updv vf d (vf t)) w g p b → ∃ q, Own s vf w g q b ∧ (q = p ∨ (q = .slot t ∧ p = .slot d)) ∧ p ≠ .slot t ∧ (p = .slot d → q = .slot t) := by
    intro p b ho
    cases p with
    | slot i =>
      simp only [Own, upd, updv] at ho
      by_cases hi : i = d
      · subst hi; simp only [if_true] at ho
        exact ⟨.slot t, ho, .inr ⟨rfl, rfl⟩, (fun e => hdt (Pl.slot.inj e)), fun _ => rfl⟩
      · simp only [hi, if_false] at ho
        by_cases ht : i = t
        · subst ht; simp only [if_true] at ho; exact absurd ho (not_ownV (strip_notOwn _))
        · simp only [ht, if_false] at ho
          exact ⟨.slot i, ho, .inl rfl, (fun e => ht (Pl.slot.inj e)), fun e => absurd (Pl.slot.inj e) hi⟩
    | cell l j => exact ⟨.cell l j, ho, .inl rfl, (fun e => by cases e), fun e => by cases e⟩
  refine ⟨⟨h.n, fun i => ?_, h.bk, h.inj, h.G, fun i => ?_, h.tipC, fun p q b hp hq => ?_⟩, Stp.refl _ _ _, fun b ⟨p, hp⟩ => let ⟨q, hq, _⟩ := back p b hp; .inl ⟨q, hq⟩⟩
  · by_cases hi : i = d
    · subst hi; simpa using h.fr t
    · by_cases ht : i = t
      · subst ht; simpa [upd, updv, hi] using (h.fr i).strip
      · simpa [upd, updv, hi, ht] using h.fr i
  · by_cases hi : i = d
    · subst hi; simpa using h.tipS t
    · by_cases ht : i = t
      · subst ht; simpa [upd, updv, hi] using tip_notOwn (strip_notOwn _)
      · simpa [upd, updv, hi, ht] using h.tipS i
  · obtain ⟨p', hp', e1, n1, d1⟩ := back p b hp
    obtain ⟨q', hq', e2, n2, d2⟩ := back q b hq
    have e := h.one p' q' b hp' hq'
    rcases e1 with e1 | ⟨e1, f1⟩ <;> rcases e2 with e2 | ⟨e2, f2⟩
    · rw [← e1, ← e2, e]
    · exact absurd (e1 ▸ e.trans e2) n1
    · exact absurd (e2 ▸ e.symm.trans e1) n2
    · rw [f1, f2]
end Go.Proofs.YtnibelnjflhkgaaDoor.Ab
