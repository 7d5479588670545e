/- Steps that make memory or write it: the state behind them. No condition. -/
import Derived.Test.YtnibelnjflhkgaaDoorAb6
namespace Go.Proofs.YtnibelnjflhkgaaDoor.Ab
set_option linter.unusedVariables false
set_option linter.unusedSimpArgs false
open Go.RowKit

section
variable {s : ASt} {vf : Nat → Value} {w w' : World} {g g' : Gh}

/-- Memory of others has changed, or new cells are fixed: the state stands. -/
theorem SR.frame (h : SR s vf w g) (hn : g'.n = g.n) (hρ : ∀ l, l < g.n → g'.ρ l = g.ρ l) (hG : ∀ b o, g.G b o → g'.G b o)
    (hG2 : ∀ b o, g'.G b o → g.G b o ∨ (b < w'.heap.size ∧ (∀ l, l < g.n → g.ρ l ≠ b) ∧ ∀ p, ¬ Own s vf w g p b)) (hsz : w.heap.size ≤ w'.heap.size)
    (hcell : ∀ b o, g.G b o → w'.cell? ⟨b, o, none⟩ = w.cell? ⟨b, o, none⟩)
    (hb1 : ∀ l, l < g.n → w'.heap[g.ρ l]? = w.heap[g.ρ l]?) (hb2 : ∀ p b, Own s vf w g p b → w'.heap[b]? = w.heap[b]?) : SR s vf w' g' := by
  have ext : Ext g w g' w' := ⟨by omega, hρ, hG, hcell⟩
  have hc : ∀ l j, l < g.n → w'.cell? ⟨g'.ρ l, j, none⟩ = w.cell? ⟨g.ρ l, j, none⟩ := fun l j hl => by
    rw [hρ l hl]; exact World.cell?_of_block (a := ⟨g.ρ l, j, none⟩) (hb1 l hl)
  have back : ∀ p b, Own s vf w' g' p b → Own s vf w g p b := by
    intro p b ho
    cases p with
    | slot i => exact ho
    | cell l j =>
      obtain ⟨hl, cs, av, v, h1, h2, h3, h4⟩ := ho
      exact ⟨hl, cs, av, v, h1, h2, by rwa [hc l j (h.n ▸ hl)] at h3, h4⟩
  have tip : ∀ av v, Tip g w av v → (∀ b, OwnV av v b → ∃ p, Own s vf w g p b) → Tip g' w' av v := by
    intro av v ht hp sz xs b o len cap e1 e2
    obtain ⟨t1, ⟨cur, e, t2, t3⟩, t4, t5⟩ := ht sz xs b o len cap e1 e2
    obtain ⟨p, hp⟩ := hp b ⟨sz, xs, o, len, cap, e1, e2⟩
    refine ⟨t1, ⟨cur, e, by rw [hb2 p b hp]; exact t2, t3⟩, fun j hj hG' => ?_, fun l hl => by rw [hρ l (by omega)]; exact t5 l (by omega)⟩
    rcases hG2 b j hG' with h1 | h1
    · exact t4 j hj h1
    · exact h1.2.2 p hp
  refine ⟨hn.trans h.n, fun i => (h.fr i).mono ext, fun l hl => ?_, fun l l' hl hl' e => ?_, fun b o hG' => ?_, fun i => tip _ _ (h.tipS i) (fun b hb => ⟨.slot i, hb⟩), fun l j cs av v hl h1 h2 h3 => ?_, fun p q b hp hq => h.one p q b (back p b hp) (back q b hq)⟩
  · have hl' : l < g.n := by omega
    have := h.bk l hl'
    rw [hρ l hl']
    cases hb : s.hp.bk l with
    | cells cs => rw [hb] at this; obtain ⟨vs, us, e, fr, k1, k2, k3⟩ := this; exact ⟨vs, us, e, fr, by rw [hb1 l hl']; exact k1, k2.mono ext, k3⟩
    | map es =>
      rw [hb] at this
      obtain ⟨l0, clock, k1, k2, k3, k4⟩ := this
      refine ⟨l0, clock, by rw [hb1 l hl']; exact k1, ?_, k3, k4⟩
      clear k1 k3 k4 hb
      induction k2 with
      | nil => exact .nil
      | cons k v es e l hk hv _ ih => exact .cons _ _ _ _ _ (hk.mono ext) (hv.mono ext) ih
  · rw [hρ l (by omega), hρ l' (by omega)] at e
    exact h.inj l l' (by omega) (by omega) e
  · rcases hG2 b o hG' with h1 | h1
    · obtain ⟨k1, k2⟩ := h.G b o h1
      exact ⟨by omega, fun l hl => by rw [hρ l (by omega)]; exact k2 l (by omega)⟩
    · exact ⟨h1.1, fun l hl => by rw [hρ l (by omega)]; exact h1.2.1 l (by omega)⟩
  · have hl' : l < g.n := by omega
    rw [hc l j hl'] at h3
    exact tip _ _ (h.tipC l j cs av v hl' h1 h2 h3) (fun b hb => ⟨.cell l j, by rw [← h.n]; exact hl', cs, av, v, h1, h2, h3, hb⟩)

/-- A value goes into a slot with what it owns: what nobody else owns. -/
theorem SR.putOwn (h : SR s vf w g) (d : Nat) {av : AV} {v : Value} (hv : VR g w av v) (ht : Tip g w av v) (hu : ∀ b, OwnV av v b → ∀ p, p ≠ .slot d → ¬ Own s vf w g p b) :
    SR ⟨upd s.fr d av, s.hp⟩ (updv vf d v) w g ∧ ∀ b, OwnB ⟨upd s.fr d av, s.hp⟩ (updv vf d v) w g b → OwnB s vf w g b ∨ OwnV av v b := by
  have back : ∀ p b, Own ⟨upd s.fr d av, s.hp⟩ (updv vf d v) w g p b → (p = .slot d ∧ OwnV av v b) ∨ (p ≠ .slot d ∧ Own s vf w g p b) := by
    intro p b ho
    cases p with
    | slot i =>
      simp only [Own, upd, updv] at ho
      by_cases hi : i = d
      · simp only [hi, if_true] at ho; exact .inl ⟨by rw [hi], ho⟩
      · simp only [hi, if_false] at ho; exact .inr ⟨fun e => hi (Pl.slot.inj e), ho⟩
    | cell l j => exact .inr ⟨(fun e => by cases e), ho⟩
  refine ⟨⟨h.n, fun i => ?_, h.bk, h.inj, h.G, fun i => ?_, h.tipC, fun p q b hp hq => ?_⟩, fun b ⟨p, hp⟩ => ?_⟩
  · by_cases hi : i = d
    · subst hi; simpa using hv
    · simpa [upd, updv, hi] using h.fr i
  · by_cases hi : i = d
    · subst hi; simpa using ht
    · simpa [upd, updv, hi] using h.tipS i
  · rcases back p b hp with ⟨e1, h1⟩ | ⟨e1, h1⟩ <;> rcases back q b hq with ⟨e2, h2⟩ | ⟨e2, h2⟩
    · rw [e1, e2]
    · exact absurd h2 (hu b h1 q e2)
    · exact absurd h1 (hu b h2 p e1)
    · exact h.one p q b h1 h2
  · rcases back p b hp with ⟨_, h1⟩ | ⟨_, h1⟩
    · exact .inr h1
    · exact .inl ⟨p, h1⟩

/-- A slot gives up what it owns. -/
theorem SR.stripSlot (h : SR s vf w g) (t : Nat) : SR ⟨upd s.fr t (strip (s.fr t)), s.hp⟩ vf w g ∧ (∀ p b, Own ⟨upd s.fr t (strip (s.fr t)), s.hp⟩ vf w g p b → Own s vf w g p b ∧ p ≠ .slot t) := by
  have back : ∀ p b, Own ⟨upd s.fr t (strip (s.fr t)), s.hp⟩ vf w g p b → Own s vf w g p b ∧ p ≠ .slot t := by
    intro p b ho
    cases p with
    | slot i =>
      simp only [Own, upd] at ho
      by_cases hi : i = t
      · simp only [hi, if_true] at ho; exact absurd ho (not_ownV (strip_notOwn _))
      · simp only [hi, if_false] at ho; exact ⟨ho, fun e => hi (Pl.slot.inj e)⟩
    | cell l j => exact ⟨ho, fun e => by cases e⟩
  refine ⟨⟨h.n, fun i => ?_, h.bk, h.inj, h.G, fun i => ?_, h.tipC, fun p q b hp hq => h.one p q b (back p b hp).1 (back q b hq).1⟩, back⟩
  · by_cases hi : i = t
    · subst hi; simpa using (h.fr i).strip
    · simpa [upd, hi] using h.fr i
  · by_cases hi : i = t
    · subst hi; simpa using tip_notOwn (strip_notOwn _)
    · simpa [upd, hi] using h.tipS i
end

def updB (f : Nat → Blk) (i : Nat) (v : Blk) : Nat → Blk := fun j => if j = i then v else f j
@[simp] theorem updB_same (f i v) : updB f i v i = v := by simp [updB]
theorem updB_ne {i j : Nat} (f v) (h : j ≠ i) : updB f i v j = f j := by simp [updB, h]
def Hp.push (h : Hp) (b : Blk) : Hp := ⟨h.n + 1, updB h.bk h.n b⟩
def Hp.set (h : Hp) (l : Nat) (b : Blk) : Hp := ⟨h.n, updB h.bk l b⟩

section
variable {s : ASt} {vf : Nat → Value} {w w' : World} {g g' : Gh}
/-- A new labelled block. -/
theorem SR.pushBlk (h : SR s vf w g) (d : Nat) (cs : List AV) (vs : List Value) (e : TypeId) (hc : CL g w cs vs) (hno : ∀ (j : Nat) av v, cs[j]? = some av → vs[j]? = some v → ∀ b, ¬ OwnV av v b) :
    ∃ g', Tr s vf w g ⟨upd s.fr d (.ptr s.hp.n 0), s.hp.push (.cells cs)⟩ (updv vf d (.pointer (some ⟨w.heap.size, 0, none⟩))) (w.alloc (.cells ⟨vs⟩ e)) g' := by
  let g' : Gh := ⟨g.n + 1, g.G, fun l => if l = g.n then w.heap.size else g.ρ l⟩
  have hρ : ∀ l, l < g.n → g'.ρ l = g.ρ l := fun l hl => by simp [g', Nat.ne_of_lt hl]
  have hnew : g'.ρ g.n = w.heap.size := by simp [g']
  have hcell : ∀ b o, b < w.heap.size → (w.alloc (.cells ⟨vs⟩ e)).cell? ⟨b, o, none⟩ = w.cell? ⟨b, o, none⟩ := fun b o hb => World.cell?_alloc_lt _ _ _ hb
  have hheap : ∀ b, b < w.heap.size → (w.alloc (.cells ⟨vs⟩ e)).heap[b]? = w.heap[b]? := fun b hb => _root_.Go.heap_alloc_old w _ hb
  have ext : Ext g w g' (w.alloc (.cells ⟨vs⟩ e)) := ⟨by simp [g'], hρ, fun b o h => h, fun b o hG => hcell b o (h.G b o hG).1⟩
  have hpos : ∀ l, l < g'.n → l ≠ g.n → l < g.n := fun l hl hne => by simp only [g'] at hl; omega
  have back : ∀ p b, Own ⟨upd s.fr d (.ptr s.hp.n 0), s.hp.push (.cells cs)⟩ (updv vf d (.pointer (some ⟨w.heap.size, 0, none⟩))) (w.alloc (.cells ⟨vs⟩ e)) g' p b → Own s vf w g p b := by
    intro p b ho
    cases p with
    | slot i =>
      simp only [Own, upd, updv] at ho ⊢
      by_cases hi : i = d
      · simp only [hi, if_true] at ho; obtain ⟨_, _, _, _, _, e1, _⟩ := ho; cases e1
      · simpa only [hi, if_false] using ho
    | cell l j =>
      obtain ⟨hl, cs', av, v, h1, h2, h3, h4⟩ := ho
      by_cases e1 : l = g.n
      · subst e1
        simp only [Hp.push, ← h.n, updB_same, Blk.cells.injEq] at h1
        subst h1
        rw [hnew, World.cell?_alloc_new] at h3
        exact absurd h4 (hno j av v h2 (by simpa using h3) b)
      · have hl' : l < g.n := by simp only [Hp.push, ← h.n] at hl; omega
        simp only [Hp.push, ← h.n, updB_ne _ _ e1] at h1
        rw [hρ l hl', hcell _ _ (h.size_ρ hl')] at h3
        exact ⟨h.n ▸ hl', cs', av, v, h1, h2, h3, h4⟩
  have tip : ∀ av v, Tip g w av v → Tip g' (w.alloc (.cells ⟨vs⟩ e)) av v := by
    intro av v ht sz xs b o len cap e1 e2
    obtain ⟨t1, ⟨cur, e, t2, t3⟩, t4, t5⟩ := ht sz xs b o len cap e1 e2
    have hb : b < w.heap.size := (Array.getElem?_eq_some_iff.1 t2).1
    refine ⟨t1, ⟨cur, e, by rw [hheap b hb]; exact t2, t3⟩, t4, fun l hl => ?_⟩
    by_cases e1 : l = g.n
    · subst e1; rw [hnew]; omega
    · rw [hρ l (hpos l hl e1)]; exact t5 l (hpos l hl e1)
  refine ⟨g', ⟨⟨by simp [g', Hp.push, h.n], fun i => ?_, fun l hl => ?_, fun l l' hl hl' e1 => ?_, fun b o hG => ?_, fun i => ?_, fun l j cs' av v hl h1 h2 h3 => ?_, fun p q b hp hq => h.one p q b (back p b hp) (back q b hq)⟩,
    { ext with os := rfl, tape := rfl, output := rfl, size := by simp, blk := fun k hk _ _ => hheap k hk, newG := fun b o hG => .inl hG, newρ := fun l h1 h2 => ?_ }, fun b ⟨p, hp⟩ => .inl ⟨p, back p b hp⟩⟩⟩
  · by_cases hi : i = d
    · subst hi
      have := VR.ptr (g := g') (w := w.alloc (.cells ⟨vs⟩ e)) g.n 0 (by simp [g'])
      rw [hnew] at this
      simpa [← h.n] using this
    · simpa [upd, updv, hi] using (h.fr i).mono ext
  · by_cases e1 : l = g.n
    · subst e1
      rw [hnew]
      simp only [Hp.push, ← h.n, updB_same]
      exact ⟨vs, [], e, (0, 0), by rw [List.append_nil]; exact _root_.Go.heap_alloc_new w _, hc.mono ext, .inl rfl⟩
    · have hl' := hpos l hl e1
      simp only [Hp.push, ← h.n, updB_ne _ _ e1]
      rw [hρ l hl']
      have := h.bk l hl'
      cases hb : s.hp.bk l with
      | cells cs => rw [hb] at this; obtain ⟨vs, us, e, fr, k1, k2, k3⟩ := this; exact ⟨vs, us, e, fr, by rw [hheap _ (h.size_ρ hl')]; exact k1, k2.mono ext, k3⟩
      | map es =>
        rw [hb] at this
        obtain ⟨l0, clock, k1, k2, k3, k4⟩ := this
        refine ⟨l0, clock, by rw [hheap _ (h.size_ρ hl')]; exact k1, ?_, k3, k4⟩
        clear k1 k3 k4 hb
        induction k2 with
        | nil => exact .nil
        | cons k v es e l hk hv _ ih => exact .cons _ _ _ _ _ (hk.mono ext) (hv.mono ext) ih
  · by_cases e2 : l = g.n <;> by_cases e3 : l' = g.n
    · rw [e2, e3]
    · rw [e2, hnew, hρ l' (hpos l' hl' e3)] at e1; have := h.size_ρ (hpos l' hl' e3); omega
    · rw [e3, hnew, hρ l (hpos l hl e2)] at e1; have := h.size_ρ (hpos l hl e2); omega
    · rw [hρ l (hpos l hl e2), hρ l' (hpos l' hl' e3)] at e1; exact h.inj l l' (hpos l hl e2) (hpos l' hl' e3) e1
  · obtain ⟨k1, k2⟩ := h.G b o hG
    refine ⟨by simp; omega, fun l hl => ?_⟩
    by_cases e1 : l = g.n
    · subst e1; rw [hnew]; omega
    · rw [hρ l (hpos l hl e1)]; exact k2 l (hpos l hl e1)
  · by_cases hi : i = d
    · subst hi; simp only [upd_same, updv_same]; exact fun _ _ _ _ _ _ e1 => by cases e1
    · simpa [upd, updv, hi] using tip _ _ (h.tipS i)
  · by_cases e1 : l = g.n
    · subst e1
      simp only [Hp.push, ← h.n, updB_same, Blk.cells.injEq] at h1
      subst h1
      rw [hnew, World.cell?_alloc_new] at h3
      exact tip_of_not (hno j av v h2 (by simpa using h3))
    · have hl' := hpos l hl e1
      simp only [Hp.push, ← h.n, updB_ne _ _ e1] at h1
      rw [hρ l hl', hcell _ _ (h.size_ρ hl')] at h3
      exact tip _ _ (h.tipC l j cs' av v hl' h1 h2 h3)
  · have : l = g.n := by simp only [g'] at h2; omega
    subst this; rw [hnew]; exact Nat.le_refl _

/-- New cells that stay as they are, in a new block, owned by the slice that is put into a slot. -/
theorem SR.pushRow (h : SR s vf w g) (d : Nat) (sz cap : Nat) (xs : List AV) (vs : List Value) (rest : List Value) (e : TypeId) (w0 : World) (hw0 : w0.heap = w.heap) (hos : w0.os = w.os) (htape : w0.tape = w.tape) (hout : w0.output = w.output)
    (hsz : ∀ x ∈ xs, x.cells.length = sz) (hc : CL g w (flat xs) vs) (hcap : xs.length ≤ cap) (hmax : cap ≤ maxLen) (hsize : (vs ++ rest).length = cap * sz) :
    ∃ g', Tr s vf w g ⟨upd s.fr d (.sl .own sz xs), s.hp⟩ (updv vf d (.slice (some ⟨w.heap.size, 0, none⟩) xs.length cap)) (w0.alloc (.cells ⟨vs ++ rest⟩ e)) g' := by
  let w' := w0.alloc (.cells ⟨vs ++ rest⟩ e)
  let g' : Gh := ⟨g.n, fun b o => g.G b o ∨ (b = w.heap.size ∧ o < vs.length), g.ρ⟩
  have hs0 : w0.heap.size = w.heap.size := by rw [hw0]
  have hheap : ∀ b, b < w.heap.size → w'.heap[b]? = w.heap[b]? := fun b hb => by
    have := _root_.Go.heap_alloc_old w0 (.cells ⟨vs ++ rest⟩ e) (r := b) (by omega)
    rw [hw0] at this; exact this
  have hnew : w'.heap[w.heap.size]? = some (.cells ⟨vs ++ rest⟩ e (0, 0)) := by
    have := _root_.Go.heap_alloc_new w0 (.cells ⟨vs ++ rest⟩ e)
    rwa [hs0] at this
  have hsz' : w'.heap.size = w.heap.size + 1 := by simp [w', hs0]
  have hcell : ∀ b o, b < w.heap.size → w'.cell? ⟨b, o, none⟩ = w.cell? ⟨b, o, none⟩ := fun b o hb => World.cell?_of_block (a := ⟨b, o, none⟩) (hheap b hb)
  have hsr : SR s vf w' g' := h.frame rfl (fun _ _ => rfl) (fun b o hG => .inl hG) (fun b o hG => by
      rcases hG with hG | ⟨rfl, _⟩
      · exact .inl hG
      · exact .inr ⟨by omega, fun l hl => Nat.ne_of_lt (h.size_ρ hl), fun p hp => by have := (h.own_lt hp).1; omega⟩) (by omega)
    (fun b o hG => hcell b o (h.G b o hG).1) (fun l hl => hheap _ (h.size_ρ hl)) (fun p b hp => hheap b (h.own_lt hp).1)
  have ext : Ext g w g' w' := ⟨Nat.le_refl _, fun _ _ => rfl, fun b o hG => .inl hG, fun b o hG => hcell b o (h.G b o hG).1⟩
  have hlen := hc.length
  have hcr : CR g' w' w.heap.size 0 (flat xs) := CR.ofCL (hc.mono ext) (fun j v hj => by
      rw [Nat.zero_add, cell_of_row w' _ j _ e (0, 0) hnew]
      have : j < vs.length := (List.getElem?_eq_some_iff.1 hj).1
      simpa [List.getElem?_append_left this] using hj) (fun j hj => .inr ⟨rfl, by omega⟩)
  have hvr : VR g' w' (.sl .own sz xs) (.slice (some ⟨w.heap.size, 0, none⟩) xs.length cap) := .sl .own sz xs _ _ cap hcap hmax (fun e => by cases e) hsz hcr
  have htip : Tip g' w' (.sl .own sz xs) (.slice (some ⟨w.heap.size, 0, none⟩) xs.length cap) := by
    intro sz' xs' b o len cap' e1 e2
    simp only [AV.sl.injEq, true_and] at e1
    obtain ⟨rfl, rfl⟩ := e1
    simp only [Value.slice.injEq, Option.some.injEq, Addr.mk.injEq, and_true] at e2
    obtain ⟨⟨rfl, rfl⟩, rfl, rfl⟩ := e2
    refine ⟨rfl, ⟨_, e, hnew, by simpa using hsize⟩, fun j hj hG => ?_, fun l hl => Nat.ne_of_lt (h.size_ρ hl)⟩
    have hfl := flat_length hsz
    rcases hG with hG | ⟨_, hG⟩
    · have := (h.G _ _ hG).1; omega
    · omega
  obtain ⟨k1, k2⟩ := hsr.putOwn d hvr htip (fun b ⟨_, _, _, _, _, e1, e2⟩ p _ hp => by
    simp only [Value.slice.injEq, Option.some.injEq, Addr.mk.injEq, and_true] at e2
    obtain ⟨⟨rfl, _⟩, _⟩ := e2
    obtain ⟨hb, _⟩ := hsr.own_lt hp
    cases p with
    | slot i => have := (h.own_lt (p := .slot i) hp).1; omega
    | cell l j =>
      obtain ⟨hl, cs, av, v, h1, h2, h3, h4⟩ := hp
      have hl' : l < g.n := h.n ▸ hl
      rw [show g'.ρ l = g.ρ l from rfl, hcell _ _ (h.size_ρ hl')] at h3
      have := (h.own_lt (p := .cell l j) ⟨hl, cs, av, v, h1, h2, h3, h4⟩).1
      omega)
  refine ⟨g', k1, { ext with os := by simp [w', World.alloc, hos], tape := by simp [w', World.alloc, htape], output := by simp [w', World.alloc, hout], size := (by show _ ≤ w'.heap.size; omega), blk := fun k hk _ _ => hheap k hk, newG := fun b o hG => ?_, newρ := fun l h1 h2 => absurd h1 (Nat.not_le.2 h2) }, fun b hb => ?_⟩
  · rcases hG with hG | ⟨rfl, _⟩
    · exact .inl hG
    · exact .inr (.inl (Nat.le_refl _))
  · rcases k2 b hb with ⟨p, hp⟩ | ⟨_, _, _, _, _, _, e2⟩
    · left
      cases p with
      | slot i => exact ⟨.slot i, hp⟩
      | cell l j =>
        obtain ⟨hl, cs, av, v, h1, h2, h3, h4⟩ := hp
        have hl' : l < g.n := h.n ▸ hl
        rw [show g'.ρ l = g.ρ l from rfl, hcell _ _ (h.size_ρ hl')] at h3
        exact ⟨.cell l j, hl, cs, av, v, h1, h2, h3, h4⟩
    · right
      simp only [Value.slice.injEq, Option.some.injEq, Addr.mk.injEq, and_true] at e2
      omega
end
end Go.Proofs.YtnibelnjflhkgaaDoor.Ab
