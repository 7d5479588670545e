/- Maps with keys that are texts or numbers, made rows: as steps of the state. No condition. -/
import Derived.Test.YtnibelnjflhkgaaGreatDoorAbA
import Derived.MapKept
import Derived.Carry
import Derived.Laws.MakeOwn
namespace Go.Proofs.YtnibelnjflhkgaaGreatDoor.Ab
set_option linter.unusedVariables false
set_option linter.unusedSimpArgs false
open Go.RowKit Go.MapKept

section
variable {s : ASt} {vf : Nat → Value} {w w' : World} {g g' : Gh}
/-- A new labelled block of any kind. -/
theorem SR.pushObj (h : SR s vf w g) (d : Nat) (blk : Blk) (o : Obj) (av : AV) (v : Value)
    (hb : ∀ g' : Gh, Ext g w g' (w.alloc o) → BR g' (w.alloc o) blk w.heap.size) (hno : ∀ cs, blk = .cells cs → ∀ (j : Nat) a u, cs[j]? = some a → (w.alloc o).cell? ⟨w.heap.size, j, none⟩ = some u → ∀ b, ¬ OwnV a u b)
    (hv : ∀ g' : Gh, g'.n = g.n + 1 → g'.ρ g.n = w.heap.size → VR g' (w.alloc o) av v) (hnv : ∀ b, ¬ OwnV av v b) :
    ∃ g', Tr s vf w g ⟨upd s.fr d av, s.hp.push blk⟩ (updv vf d v) (w.alloc o) g' := by
  let g' : Gh := ⟨g.n + 1, g.G, fun l => if l = g.n then w.heap.size else g.ρ l⟩
  have hρ : ∀ l, l < g.n → g'.ρ l = g.ρ l := fun l hl => by simp [g', Nat.ne_of_lt hl]
  have hnew : g'.ρ g.n = w.heap.size := by simp [g']
  have hcell : ∀ b j, b < w.heap.size → (w.alloc o).cell? ⟨b, j, none⟩ = w.cell? ⟨b, j, none⟩ := fun b j hb => World.cell?_alloc_lt _ _ _ hb
  have hheap : ∀ b, b < w.heap.size → (w.alloc o).heap[b]? = w.heap[b]? := fun b hb => _root_.Go.heap_alloc_old w _ hb
  have ext : Ext g w g' (w.alloc o) := ⟨by simp [g'], hρ, fun b o h => h, fun b o hG => hcell b o (h.G b o hG).1⟩
  have hpos : ∀ l, l < g'.n → l ≠ g.n → l < g.n := fun l hl hne => by simp only [g'] at hl; omega
  have back : ∀ p b, Own ⟨upd s.fr d av, s.hp.push blk⟩ (updv vf d v) (w.alloc o) g' p b → Own s vf w g p b := by
    intro p b ho
    cases p with
    | slot i =>
      simp only [Own, upd, updv] at ho ⊢
      by_cases hi : i = d
      · simp only [hi, if_true] at ho; exact absurd ho (hnv b)
      · simpa only [hi, if_false] using ho
    | cell l j =>
      obtain ⟨hl, cs', a, u, h1, h2, h3, h4⟩ := ho
      by_cases e1 : l = g.n
      · subst e1
        simp only [Hp.push, ← h.n, updB_same] at h1
        rw [hnew] at h3
        exact absurd h4 (hno cs' h1 j a u h2 h3 b)
      · have hl' : l < g.n := by simp only [Hp.push, ← h.n] at hl; omega
        simp only [Hp.push, ← h.n, updB_ne _ _ e1] at h1
        rw [hρ l hl', hcell _ _ (h.size_ρ hl')] at h3
        exact ⟨h.n ▸ hl', cs', a, u, h1, h2, h3, h4⟩
  have tip : ∀ a u, Tip g w a u → Tip g' (w.alloc o) a u := by
    intro a u ht sz xs b o' len cap e1 e2
    obtain ⟨t1, ⟨cur, e, t2, t3⟩, t4, t5⟩ := ht sz xs b o' len cap e1 e2
    have hb : b < w.heap.size := (Array.getElem?_eq_some_iff.1 t2).1
    refine ⟨t1, ⟨cur, e, by rw [hheap b hb]; exact t2, t3⟩, t4, fun l hl => ?_⟩
    by_cases e1 : l = g.n
    · subst e1; rw [hnew]; omega
    · rw [hρ l (hpos l hl e1)]; exact t5 l (hpos l hl e1)
  refine ⟨g', ⟨⟨by simp [g', Hp.push, h.n], fun i => ?_, fun l hl => ?_, fun l l' hl hl' e1 => ?_, fun b o hG => ?_, fun i => ?_, fun l j cs' a u hl h1 h2 h3 => ?_, fun p q b hp hq => h.one p q b (back p b hp) (back q b hq)⟩,
    { ext with os := rfl, tape := rfl, output := rfl, size := by simp, blk := fun k hk _ _ => hheap k hk, newG := fun b o hG => .inl hG, newρ := fun l h1 h2 => ?_ }, fun b ⟨p, hp⟩ => .inl ⟨p, back p b hp⟩⟩⟩
  · by_cases hi : i = d
    · subst hi
      simpa using hv g' rfl hnew
    · simpa [upd, updv, hi] using (h.fr i).mono ext
  · by_cases e1 : l = g.n
    · subst e1
      rw [hnew]
      simp only [Hp.push, ← h.n, updB_same]
      exact hb g' ext
    · have hl' := hpos l hl e1
      simp only [Hp.push, ← h.n, updB_ne _ _ e1]
      rw [hρ l hl']
      have := h.bk l hl'
      cases hb : s.hp.bk l with
      | cells cs => rw [hb] at this; obtain ⟨vs, us, e, fr, k1, k2, k3⟩ := this; exact ⟨vs, us, e, fr, by rw [hheap _ (h.size_ρ hl')]; exact k1, k2.mono ext, k3⟩
      | map es =>
        rw [hb] at this
        obtain ⟨l0, clock, k1, k2, k3, k4⟩ := this
        refine ⟨l0, clock, by rw [hheap _ (h.size_ρ hl')]; exact k1, ?_, k3, k4⟩
        clear k1 k3 k4 hb
        induction k2 with
        | nil => exact .nil
        | cons k v es e l hk hv _ ih => exact .cons _ _ _ _ _ (hk.mono ext) (hv.mono ext) ih
  · by_cases e2 : l = g.n <;> by_cases e3 : l' = g.n
    · rw [e2, e3]
    · rw [e2, hnew, hρ l' (hpos l' hl' e3)] at e1; have := h.size_ρ (hpos l' hl' e3); omega
    · rw [e3, hnew, hρ l (hpos l hl e2)] at e1; have := h.size_ρ (hpos l hl e2); omega
    · rw [hρ l (hpos l hl e2), hρ l' (hpos l' hl' e3)] at e1; exact h.inj l l' (hpos l hl e2) (hpos l' hl' e3) e1
  · obtain ⟨k1, k2⟩ := h.G b o hG
    refine ⟨by simp; omega, fun l hl => ?_⟩
    by_cases e1 : l = g.n
    · subst e1; rw [hnew]; omega
    · rw [hρ l (hpos l hl e1)]; exact k2 l (hpos l hl e1)
  · by_cases hi : i = d
    · subst hi; simp only [upd_same, updv_same]; exact fun sz xs b o len cap e1 e2 => absurd ⟨sz, xs, o, len, cap, e1, e2⟩ (hnv b)
    · simpa [upd, updv, hi] using tip _ _ (h.tipS i)
  · by_cases e1 : l = g.n
    · subst e1
      simp only [Hp.push, ← h.n, updB_same] at h1
      rw [hnew] at h3
      exact fun sz xs b o len cap e1 e2 => absurd ⟨sz, xs, o, len, cap, e1, e2⟩ (hno cs' h1 j a u h2 h3 b)
    · have hl' := hpos l hl e1
      simp only [Hp.push, ← h.n, updB_ne _ _ e1] at h1
      rw [hρ l hl', hcell _ _ (h.size_ρ hl')] at h3
      exact tip _ _ (h.tipC l j cs' a u hl' h1 h2 h3)
  · have : l = g.n := by simp only [g'] at h2; omega
    subst this; rw [hnew]; exact Nat.le_refl _
/-- A labelled map is written. -/
theorem SR.setMap (h : SR s vf w g) {l : Nat} {es es' : List (AV × AV)} {m m' : List MapEntry} {ck ck' : Nat} (hl : l < g.n) (hb : s.hp.bk l = .map es) (hh : w.heap[g.ρ l]? = some (.map ⟨m⟩ ck))
    (hc : ML g w es' m') (hborn : ∀ e ∈ m', e.born < ck') (hnd : (m'.map MapEntry.born).Nodup) :
    Tr s vf w g ⟨s.fr, s.hp.set l (.map es')⟩ vf { w with heap := w.heap.setIfInBounds (g.ρ l) (.map ⟨m'⟩ ck') } g := by
  generalize hw : ({ w with heap := w.heap.setIfInBounds (g.ρ l) (.map ⟨m'⟩ ck') } : World) = w1
  have hheap1 : w1.heap = w.heap.setIfInBounds (g.ρ l) (.map ⟨m'⟩ ck') := by rw [← hw]
  have hnew : w1.heap[g.ρ l]? = some (.map ⟨m'⟩ ck') := by rw [hheap1]; exact (heap_set hh).1
  have hold : ∀ k, k ≠ g.ρ l → w1.heap[k]? = w.heap[k]? := fun k hk => by rw [hheap1]; exact (heap_set hh).2 k hk
  have hcell : ∀ b o, g.G b o → w1.cell? ⟨b, o, none⟩ = w.cell? ⟨b, o, none⟩ := fun b o hG => World.cell?_of_block (a := ⟨b, o, none⟩) (hold b (Ne.symm ((h.G b o hG).2 l hl)))
  have ext : Ext g w g w1 := ⟨Nat.le_refl _, fun _ _ => rfl, fun _ _ h => h, hcell⟩
  have hcl : ∀ l', l' < g.n → l' ≠ l → ∀ j, w1.cell? ⟨g.ρ l', j, none⟩ = w.cell? ⟨g.ρ l', j, none⟩ := fun l' hl' hne j => World.cell?_of_block (a := ⟨g.ρ l', j, none⟩) (hold _ (fun e => hne (h.inj l' l hl' hl e)))
  have back : ∀ p b, Own ⟨s.fr, s.hp.set l (.map es')⟩ vf w1 g p b → Own s vf w g p b := by
    intro p b ho
    cases p with
    | slot i => exact ho
    | cell l' j =>
      obtain ⟨hl', cs1, av, v, h1, h2, h3, h4⟩ := ho
      simp only [Hp.set] at hl' h1
      by_cases e1 : l' = l
      · subst e1; simp only [updB_same, reduceCtorEq] at h1
      · rw [updB_ne _ _ e1] at h1
        rw [hcl l' (h.n ▸ hl') e1] at h3
        exact ⟨hl', cs1, av, v, h1, h2, h3, h4⟩
  have tip : ∀ av v, Tip g w av v → Tip g w1 av v := by
    intro av v ht sz xs b o len cap e1 e2
    obtain ⟨t1, ⟨cur, e, t2, t3⟩, t4, t5⟩ := ht sz xs b o len cap e1 e2
    exact ⟨t1, ⟨cur, e, by rw [hold b (Ne.symm (t5 l hl))]; exact t2, t3⟩, t4, t5⟩
  have mlm : ∀ {es l}, ML g w es l → ML g w1 es l := by
    intro es l k
    induction k with
    | nil => exact .nil
    | cons k v es e l hk hv _ ih => exact .cons _ _ _ _ _ (hk.mono ext) (hv.mono ext) ih
  refine ⟨⟨h.n, fun i => (h.fr i).mono ext, fun l' hl' => ?_, h.inj, fun b o hG => ⟨?_, (h.G b o hG).2⟩, fun i => tip _ _ (h.tipS i), fun l' j cs1 av v hl' h1 h2 h3 => ?_, fun p q b hp hq => h.one p q b (back p b hp) (back q b hq)⟩,
    { ext with os := by rw [← hw], tape := by rw [← hw], output := by rw [← hw], size := by rw [hheap1]; simp, blk := fun k _ hk _ => hold k (Ne.symm (hk l hl)), newG := fun b o hG => .inl hG, newρ := fun l' h1 h2 => absurd h1 (Nat.not_le.2 h2) }, fun b ⟨p, hp⟩ => .inl ⟨p, back p b hp⟩⟩
  · by_cases e1 : l' = l
    · subst e1
      simp only [Hp.set, updB_same]
      exact ⟨m', ck', hnew, mlm hc, hborn, hnd⟩
    · simp only [Hp.set, updB_ne _ _ e1]
      have hne : g.ρ l' ≠ g.ρ l := fun e => e1 (h.inj l' l hl' hl e)
      have := h.bk l' hl'
      cases hb' : s.hp.bk l' with
      | cells cs => rw [hb'] at this; obtain ⟨vs, us, e, fr, k1, k2, k3⟩ := this; exact ⟨vs, us, e, fr, by rw [hold _ hne]; exact k1, k2.mono ext, k3⟩
      | map es =>
        rw [hb'] at this
        obtain ⟨l0, clock, k1, k2, k3, k4⟩ := this
        exact ⟨l0, clock, by rw [hold _ hne]; exact k1, mlm k2, k3, k4⟩
  · rw [hheap1]; simpa using (h.G b o hG).1
  · simp only [Hp.set] at h1
    by_cases e1 : l' = l
    · subst e1; simp only [updB_same, reduceCtorEq] at h1
    · rw [updB_ne _ _ e1] at h1
      rw [hcl l' hl' e1] at h3
      exact tip _ _ (h.tipC l' j cs1 av v hl' h1 h2 h3)
end

/-! What these operations give. -/
inductive FK | i (k : IntKind) | s | b
def cellEq : FK → AV → AV → Option Bool
  | .i k, .int k1 a, .int k2 b => if k1 = k ∧ k2 = k then some (a == b) else none
  | .s, .str a, .str b => some (a == b)
  | .b, .bool a, .bool b => some (a == b)
  | _, _, _ => none
def cellsEq : List FK → List AV → List AV → Option Bool
  | [], [], [] => some true
  | k :: ks, a :: xs, b :: bs => match cellEq k a b, cellsEq ks xs bs with
    | some r, some q => some (r && q)
    | _, _ => none
  | _, _, _ => none
inductive XK | mkm | mup (st : Option IntKind) | lkp (st : Option IntKind) (z : AV) (ok : Bool) | mks (zs : List AV) (by_ : Nat) | cap | eqs (neg : Bool) (ks : List FK) | sb | bs
def keyEq : AV → AV → Option Bool
  | .str a, .str b => some (a == b)
  | .int k a, .int k' b => if k = k' then some (a == b) else none
  | _, _ => none
def isKeyA : Option IntKind → AV → Bool
  | none, .str _ => true
  | some k, .int k' _ => k' == k
  | _, _ => false
def mfind (k : AV) : List (AV × AV) → Nat → Option (Option (Nat × AV))
  | [], _ => some none
  | (k', v) :: es, i => match keyEq k k' with
    | some true => some (some (i, v))
    | some false => mfind k es (i + 1)
    | none => none
def evX (k : XK) (hp : Hp) (as : List AV) : Option (AV × Hp) :=
  match k, as with
  | .mkm, [] => some (.mp hp.n, hp.push (.map []))
  | .mup st, [.mp l, k, v] => match hp.bk l with
    | .map es => if isKeyA st k && es.length < 1000000000 then (match mfind k es 0 with
      | some none => some (.junk, hp.set l (.map (es ++ [(k, v)])))
      | some (some (i, _)) => some (.junk, hp.set l (.map (es.set i (k, v))))
      | none => none) else none
    | _ => none
  | .lkp st z ok, [.mp l, k] => match hp.bk l with
    | .map es => if isKeyA st k then (match mfind k es 0 with
      | some none => some (if ok then .tup [z, .bool false] else z, hp)
      | some (some (_, v)) => some (if ok then .tup [strip v, .bool true] else strip v, hp)
      | none => none) else none
    | _ => none
  | .lkp st z ok, [.mnil, k] => if isKeyA st k then some (if ok then .tup [z, .bool false] else z, hp) else none
  | .mks zs by_, [.int _ n, .int _ c] => if n = c ∧ 0 ≤ n ∧ by_ * n ≤ 281474976710656 ∧ n ≤ 9223372036854775807 then
      some (.hs hp.n 0 n.toNat zs.length, hp.push (.cells (List.replicate n.toNat zs).flatten)) else none
  | .cap, [.sl .full _ xs] => some (.int .i64 xs.length, hp)
  | .eqs neg ks, [.agg xs, .agg bs] => match cellsEq ks xs bs with | some r => some (.bool (if neg then !r else r), hp) | none => none
  | .sb, [.str l] => if l.length ≤ 9223372036854775807 then some (.hs hp.n 0 l.length 1, hp.push (.cells (l.map fun b => .int .u8 b.toNat))) else none
  | .bs, [.sl _ _ xs] => match bytesOf xs with | some l => some (.str l, hp) | none => none
  | .bs, [.hs l o len _] => match hp.bk l with
    | .cells cs => if o + len ≤ cs.length then (match bytesOf ((cs.drop o).take len) with | some l => some (.str l, hp) | none => none) else none
    | _ => none
  | _, _ => none
def clsX : XK → Nat
  | .mkm => 2
  | .mup _ => 2
  | .lkp _ _ _ => 1
  | .mks _ _ => 2
  | .cap => 0
  | .eqs _ _ => 0
  | .sb => 2
  | .bs => 1
theorem evX_hp {k : XK} {hp h' : Hp} {as : List AV} {r : AV} (hc : clsX k ≠ 2) (h : evX k hp as = some (r, h')) : h' = hp := by
  unfold evX at h
  split at h <;> simp only [clsX, ne_eq, not_true_eq_false] at hc
  · split at h
    · split at h
      · split at h
        · cases h; rfl
        · cases h; rfl
        · cases h
      · cases h
    · cases h
  · split at h
    · cases h; rfl
    · cases h
  · cases h; rfl
  · split at h
    · cases h; rfl
    · cases h
  · split at h
    · cases h; rfl
    · cases h
  · split at h
    · split at h
      · split at h
        · cases h; rfl
        · cases h
      · cases h
    · cases h
  · cases h
theorem evX_free {k : XK} {hp h' hp2 : Hp} {as : List AV} {r : AV} (hc : clsX k = 0) (h : evX k hp as = some (r, h')) : evX k hp2 as = some (r, hp2) := by
  cases k <;> simp only [clsX, reduceCtorEq, Nat.reduceEqDiff] at hc
  · unfold evX at h ⊢
    split at h <;> first | (rename_i e; cases e; done) | skip
    all_goals first | (cases h; done) | skip
    all_goals (simp only [Option.some.injEq, Prod.mk.injEq] at h; obtain ⟨rfl, _⟩ := h; rfl)
  · rename_i neg ks
    match as, h with
    | [.agg xs, .agg bs], h =>
      simp only [evX] at h ⊢
      split at h
      · simp only [Option.some.injEq, Prod.mk.injEq] at h; rw [← h.1]
      · cases h
end Go.Proofs.YtnibelnjflhkgaaGreatDoor.Ab
