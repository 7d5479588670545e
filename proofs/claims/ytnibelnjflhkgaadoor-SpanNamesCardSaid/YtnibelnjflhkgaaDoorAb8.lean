/- What each operation that writes or makes memory does to a state. No condition. -/
import Derived.Test.YtnibelnjflhkgaaDoorAb7
namespace Go.Proofs.YtnibelnjflhkgaaDoor.Ab
set_option linter.unusedVariables false
set_option linter.unusedSimpArgs false
open Go.RowKit

def ASt.put (s : ASt) (d : Option Tmp) (v : AV) : ASt := match d with | some d => ⟨upd s.fr d v, s.hp⟩ | none => s
/-- An operation takes each state that stands to memory as 's' to one that stands to it as s'. -/
def Does (P : Program) (o : Oper) (s s' : ASt) : Prop :=
  ∀ (a : Act) (w : World) (g : Gh), SR s (vfa a) w g → (∀ d, o.dst = some d → d < a.tmps.size) →
    ∃ n v w' g', (execOp a.eval o).run P w = .ok n w' ∧ (n = .value v ∨ (n = .skip ∧ v = undef)) ∧ Tr s (vfa a) w g s' (vfa (a.put o.dst v)) w' g'

theorem vfa_put {a : Act} {d : Nat} {v : Value} (h : d < a.tmps.size) : vfa (a.put (some d) v) = updv (vfa a) d v := by
  funext i
  simp only [vfa, Act.put, updv]
  by_cases hi : i = d
  · subst hi; simp [h]
  · simp [hi, Array.getElem?_setIfInBounds_ne (Ne.symm hi)]

theorem does_value {P : Program} {o : Oper} {s : ASt} {r : AV} (h : ∀ (a : Act) (w : World) (g : Gh), SR s (vfa a) w g → ∃ z, (execOp a.eval o).run P w = .ok (.value z) w ∧ VR g w r z ∧ ∀ b, ¬ OwnV r z b) :
    Does P o s (s.put o.dst r) := by
  intro a w g hs hd
  obtain ⟨z, h1, h2, h3⟩ := h a w g hs
  refine ⟨_, z, w, g, h1, .inl rfl, ?_⟩
  cases hdst : o.dst with
  | none => exact Tr.refl hs
  | some d =>
    rw [vfa_put (hd d hdst)]
    exact hs.put d h2 h3
theorem does_pev {P : Program} {o : Oper} {s : ASt} {r : AV} (h : pevA P s o.op = some r) : Does P o s (s.put o.dst r) :=
  does_value fun a w g hs => let ⟨z, h1, h2, h3⟩ := run_pevA hs h; ⟨z, h1, h2, fun b => not_ownV h3⟩

/-- A slot's value is copied, or moves with what it owns. -/
def moveSt (s : ASt) (take : Bool) (d : Option Tmp) (t : Tmp) : Option ASt :=
  match d with
  | none => some s
  | some d => if take && isOwn (s.fr t) then (if d = t then none else some ⟨upd (upd s.fr t (strip (s.fr t))) d (s.fr t), s.hp⟩) else some ⟨upd s.fr d (strip (s.fr t)), s.hp⟩
theorem does_move {P : Program} {o : Oper} {s s' : ASt} {take : Bool} {t : Tmp} (ho : o.op = .move (.tmp t) ∨ o.op = .assign (.tmp t)) (h : moveSt s take o.dst t = some s') : Does P o s s' := by
  intro a w g hs hd
  refine ⟨.value (a.eval (.tmp t)), a.eval (.tmp t), w, g, ?_, .inl rfl, ?_⟩
  · rcases ho with ho | ho <;> simp [execOp, ho]
  unfold moveSt at h
  cases hdst : o.dst with
  | none => simp [hdst] at h; subst h; exact Tr.refl hs
  | some d =>
    rw [vfa_put (hd d hdst)]
    simp only [hdst] at h
    split at h
    · split at h
      · cases h
      · rename_i hne
        simp at h; subst h
        exact hs.moveSlot d t hne
    · simp at h; subst h
      exact hs.put d ((hs.fr t).strip) (fun b => not_ownV (strip_notOwn _))
/-- A constant goes into a slot. -/
theorem does_const {P : Program} {o : Oper} {s : ASt} {n : Nat} {v : Value} (ho : o.op = .move (.const v) ∨ o.op = .assign (.const v)) (hv : constOK v = true) : Does P o s (s.put o.dst (constA n v)) :=
  does_value fun a w g hs => ⟨v, by rcases ho with ho | ho <;> simp [execOp, ho, Act.eval], constA_vr' n hv, fun b => constA_not n v b⟩
theorem does_func {P : Program} {o : Oper} {s : ASt} {f : FuncId} (ho : o.op = .move (.func f) ∨ o.op = .assign (.func f)) : Does P o s (s.put o.dst (.func f [] [])) :=
  does_value fun a w g hs => ⟨.func (.func f) #[] #[], by rcases ho with ho | ho <;> simp [execOp, ho, Act.eval], .func f [] [] [] [] .nil .nil, fun b ⟨_, _, _, _, _, e, _⟩ => by cases e⟩

section
variable {s : ASt} {vf : Nat → Value} {w : World} {g : Gh}
theorem SR.setBlk (h : SR s vf w g) {l j0 : Nat} {cs cs' : List AV} {vs vs' us : List Value} {e : TypeId} {fr : Nat × Nat} (hl : l < g.n) (hb : s.hp.bk l = .cells cs) (hh : w.heap[g.ρ l]? = some (.cells ⟨vs ++ us⟩ e fr)) (hfr : fr = (0, 0) ∨ vs.length ≤ fr.1) (hlen : vs'.length = vs.length) (hc : CL g w cs' vs')
    (hown : ∀ (j : Nat) av v b, cs'[j]? = some av → vs'[j]? = some v → OwnV av v b → (cs[j]? = some av ∧ vs[j]? = some v) ∨ (j = j0 ∧ Tip g w av v ∧ ∀ p, ¬ Own s vf w g p b)) :
    SR ⟨s.fr, s.hp.set l (.cells cs')⟩ vf (w.setRow (g.ρ l) ⟨vs' ++ us⟩) g ∧ (∀ O, Stp O g w g (w.setRow (g.ρ l) ⟨vs' ++ us⟩)) ∧
    ∀ b, OwnB ⟨s.fr, s.hp.set l (.cells cs')⟩ vf (w.setRow (g.ρ l) ⟨vs' ++ us⟩) g b → OwnB s vf w g b ∨ ∃ av v, cs'[j0]? = some av ∧ vs'[j0]? = some v ∧ OwnV av v b := by
  have hnew : (w.setRow (g.ρ l) ⟨vs' ++ us⟩).heap[g.ρ l]? = some (.cells ⟨vs' ++ us⟩ e fr) := setRow_heap w _ _ _ e fr hh
  have hold : ∀ k, k ≠ g.ρ l → (w.setRow (g.ρ l) ⟨vs' ++ us⟩).heap[k]? = w.heap[k]? := fun k hk => setRow_other w _ k _ hk
  have hcell : ∀ b o, g.G b o → (w.setRow (g.ρ l) ⟨vs' ++ us⟩).cell? ⟨b, o, none⟩ = w.cell? ⟨b, o, none⟩ := fun b o hG => World.cell?_of_block (a := ⟨b, o, none⟩) (hold b (Ne.symm ((h.G b o hG).2 l hl)))
  have ext : Ext g w g (w.setRow (g.ρ l) ⟨vs' ++ us⟩) := ⟨Nat.le_refl _, fun _ _ => rfl, fun _ _ h => h, hcell⟩
  have hcl : ∀ l', l' < g.n → l' ≠ l → ∀ j, (w.setRow (g.ρ l) ⟨vs' ++ us⟩).cell? ⟨g.ρ l', j, none⟩ = w.cell? ⟨g.ρ l', j, none⟩ := fun l' hl' hne j => World.cell?_of_block (a := ⟨g.ρ l', j, none⟩) (hold _ (fun e => hne (h.inj l' l hl' hl e)))
  have hcl0 := hc.length
  have hc1 : ∀ j, j < vs'.length → (w.setRow (g.ρ l) ⟨vs' ++ us⟩).cell? ⟨g.ρ l, j, none⟩ = vs'[j]? := fun j hj => by rw [cell_of_row _ _ j _ e fr hnew]; simp [List.getElem?_append_left hj]
  have hc0 : ∀ j, j < vs.length → w.cell? ⟨g.ρ l, j, none⟩ = vs[j]? := fun j hj => by rw [cell_of_row _ _ j _ e fr hh]; simp [List.getElem?_append_left hj]
  have back : ∀ p b, Own ⟨s.fr, s.hp.set l (.cells cs')⟩ vf (w.setRow (g.ρ l) ⟨vs' ++ us⟩) g p b → Own s vf w g p b ∨ (p = .cell l j0 ∧ (∀ q, ¬ Own s vf w g q b) ∧ ∃ av v, cs'[j0]? = some av ∧ vs'[j0]? = some v ∧ OwnV av v b) := by
    intro p b ho
    cases p with
    | slot i => exact .inl ho
    | cell l' j =>
      obtain ⟨hl', cs1, av, v, h1, h2, h3, h4⟩ := ho
      simp only [Hp.set] at hl' h1
      by_cases e1 : l' = l
      · subst e1
        simp only [updB_same, Blk.cells.injEq] at h1
        subst h1
        rw [hc1 j (by have hjq : j < cs'.length := (List.getElem?_eq_some_iff.1 h2).1; omega)] at h3
        rcases hown j av v b h2 h3 h4 with ⟨k1, k2⟩ | ⟨rfl, _, k2⟩
        · exact .inl ⟨hl', cs, av, v, hb, k1, by rw [hc0 j (List.getElem?_eq_some_iff.1 k2).1]; exact k2, h4⟩
        · exact .inr ⟨rfl, k2, av, v, h2, h3, h4⟩
      · rw [updB_ne _ _ e1] at h1
        rw [hcl l' (h.n ▸ hl') e1] at h3
        exact .inl ⟨hl', cs1, av, v, h1, h2, h3, h4⟩
  have tip : ∀ av v, Tip g w av v → Tip g (w.setRow (g.ρ l) ⟨vs' ++ us⟩) av v := by
    intro av v ht sz xs b o len cap e1 e2
    obtain ⟨t1, ⟨cur, e, t2, t3⟩, t4, t5⟩ := ht sz xs b o len cap e1 e2
    exact ⟨t1, ⟨cur, e, by rw [hold b (Ne.symm (t5 l hl))]; exact t2, t3⟩, t4, t5⟩
  refine ⟨⟨h.n, fun i => (h.fr i).mono ext, fun l' hl' => ?_, h.inj, fun b o hG => by simpa using h.G b o hG, fun i => tip _ _ (h.tipS i), fun l' j cs1 av v hl' h1 h2 h3 => ?_, fun p q b hp hq => ?_⟩,
    fun O => { ext with os := rfl, tape := rfl, output := rfl, size := by simp, blk := fun k _ hk _ => hold k (Ne.symm (hk l hl)), newG := fun b o hG => .inl hG, newρ := fun l' h1 h2 => absurd h1 (Nat.not_le.2 h2) }, fun b ⟨p, hp⟩ => ?_⟩
  · by_cases e1 : l' = l
    · subst e1
      simp only [Hp.set, updB_same]
      exact ⟨vs', us, e, fr, hnew, hc.mono ext, by rw [hlen]; exact hfr⟩
    · simp only [Hp.set, updB_ne _ _ e1]
      have hne : g.ρ l' ≠ g.ρ l := fun e => e1 (h.inj l' l hl' hl e)
      have := h.bk l' hl'
      cases hb' : s.hp.bk l' with
      | cells cs => rw [hb'] at this; obtain ⟨vs, us, e, fr, k1, k2, k3⟩ := this; exact ⟨vs, us, e, fr, by rw [hold _ hne]; exact k1, k2.mono ext, k3⟩
      | map es =>
        rw [hb'] at this
        obtain ⟨l0, clock, k1, k2, k3, k4⟩ := this
        refine ⟨l0, clock, by rw [hold _ hne]; exact k1, ?_, k3, k4⟩
        clear k1 k3 k4 hb'
        induction k2 with
        | nil => exact .nil
        | cons k v es e l hk hv _ ih => exact .cons _ _ _ _ _ (hk.mono ext) (hv.mono ext) ih
  · by_cases e1 : l' = l
    · subst e1
      simp only [Hp.set, updB_same, Blk.cells.injEq] at h1
      subst h1
      rw [hc1 j (by have hjq : j < cs'.length := (List.getElem?_eq_some_iff.1 h2).1; omega)] at h3
      intro sz xs b o len cap e1 e2
      rcases hown j av v b h2 h3 ⟨sz, xs, o, len, cap, e1, e2⟩ with ⟨k1, k2⟩ | ⟨rfl, k1, k2⟩
      · exact tip _ _ (h.tipC l' j cs av v hl' hb k1 (by rw [hc0 j (List.getElem?_eq_some_iff.1 k2).1]; exact k2)) sz xs b o len cap e1 e2
      · exact tip _ _ k1 sz xs b o len cap e1 e2
    · simp only [Hp.set, updB_ne _ _ e1] at h1
      rw [hcl l' hl' e1] at h3
      exact tip _ _ (h.tipC l' j cs1 av v hl' h1 h2 h3)
  · rcases back p b hp with h1 | ⟨e1, h1, _⟩ <;> rcases back q b hq with h2 | ⟨e2, h2, _⟩
    · exact h.one p q b h1 h2
    · exact absurd h1 (h2 p)
    · exact absurd h2 (h1 q)
    · rw [e1, e2]
  · rcases back p b hp with h1 | ⟨_, _, h1⟩
    · exact .inl ⟨p, h1⟩
    · exact .inr h1
end
def putCells (cs : List AV) (o : Nat) (vs : List AV) : List AV :=
  match vs with
  | [v] => cs.set o v
  | vs => cs.take o ++ (vs ++ cs.drop (o + vs.length))
theorem putCells_eq (cs : List AV) (o : Nat) (vs : List AV) (h : o + vs.length ≤ cs.length) : putCells cs o vs = cs.take o ++ (vs ++ cs.drop (o + vs.length)) := by
  unfold putCells
  split
  · rename_i v
    rw [List.set_eq_take_append_cons_drop, if_pos (by simp at h; omega)]
    rfl
  · rfl
end Go.Proofs.YtnibelnjflhkgaaDoor.Ab
