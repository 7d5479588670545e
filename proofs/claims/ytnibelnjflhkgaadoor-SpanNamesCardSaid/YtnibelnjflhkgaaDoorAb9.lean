/- Stores, new variables, new rows, rows that grow: each as a step of the state. No condition. -/
import Derived.Test.YtnibelnjflhkgaaDoorAb8
namespace Go.Proofs.YtnibelnjflhkgaaDoor.Ab
set_option linter.unusedVariables false
set_option linter.unusedSimpArgs false
open Go.RowKit

/-- A store. 'take': a slice that is stored brings along what it owns. -/
def valA (P : Program) (s : ASt) (t : TypeId) : Operand → AV
  | .const v => if constOK v then typA (elT P t) (strip (constA 0 v)) else .junk
  | x => evA s x
def ownSlot (s : ASt) : Operand → Option Nat
  | .tmp t => if isOwn (s.fr t) then some t else none
  | _ => none
def storeSt (P : Program) (s : ASt) (t : TypeId) (addr x : Operand) : Option ASt :=
  match evA s addr with
  | .ptr l o =>
    match s.hp.bk l, szT P t with
    | .cells cs, some n =>
      let v := valA P s t x
      if okc v = true ∧ v.cells.length = n ∧ o + n ≤ cs.length then
        match ownSlot s x with
        | some t' => some ⟨upd s.fr t' v, s.hp.set l (.cells (cs.set o (s.fr t')))⟩
        | none => some ⟨s.fr, s.hp.set l (.cells (putCells cs o (v.cells.map strip)))⟩
      else none
    | _, _ => none
  | _ => none

section
variable {P : Program} {g : Gh} {w : World} {s : ASt} {a : Act}
theorem valA_vr (h : SR s (vfa a) w g) (t : TypeId) (x : Operand) : VR g w (valA P s t x) (a.eval x) := by
  cases x with
  | const v => simp only [valA]; split; exact typA_vr (constA_vr' 0 ‹_›).strip; exact .junk _
  | tmp t => simp only [valA]; exact evA_vr h _
  | func f => simp only [valA]; exact evA_vr h _
  | global _ => simp only [valA]; exact evA_vr h _

theorem run_storeCells_fr (P : Program) (g o : Nat) (t : TypeId) (fz : Nat × Nat) : ∀ (vs : List Value) (i : Nat) (cur : Array Value) (w : World), w.heap[g]? = some (.cells cur t fz) → (fz = (0, 0) ∨ o + i + vs.length ≤ fz.1) → o + i + vs.length ≤ cur.size → (∀ v ∈ vs, v.oneCell' = true) →
    (storeCells ⟨g, o, none⟩ vs i).run P w = .ok () (w.setRow g (cur.toList.take (o + i) ++ vs ++ cur.toList.drop (o + i + vs.length)).toArray)
  | [], i, cur, w, hg, _, _, _ => by
    simp only [storeCells, List.append_nil, List.length_nil, Nat.add_zero, List.take_append_drop, Array.toArray_toList]
    rw [setRow_self w g cur t fz hg]
    rfl
  | v :: rest, i, cur, w, hg, hfz, hl, h1 => by
    have hi : o + i < cur.size := by simp at hl; omega
    have hadd : (⟨g, o, none⟩ : Addr).add i = ⟨g, o + i, none⟩ := by unfold Addr.add; split <;> simp_all
    have hcell : w.cell? ⟨g, o + i, none⟩ = some cur[o + i] := by simp [World.cell?, hg, hi]
    have hfro : w.frozen? ⟨g, o + i, none⟩ = false := by
      rcases hfz with rfl | hfz
      · simp [World.frozen?, hg]
      · obtain ⟨lo, hi'⟩ := fz
        simp only [World.frozen?, hg, Bool.and_eq_false_iff, decide_eq_false_iff_not]
        left
        simp only [List.length_cons] at hfz
        omega
    have hst : (store ((⟨g, o, none⟩ : Addr).add i) v).run P w = .ok () (w.setRow g (cur.setIfInBounds (o + i) v)) := by
      rw [hadd, run_store P w _ v _ (h1 v (by simp)), hcell]
      simp [hfro, setCell_eq_setRow w g (o + i) cur t fz v hg]
    have ih := run_storeCells_fr P g o t fz rest (i + 1) (cur.setIfInBounds (o + i) v) (w.setRow g (cur.setIfInBounds (o + i) v)) (setRow_heap w g cur _ t _ hg) (by rcases hfz with h | h; exact .inl h; exact .inr (by simp at h ⊢; omega)) (by simp at hl ⊢; omega) (fun x hx => h1 x (by simp [hx]))
    simp only [storeCells, Sem.run_bind, hst, Result.andThen_ok, ih, setRow_setRow]
    congr 3
    have e := list_seg_step cur.toList (o + i) v rest (by simp at hl ⊢; omega)
    simpa [Array.toList_setIfInBounds, Nat.add_assoc] using e
theorem run_storeVar {b o : Nat} {t e : TypeId} {cur us vs : List Value} {fr : Nat × Nat} {v : Value} {n : Nat} (hg : w.heap[b]? = some (.cells ⟨cur ++ us⟩ e fr)) (hfr : fr = (0, 0) ∨ cur.length ≤ fr.1) (hn : szT P t = some n) (hv : v.cells.toList = vs) (hl : vs.length = n) (ho : o + n ≤ cur.length) (h1 : ∀ v ∈ vs, v.oneCell' = true) :
    (storeVar t ⟨b, o, none⟩ v).run P w = .ok () (w.setRow b ⟨(cur.take o ++ (vs ++ cur.drop (o + vs.length))) ++ us⟩) := by
  subst hv
  have hz0 : v.cells.toList.length = n := hl
  have hr := run_storeCells_fr P b o e fr v.cells.toList 0 ⟨cur ++ us⟩ w hg (by rcases hfr with h | h; exact .inl h; exact .inr (by omega)) (by simp at hl ⊢; omega) h1
  simp only [Nat.add_zero] at hr
  have hz : v.cells.size = n := by simpa using hl
  simp [storeVar, run_sizeOf' hn, hz]
  rw [hr]
  have e1 : (cur ++ us).take o = cur.take o := List.take_append_of_le_length (by omega)
  have e2 : (cur ++ us).drop (o + v.cells.toList.length) = cur.drop (o + v.cells.toList.length) ++ us := List.drop_append_of_le_length (by omega)
  rw [e1, e2, hl]
  simp

theorem does_store {o : Oper} {s s' : ASt} {t : TypeId} {addr x : Operand} (ho : o.op = .store t addr x) (hd : o.dst = none) (h : storeSt P s t addr x = some s') : Does P o s s' := by
  intro a w g hs _
  unfold storeSt at h
  split at h
  · rename_i l of hea
    split at h
    · rename_i cs n hb hn
      simp only at h
      split at h
      · rename_i hc
        obtain ⟨hk, hlen, hle⟩ := hc
        have hva := evA_vr hs addr
        rw [hea] at hva
        generalize hadr : a.eval addr = ad at hva
        cases hva with
        | ptr _ _ hl =>
        obtain ⟨vs, us, e, fr, h1, h2, hfr, h3⟩ := hs.box hl hb
        have hvx := valA_vr (P := P) hs t x
        have hcl := cellsCL hvx hk
        have hlv := hcl.length
        have hlc := h2.length
        have hst := run_storeVar (P := P) (t := t) (o := of) h1 hfr hn (v := a.eval x) rfl (by rw [← hlv]; exact hlen) (by omega) hcl.one
        refine ⟨.skip, undef, w.setRow (g.ρ l) ⟨(vs.take of ++ ((a.eval x).cells.toList ++ vs.drop (of + (a.eval x).cells.toList.length))) ++ us⟩, g, ?_, .inr ⟨rfl, rfl⟩, ?_⟩
        · simp [execOp, ho, Instr.storeAt, Instr.sureAddr, hadr, hst]
        rw [hd]
        have hput : vfa (a.put none undef) = vfa a := rfl
        rw [hput]
        split at h
        · rename_i t' hos
          simp at h; subst h
          -- the slice moves out of its slot
          cases x with
          | tmp t1 =>
            simp only [ownSlot] at hos
            split at hos
            · rename_i hown
              simp at hos; subst hos
              simp only [valA, evA] at *
              have hsl : ∃ sz xs, s.fr t1 = .sl .own sz xs := by
                cases hf : s.fr t1 <;> rw [hf] at hown <;> simp [isOwn] at hown
                rename_i fl sz xs
                cases fl <;> simp [isOwn] at hown
                exact ⟨sz, xs, rfl⟩
              obtain ⟨sz, xs, hf⟩ := hsl
              obtain ⟨k1, k2⟩ := hs.stripSlot t1
              have hcells : (strip (s.fr t1)).cells = [strip (s.fr t1)] := by rw [hf]; rfl
              rw [hcells] at hcl hlen
              simp at hlen; subst hlen
              have hvc : (a.eval (.tmp t1)).cells.toList = [a.eval (.tmp t1)] := by
                have := hs.fr t1
                rw [hf] at this
                have e : vfa a t1 = a.eval (.tmp t1) := rfl
                rw [e] at this
                generalize a.eval (.tmp t1) = u at this
                cases this <;> rfl
              have hone : (a.eval (.tmp t1)).oneCell' = true := by rw [hvc] at hcl; exact hcl.one _ (by simp)
              rw [hvc]
              have hset : vs.take of ++ ([a.eval (.tmp t1)] ++ vs.drop (of + [a.eval (.tmp t1)].length)) = vs.set of (a.eval (.tmp t1)) := by
                rw [List.set_eq_take_append_cons_drop, if_pos (by omega)]; rfl
              rw [hset]
              have hc2 : CL g w (cs.set of (s.fr t1)) (vs.set of (a.eval (.tmp t1))) := by
                have e1 : cs.set of (s.fr t1) = cs.take of ++ (s.fr t1 :: cs.drop (of + 1)) := by rw [List.set_eq_take_append_cons_drop, if_pos (by omega)]
                rw [e1, ← hset]
                exact (h2.take of).append (.cons _ _ _ _ hone (hs.fr t1) (h2.drop (of + 1)))
              have hfresh : ∀ b, OwnV (s.fr t1) (a.eval (.tmp t1)) b → ∀ p, ¬ Own ⟨upd s.fr t1 (strip (s.fr t1)), s.hp⟩ (vfa a) w g p b := fun b hb p hp => by
                obtain ⟨m1, m2⟩ := k2 p b hp
                exact m2 (hs.one p (.slot t1) b m1 hb)
              obtain ⟨q1, q2, q3⟩ := k1.setBlk (j0 := of) hl hb h1 hfr (by simp) hc2 (fun j av v b hj hv hob => by
                by_cases e1 : j = of
                · subst e1
                  rw [List.getElem?_set_self (by omega)] at hj hv
                  simp at hj hv; subst hj; subst hv
                  exact .inr ⟨rfl, hs.tipS t1, hfresh b hob⟩
                · rw [List.getElem?_set_ne (Ne.symm e1)] at hj hv
                  exact .inl ⟨hj, hv⟩)
              refine ⟨q1, q2 _, fun b hb => .inl ?_⟩
              rcases q3 b hb with ⟨p, hp⟩ | ⟨av, v, hj, hv, hob⟩
              · exact ⟨p, (k2 p b hp).1⟩
              · rw [List.getElem?_set_self (by omega)] at hj hv
                simp at hj hv; subst hj; subst hv
                exact ⟨.slot t1, hob⟩
            · cases hos
          | const _ => simp [ownSlot] at hos
          | func _ => simp [ownSlot] at hos
          | global _ => simp [ownSlot] at hos
        · simp at h; subst h
          have hlp : ((valA P s t x).cells.map strip).length = n := by simpa using hlen
          rw [putCells_eq _ _ _ (by rw [hlp]; exact hle)]
          have hlv2 : (a.eval x).cells.toList.length = n := by rw [← hlv]; exact hlen
          have hc2 : CL g w (cs.take of ++ ((valA P s t x).cells.map strip ++ cs.drop (of + ((valA P s t x).cells.map strip).length))) (vs.take of ++ ((a.eval x).cells.toList ++ vs.drop (of + (a.eval x).cells.toList.length))) := by
            rw [hlp, hlv2]
            exact (h2.take of).append ((CL_map_strip hcl).append (h2.drop (of + n)))
          obtain ⟨q1, q2, q3⟩ := hs.setBlk (j0 := cs.length + n) hl hb h1 hfr (by
            have : of + n ≤ vs.length := by omega
            rw [List.length_append, List.length_append, List.length_take, List.length_drop, hlv2, Nat.min_eq_left (by omega)]
            omega) hc2 (fun j av v b hj hv hob => by
            left
            by_cases e1 : j < of
            · rw [List.getElem?_append_left (by simp; omega), List.getElem?_take_of_lt e1] at hj hv
              exact ⟨hj, hv⟩
            · have hto : (cs.take of).length = of := by simp; omega
              have htv : (vs.take of).length = of := by simp; omega
              rw [List.getElem?_append_right (by omega), hto] at hj
              rw [List.getElem?_append_right (by omega), htv] at hv
              by_cases e2 : j - of < n
              · rw [List.getElem?_append_left (by omega)] at hj
                have : av ∈ (valA P s t x).cells.map strip := List.mem_of_getElem? hj
                obtain ⟨c, _, rfl⟩ := List.mem_map.1 this
                exact absurd hob (not_ownV (strip_notOwn _))
              · rw [List.getElem?_append_right (by omega), hlp, List.getElem?_drop] at hj
                rw [List.getElem?_append_right (by omega), hlv2, List.getElem?_drop] at hv
                have e3 : of + n + (j - of - n) = j := by omega
                rw [e3] at hj hv
                exact ⟨hj, hv⟩)
          refine ⟨q1, q2 _, fun b hb => .inl ?_⟩
          rcases q3 b hb with h | ⟨av, v, hj, _⟩
          · exact h
          · have := (List.getElem?_eq_some_iff.1 hj).1
            simp at this
            omega
      · cases h
    · cases h
  · cases h

theorem does_alloc {o : Oper} {s : ASt} {t : TypeId} {d : Nat} {zs : List AV} (ho : o.op = .alloc t) (hd : o.dst = some d) (hz : zeroA P t = some zs) :
    Does P o s ⟨upd s.fr d (.ptr s.hp.n 0), s.hp.push (.cells zs)⟩ := by
  intro a w g hs hlt
  obtain ⟨i, z, h1, h2, h3, h4⟩ := zeroA_spec hz
  obtain ⟨hc, hno⟩ := matchZ_cl (g := g) (w := w) h3
  obtain ⟨g', htr⟩ := hs.pushBlk d zs z.cells.toList t hc hno
  refine ⟨_, .pointer (some ⟨w.heap.size, 0, none⟩), w.alloc (.cells ⟨z.cells.toList⟩ t), g', ?_, .inl rfl, ?_⟩
  · simp [execOp, ho, Instr.alloc, zeroValue, typeInfo, h1, h2, newVar, newRow]
  · rw [hd, vfa_put (hlt d hd)]
    simpa using htr
theorem does_box {o : Oper} {s : ASt} {t : TypeId} {x : Operand} {d : Nat} (ho : o.op = .box t x) (hd : o.dst = some d) (hk : okc (valA P s t x) = true) :
    Does P o s ⟨upd s.fr d (.ptr s.hp.n 0), s.hp.push (.cells ((valA P s t x).cells.map strip))⟩ := by
  intro a w g hs hlt
  have hcl := CL_map_strip (cellsCL (valA_vr (P := P) hs t x) hk)
  obtain ⟨g', htr⟩ := hs.pushBlk d _ _ t hcl (fun j av v hj hv b hob => by
    have : av ∈ (valA P s t x).cells.map strip := List.mem_of_getElem? hj
    obtain ⟨c, _, rfl⟩ := List.mem_map.1 this
    exact not_ownV (strip_notOwn _) hob)
  refine ⟨_, .pointer (some ⟨w.heap.size, 0, none⟩), w.alloc (.cells ⟨(a.eval x).cells.toList⟩ t), g', ?_, .inl rfl, ?_⟩
  · simp [execOp, ho, Instr.box, newVar, newRow]
  · rw [hd, vfa_put (hlt d hd)]
    simpa using htr
end
end Go.Proofs.YtnibelnjflhkgaaDoor.Ab
