/- Rows made of parts, and rows that grow. No condition. -/
import Derived.Test.YtnibelnjflhkgaaDoorAb9
namespace Go.Proofs.YtnibelnjflhkgaaDoor.Ab
set_option linter.unusedVariables false
set_option linter.unusedSimpArgs false
open Go.RowKit

/-- A slice type's element, its cells and its bytes. -/
def rowT (P : Program) (t : TypeId) : Option (TypeId × Nat × Nat) :=
  match sliceT P t with
  | some e => match P.info? e with
    | some i => match i.zero with
      | some z => if z.cells.size = i.size then some (e, i.size, i.bytes) else none
      | none => none
    | none => none
  | none => none
theorem rowT_spec {P : Program} {t e : TypeId} {n by_ : Nat} (h : rowT P t = some (e, n, by_)) : ∃ i z, P.underlying t = some (.slice e) ∧ P.info? e = some i ∧ i.zero = some z ∧ z.cells.size = n ∧ i.size = n ∧ i.bytes = by_ := by
  unfold rowT at h
  split at h
  · rename_i e' he
    split at h
    · rename_i i hi
      split at h
      · rename_i z hz
        split at h
        · rename_i hs
          simp at h; obtain ⟨rfl, rfl, rfl⟩ := h
          exact ⟨i, z, sliceT_und he, hi, hz, hs, rfl, rfl⟩
        · cases h
      · cases h
    · cases h
  · cases h

def bsA (P : Program) (s : ASt) (t : TypeId) (len : Nat) (parts : List (Nat × Operand)) : Option AV :=
  match rowT P t with
  | some (e, n, _) =>
    let xs := parts.map fun p => valA P s e p.2
    if parts.map (·.1) = List.range len ∧ (xs.all fun x => okc x && (x.cells.length == n)) = true ∧ len * n ≤ 16777216 ∧ 0 < n then some (.sl .own n xs) else none
  | none => none

theorem fill_row (n : Nat) : ∀ (vals : List Value) (k : Nat) (cur : List Value), (∀ v ∈ vals, v.cells.toList.length = n) → (k + vals.length) * n ≤ cur.length →
    Instr.fill (fun i => some (i * n, n)) ⟨cur⟩ ((List.range' k vals.length).zip vals) = some ⟨cur.take (k * n) ++ (vals.flatMap (fun v => v.cells.toList) ++ cur.drop ((k + vals.length) * n))⟩ := by
  intro vals
  induction vals with
  | nil => intro k cur _ _; simp [Instr.fill]
  | cons v vals ih =>
    intro k cur hv hl
    have hvn : v.cells.toList.length = n := hv v (by simp)
    have hvn' : v.cells.size = n := by simpa using hvn
    have hl' : k * n + n + vals.length * n ≤ cur.length := by
      have := hl; simp only [List.length_cons] at this
      rw [show k + (vals.length + 1) = k + 1 + vals.length by omega, Nat.add_mul, Nat.add_mul, Nat.one_mul] at this
      exact this
    simp only [List.length_cons, List.range'_succ, List.zip_cons_cons]
    unfold Instr.fill
    have hcond : ¬ ((v.cells.size ≠ n || decide (k * n + v.cells.size > (⟨cur⟩ : Array Value).size)) = true) := by simp [hvn']; omega
    have hf := foldl_set v.cells.toList 0 (k * n) ⟨cur⟩ (by simp [hvn']; omega)
    have hz : v.cells.zipIdx.foldl (fun cs (x : Value × Nat) => cs.setIfInBounds (k * n + x.2) x.1) (⟨cur⟩ : Array Value) = ⟨cur.take (k * n) ++ (v.cells.toList ++ cur.drop (k * n + n))⟩ := by
      rw [← Array.foldl_toList, Array.toList_zipIdx, hf, hvn]; rfl
    simp only []
    rw [if_neg hcond]
    refine (congrArg (fun z => Instr.fill (fun i => some (i * n, n)) z ((List.range' (k + 1) vals.length).zip vals)) hz).trans ?_
    rw [ih (k + 1) _ (fun u hu => hv u (by simp [hu])) (by simp [Nat.add_mul, hvn']; omega)]
    have e0 : (cur.take (k * n)).length = k * n := by simp; omega
    have e5 : (cur.take (k * n) ++ v.cells.toList).length = k * n + n := by rw [List.length_append, e0, hvn]
    have e1 : (cur.take (k * n) ++ (v.cells.toList ++ cur.drop (k * n + n))).take ((k + 1) * n) = cur.take (k * n) ++ v.cells.toList := by
      rw [Nat.add_mul, Nat.one_mul, ← List.append_assoc]
      exact List.take_left' e5
    have e2 : (cur.take (k * n) ++ (v.cells.toList ++ cur.drop (k * n + n))).drop ((k + 1 + vals.length) * n) = cur.drop ((k + (vals.length + 1)) * n) := by
      have e3 : (k + 1 + vals.length) * n = k * n + n + vals.length * n := by rw [Nat.add_mul, Nat.add_mul, Nat.one_mul]
      have e4 : (k + (vals.length + 1)) * n = k * n + n + vals.length * n := by rw [Nat.add_mul, Nat.add_mul, Nat.one_mul]; omega
      rw [e3, e4, ← List.append_assoc, List.drop_append, e5, Nat.add_sub_cancel_left, List.drop_drop, List.drop_of_length_le (by omega)]
      rfl
    rw [e1, e2]
    simp

section
variable {P : Program} {g : Gh} {w : World} {s : ASt} {a : Act}
theorem CL_flat {n : Nat} {xs : List AV} {vs : List Value} (h : VL g w xs vs) (hk : (xs.all fun x => okc x && (x.cells.length == n)) = true) : CL g w (flat xs) (vs.flatMap fun v => v.cells.toList) ∧ ∀ v ∈ vs, v.cells.toList.length = n := by
  induction xs generalizing vs with
  | nil => cases h; exact ⟨.nil, by simp⟩
  | cons x xs ih =>
    cases h with
    | cons _ _ v vs hv t =>
      simp only [List.all_cons, Bool.and_eq_true, beq_iff_eq] at hk
      obtain ⟨⟨k1, k2⟩, k3⟩ := hk
      have hc := cellsCL hv k1
      obtain ⟨i1, i2⟩ := ih t (by simpa using k3)
      refine ⟨by rw [flat_cons, List.flatMap_cons]; exact hc.append i1, fun u hu => ?_⟩
      simp only [List.mem_cons] at hu
      rcases hu with rfl | hu
      · rw [← hc.length]; exact k2
      · exact i2 u hu
theorem VL_val (h : SR s (vfa a) w g) (e : TypeId) (ps : List (Nat × Operand)) : VL g w (ps.map fun p => valA P s e p.2) (ps.map fun p => a.eval p.2) := by
  induction ps with
  | nil => exact .nil
  | cons p ps ih => exact .cons _ _ _ _ (valA_vr h e p.2) ih

theorem does_bs {o : Oper} {t : TypeId} {len d : Nat} {parts : Array (Nat × Operand)} {r : AV} (ho : o.op = .buildSlice t len parts) (hd : o.dst = some d) (h : bsA P s t len parts.toList = some r) :
    Does P o s ⟨upd s.fr d r, s.hp⟩ := by
  intro a w g hs hlt
  unfold bsA at h
  split at h
  · rename_i e n by_ hr
    simp only at h
    split at h
    · rename_i hc
      obtain ⟨h1, h2, h3, h4⟩ := hc
      simp at h; subst h
      obtain ⟨i, z, r1, r2, r3, r4, r5, r6⟩ := rowT_spec hr
      obtain ⟨hcl, hlen⟩ := CL_flat (VL_val (P := P) hs e parts.toList) h2
      have hpl : parts.toList.length = len := by have := congrArg List.length h1; simpa using this
      have hpz : (parts.toList.map fun p => (p.1, a.eval p.2)) = (List.range' 0 len).zip (parts.toList.map fun p => a.eval p.2) := by
        rw [← List.range_eq_range', ← h1]
        generalize parts.toList = l
        induction l with
        | nil => rfl
        | cons p l ih => simp [ih]
      have hzlen : len * n ≠ 0 → 0 < z.cells.size := fun _ => by omega
      let zero : Array Value := if len * n = 0 then #[] else z.cells
      have hfl := fill_row n (parts.toList.map fun p => a.eval p.2) 0 ((List.range (len * n)).map fun i => zero[i % zero.size]!) hlen (by simp [hpl])
      simp only [Nat.zero_mul, List.take_zero, List.nil_append, Nat.zero_add, List.length_map, hpl] at hfl
      rw [List.drop_of_length_le (by simp), List.append_nil, ← hpz] at hfl
      have hxl : (parts.toList.map fun p => valA P s e p.2).length = len := by simp [hpl]
      have hsz : ∀ x ∈ (parts.toList.map fun p => valA P s e p.2), x.cells.length = n := fun x hx => by
        have := List.all_eq_true.1 h2 x hx
        simp at this; exact this.2
      have hvl : ((parts.toList.map fun p => a.eval p.2).flatMap fun v => v.cells.toList).length = len * n := by
        rw [← hcl.length, flat_length hsz, hxl]
      obtain ⟨g', htr⟩ := hs.pushRow d n len (parts.toList.map fun p => valA P s e p.2) _ [] e w rfl rfl rfl rfl hsz hcl (by omega) (by unfold maxLen; have : len ≤ len * n := Nat.le_mul_of_pos_right _ h4; omega) (by simpa using hvl)
      rw [List.append_nil, hxl] at htr
      refine ⟨_, .slice (some ⟨w.heap.size, 0, none⟩) len len, w.alloc (.cells ⟨(parts.toList.map fun p => a.eval p.2).flatMap fun v => v.cells.toList⟩ e), g', ?_, .inl rfl, ?_⟩
      · have hsize : (sizeOf e).run P w = .ok n w := run_sizeOf' (by simp [szT, r2, r5])
        have hzv : (zeroValue e).run P w = .ok z w := by simp [zeroValue, typeInfo, r2, r3]
        have hbs : (Instr.buildSlice t len (parts.map fun (i, x) => (i, a.eval x))).run P w = .ok (.slice (some ⟨w.heap.size, 0, none⟩) len len) (w.alloc (.cells ⟨(parts.toList.map fun p => a.eval p.2).flatMap fun v => v.cells.toList⟩ e)) := by
          have hnot : ¬ (len * n > 2 ^ 24) := by omega
          have hfl' : Instr.fill (fun i => some (i * n, n)) ((Array.range (len * n)).map fun i => zero[i % zero.size]!) (parts.map fun (i, x) => (i, a.eval x)).toList = some ⟨(parts.toList.map fun p => a.eval p.2).flatMap fun v => v.cells.toList⟩ := by
            have e1 : ((Array.range (len * n)).map fun i => zero[i % zero.size]!) = ⟨(List.range (len * n)).map fun i => zero[i % zero.size]!⟩ := by
              apply Array.ext'; simp
            rw [e1, ← hfl]; simp
          by_cases hz0 : len * n = 0
          · have ez : zero = #[] := by simp [zero, hz0]
            rw [ez] at hfl'
            simp only [Instr.buildSlice, Sem.run_bind, run_underlying r1, Result.andThen_ok, hsize, hnot, if_false, Sem.run_pure, if_pos hz0]
            simp only [hfl']
            rfl
          · have ez : zero = z.cells := by simp [zero, hz0]
            rw [ez] at hfl'
            simp only [Instr.buildSlice, Sem.run_bind, run_underlying r1, Result.andThen_ok, hsize, hnot, if_false, Sem.run_pure, hz0, hzv]
            simp only [hfl']
            rfl
        simp only [execOp, ho, Sem.run_bind, hbs, Result.andThen_ok, Sem.run_pure]
      · rw [hd, vfa_put (hlt d hd)]
        exact htr
    · cases h
  · cases h
end
end Go.Proofs.YtnibelnjflhkgaaDoor.Ab
