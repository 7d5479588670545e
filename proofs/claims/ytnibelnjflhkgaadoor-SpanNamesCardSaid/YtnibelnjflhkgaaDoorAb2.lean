/- Operations that only compute: what they give, and that the machine gives a value that stands for it. No condition. -/
import Derived.Test.YtnibelnjflhkgaaDoorAb1
import Derived.Laws.StructEq
import Derived.Laws.Slices
import Derived.Laws.Strings
import Derived.Laws.BytesString
namespace Go.Proofs.YtnibelnjflhkgaaDoor.Ab
set_option linter.unusedVariables false
set_option linter.unusedSimpArgs false
open Go.RowKit

def szT (P : Program) (t : TypeId) : Option Nat := (P.info? t).map (·.size)
def aggT (P : Program) (t : TypeId) : Option Bool := match P.underlying t with | some (.struct _) => some true | some (.array _ _) => some true | some _ => some false | none => none
def sliceT (P : Program) (t : TypeId) : Option TypeId := match P.underlying t with | some (.slice e) => some e | _ => none
def arrT (P : Program) (t : TypeId) : Option (Nat × TypeId) := match P.underlying t with | some (.array n e) => some (n, e) | _ => none
def fldT (P : Program) (t : TypeId) (i : Nat) : Option (Nat × TypeId) := match P.underlying t with | some (.struct fs) => (fs[i]?).map fun f => (f.offset, f.type) | _ => none
def intT (P : Program) (t : TypeId) : Option IntKind := match P.underlying t with | some (.int k) => some k | _ => none
def strT (P : Program) (t : TypeId) : Bool := match P.underlying t with | some .string => true | _ => false
/-- The cells of one element of a slice type. -/
def elT (P : Program) (t : TypeId) : Option Nat := (sliceT P t).bind (szT P)

section
variable {P : Program} {t : TypeId} {w : World}
theorem run_sizeOf' {n : Nat} (h : szT P t = some n) : (sizeOf t).run P w = .ok n w := by
  unfold szT at h
  cases hi : P.info? t with
  | none => simp [hi] at h
  | some i => simp [hi] at h; simp [sizeOf, typeInfo, hi, h]
theorem run_isAgg' {b : Bool} (h : aggT P t = some b) : (isAgg t).run P w = .ok b w := by
  unfold aggT at h
  cases hu : P.underlying t with
  | none => simp [hu] at h
  | some d => cases d <;> simp [hu] at h <;> subst h <;> simp [isAgg, run_underlying hu]
theorem sliceT_und {e : TypeId} (h : sliceT P t = some e) : P.underlying t = some (.slice e) := by
  unfold sliceT at h; split at h <;> simp_all
theorem arrT_und {n : Nat} {e : TypeId} (h : arrT P t = some (n, e)) : P.underlying t = some (.array n e) := by
  unfold arrT at h; split at h <;> simp_all
theorem fldT_und {i o : Nat} {ft : TypeId} (h : fldT P t i = some (o, ft)) : ∃ fs f, P.underlying t = some (.struct fs) ∧ fs[i]? = some f ∧ f.offset = o ∧ f.type = ft := by
  unfold fldT at h
  split at h
  · rename_i fs hu
    cases hf : fs[i]? with
    | none => simp [hf] at h
    | some f => simp [hf] at h; exact ⟨fs, f, hu, hf, h.1, h.2⟩
  · cases h
theorem intT_und {k : IntKind} (h : intT P t = some k) : P.underlying t = some (.int k) := by
  unfold intT at h; split at h <;> simp_all
theorem strT_und (h : strT P t = true) : P.underlying t = some .string := by
  unfold strT at h; split at h <;> simp_all
end

theorem add_mk (b o j : Nat) : (⟨b, o, none⟩ : Addr).add j = ⟨b, o + j, none⟩ := by unfold Addr.add; split <;> simp_all

section
variable {g : Gh} {w : World}
theorem CL.length {cs vs} (h : CL g w cs vs) : cs.length = vs.length := by
  induction cs generalizing vs with
  | nil => cases h; rfl
  | cons a cs ih => cases h with | cons _ _ v vs h1 h2 t => simp [ih t]
theorem VL.length {cs vs} (h : VL g w cs vs) : cs.length = vs.length := by
  induction cs generalizing vs with
  | nil => cases h; rfl
  | cons a cs ih => cases h with | cons _ _ v vs h2 t => simp [ih t]
theorem CL.get {cs vs} (h : CL g w cs vs) {i : Nat} {a : AV} (hi : cs[i]? = some a) : ∃ v, vs[i]? = some v ∧ VR g w a v ∧ v.oneCell' = true := by
  induction cs generalizing vs i with
  | nil => simp at hi
  | cons c cs ih =>
    cases h with
    | cons _ _ v vs h1 h2 t =>
      cases i with
      | zero => simp at hi; subst hi; exact ⟨v, by simp, h2, h1⟩
      | succ i => simp at hi; simpa using ih t hi
theorem VL.get {cs vs} (h : VL g w cs vs) {i : Nat} {a : AV} (hi : cs[i]? = some a) : ∃ v, vs[i]? = some v ∧ VR g w a v := by
  induction cs generalizing vs i with
  | nil => simp at hi
  | cons c cs ih =>
    cases h with
    | cons _ _ v vs h2 t =>
      cases i with
      | zero => simp at hi; subst hi; exact ⟨v, by simp, h2⟩
      | succ i => simp at hi; simpa using ih t hi
theorem CL.drop {cs vs} (h : CL g w cs vs) (k : Nat) : CL g w (cs.drop k) (vs.drop k) := by
  induction k generalizing cs vs with
  | zero => simpa using h
  | succ k ih => cases h with
    | nil => simpa using CL.nil
    | cons _ _ v vs h1 h2 t => simpa using ih t
theorem CL.take {cs vs} (h : CL g w cs vs) (k : Nat) : CL g w (cs.take k) (vs.take k) := by
  induction k generalizing cs vs with
  | zero => simpa using CL.nil
  | succ k ih => cases h with
    | nil => simpa using CL.nil
    | cons _ _ v vs h1 h2 t => simpa using CL.cons _ _ _ _ h1 h2 (ih t)
theorem CL.append {cs vs ds us} (h : CL g w cs vs) (k : CL g w ds us) : CL g w (cs ++ ds) (vs ++ us) := by
  induction cs generalizing vs with
  | nil => cases h; simpa using k
  | cons c cs ih => cases h with | cons _ _ v vs h1 h2 t => simpa using CL.cons _ _ _ _ h1 h2 (ih t)
theorem CL.one {cs vs} (h : CL g w cs vs) : ∀ v ∈ vs, v.oneCell' = true := by
  induction cs generalizing vs with
  | nil => cases h; simp
  | cons c cs ih => cases h with | cons _ _ v vs h1 h2 t => simpa [h1] using ih t
theorem CR.append {b o cs ds} (h : CR g w b o (cs ++ ds)) : CR g w b o cs ∧ CR g w b (o + cs.length) ds := by
  induction cs generalizing o with
  | nil => exact ⟨.nil _ _, by simpa using h⟩
  | cons c cs ih =>
    cases h with
    | cons _ _ _ _ v hG hc h1 h2 t =>
      obtain ⟨k1, k2⟩ := ih t
      exact ⟨.cons _ _ _ _ v hG hc h1 h2 k1, by simpa [Nat.add_assoc, Nat.add_comm 1] using k2⟩
theorem CR.join {b o cs ds} (h : CR g w b o cs) (k : CR g w b (o + cs.length) ds) : CR g w b o (cs ++ ds) := by
  induction cs generalizing o with
  | nil => simpa using k
  | cons c cs ih =>
    cases h with
    | cons _ _ _ _ v hG hc h1 h2 t => exact .cons _ _ _ _ v hG hc h1 h2 (ih t (by simpa [Nat.add_assoc, Nat.add_comm 1] using k))
theorem CR.toCL {b o cs} (h : CR g w b o cs) : ∃ vs, CL g w cs vs ∧ (∀ j v, vs[j]? = some v → w.cell? ⟨b, o + j, none⟩ = some v) := by
  induction cs generalizing o with
  | nil => exact ⟨[], .nil, by simp⟩
  | cons c cs ih =>
    cases h with
    | cons _ _ _ _ v hG hc h1 h2 t =>
      obtain ⟨vs, k1, k2⟩ := ih t
      refine ⟨v :: vs, .cons _ _ _ _ h1 h2 k1, fun j u hj => ?_⟩
      cases j with
      | zero => simp at hj; subst hj; simpa using hc
      | succ j => simp at hj; have := k2 j u hj; rwa [show o + 1 + j = o + (j + 1) by omega] at this
theorem CR.ofCL {b o cs vs} (h : CL g w cs vs) (hc : ∀ j v, vs[j]? = some v → w.cell? ⟨b, o + j, none⟩ = some v) (hG : ∀ j, j < cs.length → g.G b (o + j)) : CR g w b o cs := by
  induction cs generalizing o vs with
  | nil => exact .nil _ _
  | cons c cs ih =>
    cases h with
    | cons _ _ v vs h1 h2 t =>
      refine .cons _ _ _ _ v (by simpa using hG 0 (by simp)) (by simpa using hc 0 v (by simp)) h1 h2 (ih t (fun j u hj => ?_) (fun j hj => ?_))
      · have := hc (j + 1) u (by simpa using hj); rwa [show o + (j + 1) = o + 1 + j by omega] at this
      · have := hG (j + 1) (by simpa using hj); rwa [show o + (j + 1) = o + 1 + j by omega] at this
theorem CR.drop {b o cs} (h : CR g w b o cs) (k : Nat) (hk : k ≤ cs.length) : CR g w b (o + k) (cs.drop k) := by
  have : cs = cs.take k ++ cs.drop k := (List.take_append_drop k cs).symm
  rw [this] at h
  have := h.append.2
  rwa [List.length_take, Nat.min_eq_left hk] at this
theorem CR.take {b o cs} (h : CR g w b o cs) (k : Nat) : CR g w b o (cs.take k) := by
  have : cs = cs.take k ++ cs.drop k := (List.take_append_drop k cs).symm
  rw [this] at h
  exact h.append.1
end

theorem flat_append (xs ys : List AV) : flat (xs ++ ys) = flat xs ++ flat ys := by simp [flat]
theorem flat_cons (x : AV) (ys : List AV) : flat (x :: ys) = x.cells ++ flat ys := by simp [flat]
theorem flat_length {xs : List AV} {sz : Nat} (h : ∀ x ∈ xs, x.cells.length = sz) : (flat xs).length = xs.length * sz := by
  induction xs with
  | nil => simp [flat]
  | cons x xs ih =>
    rw [flat_cons, List.length_append, ih (fun y hy => h y (by simp [hy])), h x (by simp)]
    simp [Nat.add_mul, Nat.add_comm]

/-- A nil slice out of a constant has no size of elements: the type gives it. -/
def typA (n : Option Nat) : AV → AV
  | .sl fl sz xs => match n with | some n => .sl fl (if xs.isEmpty then n else sz) xs | none => .sl fl sz xs
  | a => a
theorem typA_vr {g w n a v} (h : VR g w a v) : VR g w (typA n a) v := by
  cases n with
  | none => cases a <;> exact h
  | some n =>
    cases h <;> try (constructor <;> assumption)
    case sl fl sz xs b o cap h1 h2 h3 h4 h5 =>
      refine .sl fl _ xs b o cap h1 h2 h3 (fun x hx => ?_) h5
      cases xs with
      | nil => simp at hx
      | cons y ys => simpa using h4 x hx
theorem typA_notOwn {n a} (h : NotOwn a) : NotOwn (typA n a) := by
  intro sz xs e
  cases a <;> simp [typA] at e
  case sl fl sz' xs' => cases n <;> simp at e <;> exact h sz' xs' (by rw [e.1])

def partA (P : Program) (t : TypeId) (cs : List AV) (off : Nat) : Option AV :=
  match aggT P t with
  | some true => match szT P t with
    | some n => if off + n ≤ cs.length then some (.agg ((cs.drop off).take n)) else none
    | none => none
  | some false => match cs[off]? with
    | some a => some (typA (elT P t) (strip a))
    | none => none
  | none => none

section
variable {P : Program} {g : Gh} {w : World}
theorem run_part {t : TypeId} {cs : List AV} {vs : List Value} {off : Nat} {a : AV} (h : CL g w cs vs) (hp : partA P t cs off = some a) :
    ∃ v, (part t ⟨vs⟩ off).run P w = .ok v w ∧ VR g w a v ∧ NotOwn a := by
  unfold partA at hp
  split at hp
  · rename_i ht
    split at hp
    · rename_i n hn
      split at hp
      · rename_i hlt
        simp at hp; subst hp
        refine ⟨.agg ⟨(vs.drop off).take n⟩, ?_, .agg _ _ ((h.drop off).take n), fun _ _ h => by cases h⟩
        simp [part, run_isAgg' ht, run_sizeOf' hn]
      · cases hp
    · cases hp
  · rename_i ht
    split at hp
    · rename_i c hc
      simp at hp; subst hp
      obtain ⟨v, hv, hr, _⟩ := h.get hc
      exact ⟨v, by simp [part, run_isAgg' ht, hv], typA_vr hr.strip, typA_notOwn (strip_notOwn _)⟩
    · cases hp
  · cases hp
theorem run_loadVar' {t : TypeId} {cs : List AV} {vs : List Value} {b o k : Nat} {a : AV} (h : CL g w cs vs) (hc : ∀ j v, vs[j]? = some v → w.cell? ⟨b, o + j, none⟩ = some v)
    (hp : partA P t cs k = some a) : ∃ v, (loadVar t ⟨b, o + k, none⟩).run P w = .ok v w ∧ VR g w a v ∧ NotOwn a := by
  unfold partA at hp
  split at hp
  · rename_i ht
    split at hp
    · rename_i n hn
      split at hp
      · rename_i hlt
        simp at hp; subst hp
        refine ⟨.agg ⟨(vs.drop k).take n⟩, ?_, .agg _ _ ((h.drop k).take n), fun _ _ h => by cases h⟩
        have hl := h.length
        have hlen : ((vs.drop k).take n).length = n := by simp; omega
        have hr := run_loadCells_list (P := P) w ⟨b, o + k, none⟩ ((vs.drop k).take n) (fun j v hj => by
          rw [add_mk]
          have : vs[k + j]? = some v := by
            rw [List.getElem?_take] at hj
            split at hj
            · simpa using hj
            · cases hj
          have := hc (k + j) v this
          rwa [← Nat.add_assoc] at this)
        rw [hlen] at hr
        simp [loadVar, run_isAgg' ht, run_sizeOf' hn, hr]
      · cases hp
    · cases hp
  · rename_i ht
    split at hp
    · rename_i c hc'
      simp at hp; subst hp
      obtain ⟨v, hv, hr, _⟩ := h.get hc'
      exact ⟨v, by simp [loadVar, run_isAgg' ht, hc k v hv], typA_vr hr.strip, typA_notOwn (strip_notOwn _)⟩
    · cases hp
  · cases hp
end
end Go.Proofs.YtnibelnjflhkgaaDoor.Ab
