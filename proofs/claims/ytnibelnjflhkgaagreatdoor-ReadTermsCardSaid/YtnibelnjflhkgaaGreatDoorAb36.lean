/- Maps with keys that are texts or numbers, made rows: the machine does that. No condition. -/
import Derived.Test.YtnibelnjflhkgaaGreatDoorAb35
namespace Go.Proofs.YtnibelnjflhkgaaGreatDoor.Ab
set_option linter.unusedVariables false
set_option linter.unusedSimpArgs false
open Go.RowKit Go.MapKept

def mapT (P : Program) (t : TypeId) : Option (TypeId × TypeId) := match P.underlying t with | some (.map k e) => some (k, e) | _ => none
theorem mapT_und {P : Program} {t k e : TypeId} (h : mapT P t = some (k, e)) : P.underlying t = some (.map k e) := by
  unfold mapT at h; split at h
  · simp at h; obtain ⟨rfl, rfl⟩ := h; assumption
  · cases h
/-- A key type: texts, or numbers. -/
def keyT (P : Program) (t : TypeId) : Option (Option IntKind) := match P.underlying t with | some .string => some none | some (.int k) => some (some k) | _ => none
def isD : Option IntKind → TypeDesc → Prop | none, .string => True | some k, .int k' => k' = k | _, _ => False
theorem keyT_und {P : Program} {t : TypeId} {st : Option IntKind} (h : keyT P t = some st) : ∃ d, P.underlying t = some d ∧ isD st d := by
  unfold keyT at h; split at h
  · rename_i e; cases h; exact ⟨_, e, trivial⟩
  · rename_i k e; cases h; exact ⟨_, e, rfl⟩
  · cases h
/-- The zero value of a type of one cell. -/
def zero1 (P : Program) (e : TypeId) : Option AV := match (P.info? e).bind (·.zero) with | some (.agg _) => none | some z => some (strip (constA1 ((elT P e).getD 0) z)) | none => none
theorem run_zero1 {P : Program} {e : TypeId} {a : AV} {w : World} {g : Gh} (hz : zero1 P e = some a) : ∃ z, (zeroValue e).run P w = .ok z w ∧ VR g w a z ∧ NotOwn a := by
  unfold zero1 at hz
  split at hz
  · cases hz
  · rename_i z hne hq
    simp only [Option.some.injEq] at hz
    subst hz
    cases hi : P.info? e with
    | none => simp [hi] at hq
    | some i =>
      simp [hi] at hq
      exact ⟨z, by simp [zeroValue, typeInfo, hi, hq, Result.andThen], (constA1_vr _ _).strip, strip_notOwn _⟩
  · cases hz
def fkT (P : Program) (t : TypeId) : Option FK := match P.underlying t with | some (.int k) => some (.i k) | some .string => some .s | some .bool => some .b | _ => none
def fksOf (P : Program) : Nat → List Field → Option (List FK)
  | _, [] => some []
  | n, f :: fs => match fkT P f.type, fksOf P (n + 1) fs with
    | some k, some ks => if f.name != "_" && Nat.beq f.offset n then some (k :: ks) else none
    | _, _ => none
/-- A struct type whose fields are numbers, texts and truths. -/
def eqKs (P : Program) (t : TypeId) : Option (List FK) :=
  match P.underlying t with
  | some (.struct fs) => if P.stoodInHeld t then none else if P.eqGuardType P.depth t then none else fksOf P 0 fs.toList
  | _ => none
def xkOf (P : Program) (op : Op) : Option (XK × List Operand) :=
  match op with
  | .convert a b x => if strT P a && bytT P b then some (.sb, [x]) else if bytT P a && strT P b then some (.bs, [x]) else none
  | .makeMap t none => match mapT P t with | some _ => some (.mkm, []) | none => none
  | .mapUpdate t m k v => match mapT P t with
    | some (kt, _) => match keyT P kt with | some st => some (.mup st, [m, k, v]) | none => none
    | none => none
  | .lookup t m k ok => match mapT P t with
    | some (kt, e) => match keyT P kt, zero1 P e with
      | some st, some a => some (.lkp st a ok, [m, k])
      | _, _ => none
    | none => none
  | .makeSlice t l c => match rowT P t with
    | some (e, n, by_) => match zeroA P e with | some zs => if zs.length = n ∧ 0 < n then some (.mks zs by_, [l, c]) else none | none => none
    | none => none
  | .binOp .eql t x y _ => match eqKs P t with | some ks => some (.eqs false ks, [x, y]) | none => none
  | .binOp .neq t x y _ => match eqKs P t with | some ks => some (.eqs true ks, [x, y]) | none => none
  | .call ⟨.builtin .cap, args, ts⟩ => match args.toList, ts.toList with
    | [x], [t] => match sliceT P t with | some _ => some (.cap, [x]) | none => none
    | _, _ => none
  | _ => none

section
variable {P : Program} {g : Gh} {w : World}
theorem key_val {st : Option IntKind} {k : AV} {v : Value} {d : TypeDesc} (hk : isKeyA st k = true) (hd : isD st d) (h : VR g w k v) : IsKey d v := by
  cases st <;> cases k <;> simp [isKeyA] at hk <;> cases d <;> simp [isD] at hd <;> cases h <;> simp [IsKey] <;> simp_all
theorem keyEq_val {a b : AV} {u v : Value} {r : Bool} {st : Option IntKind} {d : TypeDesc} (hk : isKeyA st a = true) (hd : isD st d) (h : keyEq a b = some r) (ha : VR g w a u) (hb : VR g w b v) : Instr.sameNow d u v = some r ∧ (r = true → v = u) := by
  cases st <;> cases a <;> simp [isKeyA] at hk <;> cases d <;> simp [isD] at hd <;> cases b <;> simp only [keyEq, reduceCtorEq, Option.some.injEq] at h <;> cases ha <;> cases hb
  · subst h
    rename_i l m
    have : ((⟨⟨l⟩⟩ : ByteArray) == ⟨⟨m⟩⟩) = (l == m) := by
      rw [Bool.eq_iff_iff, bytes_beq]
      simp
    simp [Instr.sameNow, this]
    exact fun e : l = m => e.symm
  · split at h
    · rename_i e
      subst e
      simp only [Option.some.injEq] at h
      subst h
      simp [Instr.sameNow]
      exact fun e => e.symm
    · cases h
theorem find_spec {st : Option IntKind} {k : AV} {kv : Value} {d : TypeDesc} (hk : isKeyA st k = true) (hd : isD st d) (hv : VR g w k kv) : ∀ {es : List (AV × AV)} {l : List MapEntry} (i : Nat), ML g w es l →
    (mfind k es i = some none → Instr.findNow d kv l i = some none) ∧
    (∀ j v, mfind k es i = some (some (j, v)) → ∃ e, Instr.findNow d kv l i = some (some (j, e.val)) ∧ i ≤ j ∧ l[j - i]? = some e ∧ VR g w v e.val ∧ e.key = kv ∧ (es[j - i]?).isSome)
  | _, _, i, .nil => ⟨fun _ => rfl, fun j v h => by simp [mfind] at h⟩
  | _, _, i, .cons k' v' es e l h1 h2 t => by
    refine ⟨fun h => ?_, fun j v h => ?_⟩
    · simp only [mfind] at h
      split at h
      · cases h
      · rename_i hq
        obtain ⟨q1, _⟩ := keyEq_val hk hd hq hv h1
        simp only [Instr.findNow, q1]
        exact (find_spec hk hd hv (i + 1) t).1 h
      · cases h
    · simp only [mfind] at h
      split at h
      · rename_i hq
        obtain ⟨q1, q2⟩ := keyEq_val hk hd hq hv h1
        simp only [Option.some.injEq, Prod.mk.injEq] at h
        obtain ⟨rfl, rfl⟩ := h
        exact ⟨e, by simp only [Instr.findNow, q1], Nat.le_refl _, by simp, h2, q2 rfl, by simp⟩
      · rename_i hq
        obtain ⟨q1, _⟩ := keyEq_val hk hd hq hv h1
        obtain ⟨e', k1, k2, k3, k4, k5, k6⟩ := (find_spec hk hd hv (i + 1) t).2 j v h
        have hj : j - i = (j - (i + 1)) + 1 := by omega
        exact ⟨e', by simp only [Instr.findNow, q1]; exact k1, by omega, by rw [hj]; simpa using k3, k4, k5, by rw [hj]; simpa using k6⟩
      · cases h
theorem ML.append {es es' l l'} (h : ML g w es l) (k : ML g w es' l') : ML g w (es ++ es') (l ++ l') := by
  induction h with
  | nil => exact k
  | cons k v es e l hk hv _ ih => exact .cons _ _ _ _ _ hk hv ih
theorem ML.setAt {es l} (h : ML g w es l) : ∀ (i : Nat) (k v : AV) (e : MapEntry), VR g w k e.key → VR g w v e.val → i < l.length → ML g w (es.set i (k, v)) (l.set i e) := by
  induction h with
  | nil => intro i k v e _ _ hi; simp at hi
  | cons k' v' es e' l hk hv t ih =>
    intro i k v e h1 h2 hi
    cases i with
    | zero => exact .cons _ _ _ _ _ h1 h2 t
    | succ i => exact .cons _ _ _ _ _ hk hv (ih i k v e h1 h2 (by simpa using hi))
theorem run_mup_new {mty kt et : TypeId} {d : TypeDesc} {r ck : Nat} {m : List MapEntry} {key value : Value} (hm : P.underlying mty = some (.map kt et)) (hd : P.underlying kt = some d) (hb : w.heap[r]? = some (.map ⟨m⟩ ck)) (hk : IsKey d key)
    (hf : Instr.findNow d key m 0 = some none) : (Instr.mapUpdate mty (.map (some r)) key value).run P w = .ok () { w with heap := w.heap.setIfInBounds r (.map ⟨m ++ [⟨key, value, ck⟩]⟩ (ck + 1)) } := by
  simp [Instr.mapUpdate, run_underlying hm, _root_.Go.MapKept.run_getObj_map hb, run_checkKey hd hk, run_findKey hd hf, run_setObj_map _ hb, Result.andThen]
theorem run_mup_old {mty kt et : TypeId} {d : TypeDesc} {r ck j : Nat} {m : List MapEntry} {key value u : Value} {e : MapEntry} (hm : P.underlying mty = some (.map kt et)) (hd : P.underlying kt = some d) (hb : w.heap[r]? = some (.map ⟨m⟩ ck)) (hk : IsKey d key)
    (hf : Instr.findNow d key m 0 = some (some (j, u))) (hj : m[j]? = some e) (he : e.key = key) : (Instr.mapUpdate mty (.map (some r)) key value).run P w = .ok () { w with heap := w.heap.setIfInBounds r (.map ⟨m.set j ⟨key, value, e.born⟩⟩ ck) } := by
  have hlt : j < m.length := (List.getElem?_eq_some_iff.1 hj).1
  have h1 : (((⟨m⟩ : Array MapEntry)[j]?).map (·.key)).getD key = key := by simp [hj, he]
  have h2 : (⟨m⟩ : Array MapEntry).modify j (fun e => { e with key := key, val := value }) = ⟨m.set j ⟨key, value, e.born⟩⟩ := by
    apply Array.ext'
    rw [Array.toList_modify]
    simp only
    apply List.ext_getElem?
    intro i
    rw [List.getElem?_modify, List.getElem?_set]
    by_cases hij : j = i
    · subst hij
      have : m[j] = e := by have := List.getElem?_eq_some_iff.1 hj; exact this.2
      simp [hlt, this]
    · simp [hij]
  simp [Instr.mapUpdate, run_underlying hm, _root_.Go.MapKept.run_getObj_map hb, run_checkKey hd hk, run_findKey hd hf, Result.andThen]
  simp only [List.getElem?_toArray] at h1
  rw [h1, run_keyThatStays hk]
  simp only [run_setObj_map _ hb]
  have h3 : (m.modify j fun e => { e with key := key, val := value }).toArray = (⟨m.set j ⟨key, value, e.born⟩⟩ : Array MapEntry) := by
    rw [← h2]; apply Array.ext'; simp
  rw [h3]
end
end Go.Proofs.YtnibelnjflhkgaaGreatDoor.Ab
