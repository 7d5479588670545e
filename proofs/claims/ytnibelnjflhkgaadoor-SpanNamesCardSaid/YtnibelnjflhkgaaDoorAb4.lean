/- Parts, places, lengths, pieces: what operations on them give. No condition. -/
import Derived.Test.YtnibelnjflhkgaaDoorAb3
namespace Go.Proofs.YtnibelnjflhkgaaDoor.Ab
set_option linter.unusedVariables false
set_option linter.unusedSimpArgs false
open Go.RowKit

def fieldA (P : Program) (t : TypeId) (x : AV) (f : Nat) : Option AV :=
  match x with
  | .agg cs => match fldT P t f with | some (o, ft) => partA P ft cs o | none => none
  | _ => none
def indexA (P : Program) (t : TypeId) (x i : AV) : Option AV :=
  match x, i with
  | .str l, .int _ n => if strT P t && decide (0 ≤ n) then (match l[n.toNat]? with | some c => some (.int .u8 c.toNat) | none => none) else none
  | .agg cs, .int _ n => match arrT P t with
    | some (len, e) => match szT P e with | some sz => if 0 ≤ n ∧ n < len then partA P e cs (n.toNat * sz) else none | none => none
    | none => none
  | _, _ => none
def indexAddrA (P : Program) (t : TypeId) (x i : AV) : Option AV :=
  match x, i with
  | .sl _ sz xs, .int _ n => match elT P t with | some m => if m = sz ∧ 0 ≤ n then (match xs[n.toNat]? with | some a => some (.eptr a.cells) | none => none) else none | none => none
  | .ptr l o, .int _ n => match arrT P t with | some (len, e) => (match szT P e with | some sz => if 0 ≤ n ∧ n < len then some (.ptr l (o + n.toNat * sz)) else none | none => none) | none => none
  | .hs l o len sz, .int _ n => match elT P t with | some m => if m = sz ∧ 0 ≤ n ∧ n < len then some (.ptr l (o + n.toNat * sz)) else none | none => none
  | _, _ => none
def fieldAddrA (P : Program) (t : TypeId) (x : AV) (f : Nat) : Option AV :=
  match fldT P t f with
  | some (off, ft) => match szT P ft with
    | some (_ + 1) => (match x with
      | .ptr l o => some (.ptr l (o + off))
      | .eptr cs => if off ≤ cs.length then some (.eptr (cs.drop off)) else none
      | _ => none)
    | _ => none
  | none => none
def extractA (x : AV) (i : Nat) : Option AV :=
  match x with
  | .tup vs => match vs[i]? with | some a => some (strip a) | none => none
  | _ => none
def lenA (P : Program) (t : TypeId) (x : AV) : Option AV :=
  match x with
  | .str l => if strT P t then some (.int .i64 l.length) else none
  | .sl _ _ xs => match sliceT P t with | some _ => some (.int .i64 xs.length) | none => none
  | .hs _ _ len _ => match sliceT P t with | some _ => some (.int .i64 len) | none => none
  | _ => none

section
variable {P : Program} {g : Gh} {w : World}
theorem no1 {a : AV} (h : ∀ sz xs, a ≠ .sl .own sz xs) : NotOwn a := h
theorem elT_und {t : TypeId} {n : Nat} (h : elT P t = some n) : ∃ e, P.underlying t = some (.slice e) ∧ szT P e = some n := by
  unfold elT at h
  cases hs : sliceT P t with
  | none => simp [hs] at h
  | some e => simp [hs] at h; exact ⟨e, sliceT_und hs, h⟩

theorem run_fieldA {t : TypeId} {a r : AV} {u : Value} {f : Nat} (hx : VR g w a u) (h : fieldA P t a f = some r) : ∃ z, (Instr.field t u f).run P w = .ok z w ∧ VR g w r z ∧ NotOwn r := by
  cases hx <;> simp only [fieldA] at h <;> try (cases h; done)
  case agg cs vs hc =>
    split at h
    · rename_i o ft hf
      obtain ⟨fs, fd, hu, hfd, rfl, rfl⟩ := fldT_und hf
      obtain ⟨z, h1, h2, h3⟩ := run_part (P := P) hc h
      exact ⟨z, by simp [Instr.field, run_underlying hu, hfd, asAgg, h1], h2, h3⟩
    · cases h

theorem getElem?_mk (l : List UInt8) (n : Nat) : (⟨⟨l⟩⟩ : ByteArray)[n]? = l[n]? := by
  by_cases h : n < l.length
  · rw [ByteArray.getElem?_lt' _ _ (by simpa [ByteArray.size] using h), List.getElem?_eq_getElem h]; rfl
  · rw [ByteArray.getElem?_ge' _ _ (by simpa [ByteArray.size] using h), List.getElem?_eq_none (by omega)]

theorem run_indexA {t : TypeId} {a i r : AV} {u v : Value} (hx : VR g w a u) (hi : VR g w i v) (h : indexA P t a i = some r) : ∃ z, (Instr.index t u v).run P w = .ok z w ∧ VR g w r z ∧ NotOwn r := by
  cases hx <;> cases hi <;> simp only [indexA] at h <;> try (cases h; done)
  case str.int l k n =>
    split at h
    · rename_i hc
      simp at hc
      split at h
      · rename_i c hl
        simp at h; subst h
        exact ⟨.int .u8 c.toNat, by simp [Instr.index, asIntOf, run_underlying (strT_und hc.1), hc.2, getElem?_mk, hl], .int _ _, fun _ _ e => by cases e⟩
      · cases h
    · cases h
  case agg.int cs vs hc k n =>
    split at h
    · rename_i len e ha
      split at h
      · rename_i sz hs
        split at h
        · rename_i hb
          obtain ⟨z, h1, h2, h3⟩ := run_part (P := P) hc h
          exact ⟨z, by simp [Instr.index, asIntOf, run_underlying (arrT_und ha), hb, run_sizeOf' hs, h1], h2, h3⟩
        · cases h
      · cases h
    · cases h

theorem flat_get {xs : List AV} {sz i : Nat} {a : AV} (hsz : ∀ x ∈ xs, x.cells.length = sz) (hi : xs[i]? = some a) {b o : Nat} (h : CR g w b o (flat xs)) : CR g w b (o + i * sz) a.cells := by
  have hlt : i < xs.length := (List.getElem?_eq_some_iff.1 hi).1
  have he : xs = xs.take i ++ a :: xs.drop (i + 1) := by
    have := List.take_append_drop i xs
    rw [List.drop_eq_getElem_cons hlt, (List.getElem?_eq_some_iff.1 hi).2] at this
    exact this.symm
  rw [he, flat_append, flat_cons] at h
  have h2 := h.append.2.append.1
  rwa [flat_length (sz := sz) (fun x hx => hsz x (List.mem_of_mem_take hx)), List.length_take, Nat.min_eq_left (Nat.le_of_lt hlt)] at h2

theorem run_indexAddrA {t : TypeId} {a i r : AV} {u v : Value} (hx : VR g w a u) (hi : VR g w i v) (h : indexAddrA P t a i = some r) : ∃ z, (Instr.indexAt t u v).run P w = .ok z w ∧ VR g w r z ∧ NotOwn r := by
  cases hx <;> cases hi <;> simp only [indexAddrA] at h <;> try (cases h; done)
  case sl0.int fl sz k n =>
    split at h
    · split at h
      · simp at h
      · cases h
    · cases h
  case sle.int fl sz a cap h1 h2 k n =>
    split at h
    · split at h
      · simp at h
      · cases h
    · cases h
  case sl.int fl sz xs b o cap h1 h2 h3 h4 h5 k n =>
    split at h
    · rename_i m hm
      split at h
      · rename_i hc
        obtain ⟨rfl, hn⟩ := hc
        split at h
        · rename_i c hc
          simp at h; subst h
          obtain ⟨e, hu, hs⟩ := elT_und hm
          have hlt : n.toNat < xs.length := (List.getElem?_eq_some_iff.1 hc).1
          have hlt' : n < (xs.length : Int) := by omega
          exact ⟨.pointer (some ⟨b, o + n.toNat * m, none⟩), by simp [Instr.indexAt, asIntOf, run_underlying hu, hn, hlt', run_sizeOf' hs, add_mk], .eptr _ _ _ (flat_get h4 hc h5), fun _ _ e => by cases e⟩
        · cases h
      · cases h
    · cases h
  case ptr.int l o hl k n =>
    split at h
    · rename_i len e ha
      split at h
      · rename_i sz hs
        split at h
        · rename_i hb
          simp at h; subst h
          exact ⟨.pointer (some ⟨g.ρ l, o + n.toNat * sz, none⟩), by simp [Instr.indexAt, asIntOf, Instr.sureAddr, run_underlying (arrT_und ha), hb, run_sizeOf' hs, add_mk], .ptr _ _ hl, fun _ _ e => by cases e⟩
        · cases h
      · cases h
    · cases h
  case hs.int l o len sz cap hl h1 h2 k n =>
    split at h
    · rename_i m hm
      split at h
      · rename_i hc
        obtain ⟨rfl, hn⟩ := hc
        simp at h; subst h
        obtain ⟨e, hu, hs⟩ := elT_und hm
        exact ⟨.pointer (some ⟨g.ρ l, o + n.toNat * m, none⟩), by simp [Instr.indexAt, asIntOf, run_underlying hu, hn, run_sizeOf' hs, add_mk], .ptr _ _ hl, fun _ _ e => by cases e⟩
      · cases h
    · cases h

theorem run_fieldAddrA {t : TypeId} {a r : AV} {u : Value} {f : Nat} (hx : VR g w a u) (h : fieldAddrA P t a f = some r) : ∃ z, (Instr.fieldAt t u f).run P w = .ok z w ∧ VR g w r z ∧ NotOwn r := by
  unfold fieldAddrA at h
  split at h
  · rename_i off ft hf
    obtain ⟨fs, fd, hu, hfd, rfl, rfl⟩ := fldT_und hf
    split at h
    · rename_i m hs
      have hp : ∀ b o : Nat, (fieldPlace ⟨b, o, none⟩ fd).run P w = .ok ⟨b, o + fd.offset, none⟩ w := fun b o => by simp [fieldPlace, run_sizeOf' hs, add_mk]
      cases hx <;> simp only at h <;> try (cases h; done)
      case ptr l o hl =>
        simp at h; subst h
        exact ⟨.pointer (some ⟨g.ρ l, o + fd.offset, none⟩), by simp [Instr.fieldAt, Instr.sureAddr, run_underlying hu, hfd, hp], .ptr _ _ hl, fun _ _ e => by cases e⟩
      case eptr cs b o hc =>
        split at h
        · rename_i hle
          simp at h; subst h
          exact ⟨.pointer (some ⟨b, o + fd.offset, none⟩), by simp [Instr.fieldAt, Instr.sureAddr, run_underlying hu, hfd, hp], .eptr _ _ _ (hc.drop _ hle), fun _ _ e => by cases e⟩
        · cases h
    · cases h
  · cases h

theorem run_extractA {a r : AV} {u : Value} {i : Nat} (hx : VR g w a u) (h : extractA a i = some r) : ∃ z, (Instr.extract u i).run P w = .ok z w ∧ VR g w r z ∧ NotOwn r := by
  cases hx <;> simp only [extractA] at h <;> try (cases h; done)
  case tup cs vs hc =>
    split at h
    · rename_i c hi
      simp at h; subst h
      obtain ⟨v, h1, h2⟩ := hc.get hi
      exact ⟨v, by simp [Instr.extract, h1], h2.strip, strip_notOwn _⟩
    · cases h

theorem sliced_e {fl : Fl} (a : Addr) (cap sz : Nat) (h : cap ≤ maxLen) (hf : fl = .sh ∨ (fl = .full ∧ cap = 0)) : VR g w (.sl fl sz []) (sliced (some a) 0 0 cap sz) := by
  unfold sliced
  have e : a.add 0 = a := rfl
  simp [e]
  exact .sle _ _ _ _ h hf
theorem run_lenA {t ty : TypeId} {a r : AV} {u : Value} (hx : VR g w a u) (h : lenA P t a = some r) : ∃ z, (Builtin.len_ #[t] ty #[u]).run P w = .ok z w ∧ VR g w r z ∧ NotOwn r := by
  cases hx <;> simp only [lenA] at h <;> try (cases h; done)
  case str l =>
    split at h
    · rename_i ht; simp at h; subst h
      have hz : (⟨⟨l⟩⟩ : ByteArray).size = l.length := rfl
      exact ⟨.int .i64 l.length, by simp [Builtin.len_, run_underlying (strT_und ht), goInt, hz], .int _ _, fun _ _ e => by cases e⟩
    · cases h
  case sl0 fl sz =>
    split at h
    · rename_i ht; simp at h; subst h
      exact ⟨.int .i64 0, by simp [Builtin.len_, run_underlying (sliceT_und ht), goInt], .int _ _, fun _ _ e => by cases e⟩
    · cases h
  case sle fl sz a cap h1 h2 =>
    split at h
    · rename_i ht; simp at h; subst h
      exact ⟨.int .i64 0, by simp [Builtin.len_, run_underlying (sliceT_und ht), goInt], .int _ _, fun _ _ e => by cases e⟩
    · cases h
  case sl fl sz xs b o cap h1 h2 h3 h4 h5 =>
    split at h
    · rename_i ht; simp at h; subst h
      exact ⟨.int .i64 xs.length, by simp [Builtin.len_, run_underlying (sliceT_und ht), goInt], .int _ _, fun _ _ e => by cases e⟩
    · cases h
  case hs l o len sz cap hl h1 h2 =>
    split at h
    · rename_i ht; simp at h; subst h
      exact ⟨.int .i64 len, by simp [Builtin.len_, run_underlying (sliceT_und ht), goInt], .int _ _, fun _ _ e => by cases e⟩
    · cases h

/-- A piece of a text or of a list. -/
def natOf : AV → Option Nat
  | .int _ n => if 0 ≤ n then some n.toNat else none
  | _ => none
def bndA (d : Nat) : Option AV → Option Nat
  | none => some d
  | some a => natOf a
def pieceA (P : Program) (t : TypeId) (x : AV) (lo hi mx : Option AV) : Option AV :=
  match bndA 0 lo with
  | none => none
  | some l =>
  match x with
  | .str s => match mx with
    | some _ => none
    | none => match bndA s.length hi with
      | some h => if strT P t = true ∧ l ≤ h ∧ h ≤ s.length then some (.str ((s.drop l).take (h - l))) else none
      | none => none
  | .sl fl sz xs => match bndA xs.length hi with
    | some h => match mx with
      | none => if elT P t = some sz ∧ l ≤ h ∧ h ≤ xs.length then some (.sl .sh sz ((xs.drop l).take (h - l))) else none
      | some a => match natOf a, hi with
        | some m, some _ => if elT P t = some sz ∧ l ≤ h ∧ h ≤ m ∧ m ≤ xs.length then some (.sl (if m = h then .full else .sh) sz ((xs.drop l).take (h - l))) else none
        | _, _ => none
    | none => none
  | _ => none

theorem natOf_spec {a : AV} {v : Value} {n : Nat} (h : VR g w a v) (hn : natOf a = some n) : ∃ k m, v = .int k m ∧ 0 ≤ m ∧ m.toNat = n := by
  cases h <;> simp only [natOf] at hn <;> try (cases hn; done)
  case int k m =>
    split at hn
    · rename_i h0; simp at hn; exact ⟨k, m, rfl, h0, hn⟩
    · cases hn
theorem run_bound {a : AV} {v : Value} {n y : Nat} {code : BoundsCode} (h : VR g w a v) (hn : natOf a = some n) (hy : n ≤ y) : (Instr.sliceBound v y code).run P w = .ok n w := by
  obtain ⟨k, m, rfl, h0, rfl⟩ := natOf_spec h hn
  exact run_sliceBound (P := P) w k m y code h0 (by omega)

inductive OR (g : Gh) (w : World) : Option AV → Option Value → Prop
  | none : OR g w none none
  | some (a v) (h : VR g w a v) : OR g w (some a) (some v)

theorem run_bounds {s : Bool} {len cap l h : Nat} {lo hi : Option AV} {vlo vhi : Option Value} (hlo : OR g w lo vlo) (hhi : OR g w hi vhi)
    (h1 : bndA 0 lo = some l) (h2 : bndA len hi = some h) (hl : l ≤ h) (hc : h ≤ len) (hcap : len ≤ cap) :
    (Instr.sliceBounds s len cap vlo vhi none).run P w = .ok (l, h, cap) w := by
  cases hlo <;> cases hhi <;> simp [bndA] at h1 h2
  · subst h1; subst h2; simp [Instr.sliceBounds]
  · subst h1; rename_i a v hv
    have := fun c => run_bound (P := P) (code := c) hv h2 (Nat.le_trans hc hcap)
    simp [Instr.sliceBounds, this]
  · subst h2; rename_i a v hv
    have := fun c => run_bound (P := P) (code := c) hv h1 hl
    simp [Instr.sliceBounds, this]
  · rename_i a v hv a' v' hv'
    have k1 := fun c => run_bound (P := P) (code := c) hv' h2 (Nat.le_trans hc hcap)
    have k2 := fun c => run_bound (P := P) (code := c) hv h1 hl
    simp [Instr.sliceBounds, k1, k2]
theorem run_bounds3 {len cap l h m : Nat} {lo : Option AV} {hi mx : AV} {vlo : Option Value} {vhi vmx : Value} (hlo : OR g w lo vlo) (hhi : VR g w hi vhi) (hmx : VR g w mx vmx)
    (h1 : bndA 0 lo = some l) (h2 : natOf hi = some h) (h3 : natOf mx = some m) (hl : l ≤ h) (hc : h ≤ m) (hcap : m ≤ cap) :
    (Instr.sliceBounds true len cap vlo (some vhi) (some vmx)).run P w = .ok (l, h, m) w := by
  have k3 := fun c => run_bound (P := P) (code := c) hmx h3 hcap
  have k1 := fun c => run_bound (P := P) (code := c) hhi h2 hc
  cases hlo <;> simp [bndA] at h1
  · subst h1; simp [Instr.sliceBounds, k3, k1]
  · rename_i a v hv
    have k2 := fun c => run_bound (P := P) (code := c) hv h1 hl
    simp [Instr.sliceBounds, k3, k1, k2]

theorem CR_piece {xs : List AV} {sz l h b o : Nat} (hsz : ∀ x ∈ xs, x.cells.length = sz) (hc : CR g w b o (flat xs)) (hl : l ≤ h) (hh : h ≤ xs.length) : CR g w b (o + l * sz) (flat ((xs.drop l).take (h - l))) := by
  have e1 : xs = xs.take l ++ ((xs.drop l).take (h - l) ++ (xs.drop l).drop (h - l)) := by rw [List.take_append_drop, List.take_append_drop]
  rw [e1, flat_append, flat_append] at hc
  have h2 := hc.append.2.append.1
  rwa [flat_length (sz := sz) (fun x hx => hsz x (List.mem_of_mem_take hx)), List.length_take, Nat.min_eq_left (by omega)] at h2

theorem VR_piece {fl fl' : Fl} {sz l h m b o : Nat} {xs : List AV} (hsz : ∀ x ∈ xs, x.cells.length = sz) (hc : CR g w b o (flat xs)) (hl : l ≤ h) (hh : h ≤ xs.length) (hm : h ≤ m) (hmax : m ≤ maxLen) (hf : fl' = .full → m = h) :
    VR g w (.sl fl' sz ((xs.drop l).take (h - l))) (sliced (some ⟨b, o, none⟩) l h m sz) := by
  have hlen : ((xs.drop l).take (h - l)).length = h - l := by simp; omega
  have hsz' : ∀ x ∈ (xs.drop l).take (h - l), x.cells.length = sz := fun x hx => hsz x (List.mem_of_mem_drop (List.mem_of_mem_take hx))
  by_cases e : m = l
  · subst e
    have hz : h - m = 0 := by omega
    have hnil : (xs.drop m).take (h - m) = [] := by rw [hz]; simp
    have hv : sliced (some ⟨b, o, none⟩) m h m sz = .slice (some ⟨b, o, none⟩) ([] : List AV).length 0 := by simp [sliced, hz]
    rw [hnil, hv]
    exact .sl _ _ _ _ _ _ (by simp) (by simp) (by simp) (by simp) (.nil _ _)
  · have hv : sliced (some ⟨b, o, none⟩) l h m sz = .slice (some ⟨b, o + l * sz, none⟩) ((xs.drop l).take (h - l)).length (m - l) := by
      rw [hlen]; simp [sliced, e, add_mk]
    rw [hv]
    exact .sl _ _ _ _ _ _ (by rw [hlen]; omega) (by omega) (fun hfl => by rw [hlen]; have := hf hfl; omega) hsz' (CR_piece hsz hc hl hh)

theorem run_pieceA {t : TypeId} {a r : AV} {u : Value} {lo hi mx : Option AV} {vlo vhi vmx : Option Value} (hx : VR g w a u) (hlo : OR g w lo vlo) (hhi : OR g w hi vhi) (hmx : OR g w mx vmx)
    (h : pieceA P t a lo hi mx = some r) : ∃ z, (Instr.sliceAt t u vlo vhi vmx).run P w = .ok z w ∧ VR g w r z ∧ NotOwn r := by
  unfold pieceA at h
  split at h
  · cases h
  rename_i l h1
  cases hx <;> simp only at h <;> try (cases h; done)
  case str s =>
    split at h
    · cases h
    · rename_i e
      cases hmx
      split at h
      · rename_i hh h2
        split at h
        · rename_i hc
          obtain ⟨ht, hl, hle⟩ := hc
          simp at h; subst h
          have hb := run_bounds (P := P) (s := false) (cap := s.length) hlo hhi h1 h2 hl hle (Nat.le_refl _)
          have hz : (⟨⟨s⟩⟩ : ByteArray).size = s.length := rfl
          refine ⟨.string ⟨⟨(s.drop l).take (hh - l)⟩⟩, ?_, .str _, fun _ _ e => by cases e⟩
          rw [run_sliceAt_string w t _ _ _ _ (strT_und ht)]
          simp [Instr.slice, run_underlying (strT_und ht), hz, hb, ByteArray.extract_mk]
        · cases h
      · cases h
  case sl0 fl sz =>
    split at h
    · rename_i hh h2
      split at h
      · rename_i e
        cases hmx
        split at h
        · rename_i hc
          obtain ⟨ht, hl, hle⟩ := hc
          simp at h hle; subst h; subst hle
          obtain rfl : l = 0 := by omega
          obtain ⟨e, hu, hs⟩ := elT_und ht
          have hp : P.elem t = e := by simp [Program.elem, hu]
          have hb := run_bounds (P := P) (s := true) (len := 0) (cap := 0) hlo hhi h1 h2 (Nat.le_refl _) (Nat.le_refl _) (Nat.le_refl _)
          refine ⟨.slice none 0 0, ?_, .sl0 _ _, fun _ _ e => by cases e⟩
          rw [run_sliceAt_slice w t _ _ _ _ (by rw [hp]; exact hu), run_slice_any w t none 0 0 (by rw [hp]; exact hu)]
          simp [hb, hp, run_sizeOf' hs, sliced]
        · cases h
      · rename_i a e
        cases hmx; rename_i vm hvm
        split at h
        · rename_i m a' h3 
          cases hhi; rename_i vh hvh
          split at h
          · rename_i hc
            obtain ⟨ht, hl, hle, hm⟩ := hc
            simp at h hm; subst hm
            obtain rfl : hh = 0 := by omega
            obtain rfl : l = 0 := by omega
            simp at h; subst h
            obtain ⟨e, hu, hs⟩ := elT_und ht
            have hp : P.elem t = e := by simp [Program.elem, hu]
            have hb := run_bounds3 (P := P) (len := 0) (cap := 0) hlo hvh hvm h1 h2 h3 (Nat.le_refl _) (Nat.le_refl _) (Nat.le_refl _)
            refine ⟨.slice none 0 0, ?_, .sl0 _ _, fun _ _ e => by cases e⟩
            rw [run_sliceAt_slice w t _ _ _ _ (by rw [hp]; exact hu), run_slice_any w t none 0 0 (by rw [hp]; exact hu)]
            simp [hb, hp, run_sizeOf' hs, sliced]
          · cases h
        · cases h
    · cases h
  case sle fl sz a0 cap k1 k2 =>
    split at h
    · rename_i hh h2
      split at h
      · rename_i e
        cases hmx
        split at h
        · rename_i hc
          obtain ⟨ht, hl, hle⟩ := hc
          simp at h hle; subst h; subst hle
          obtain rfl : l = 0 := by omega
          obtain ⟨e, hu, hs⟩ := elT_und ht
          have hp : P.elem t = e := by simp [Program.elem, hu]
          have hb := run_bounds (P := P) (s := true) (len := 0) (cap := cap) hlo hhi h1 h2 (Nat.le_refl _) (Nat.le_refl _) (Nat.zero_le _)
          refine ⟨sliced (some a0) 0 0 cap sz, ?_, ?_, fun _ _ e => by cases e⟩
          · rw [run_sliceAt_slice w t _ _ _ _ (by rw [hp]; exact hu), run_slice_any w t (some a0) 0 cap (by rw [hp]; exact hu)]
            simp [hb, hp, run_sizeOf' hs]
          · exact sliced_e a0 cap sz k1 (.inl rfl)
        · cases h
      · rename_i a e
        cases hmx; rename_i vm hvm
        split at h
        · rename_i m a' h3 
          cases hhi; rename_i vh hvh
          split at h
          · rename_i hc
            obtain ⟨ht, hl, hle, hm⟩ := hc
            simp at h hm; subst hm
            obtain rfl : hh = 0 := by omega
            obtain rfl : l = 0 := by omega
            simp at h; subst h
            obtain ⟨e, hu, hs⟩ := elT_und ht
            have hp : P.elem t = e := by simp [Program.elem, hu]
            have hb := run_bounds3 (P := P) (len := 0) (cap := cap) hlo hvh hvm h1 h2 h3 (Nat.le_refl _) (Nat.le_refl _) (Nat.zero_le _)
            refine ⟨sliced (some a0) 0 0 0 sz, ?_, ?_, fun _ _ e => by cases e⟩
            · rw [run_sliceAt_slice w t _ _ _ _ (by rw [hp]; exact hu), run_slice_any w t (some a0) 0 cap (by rw [hp]; exact hu)]
              simp [hb, hp, run_sizeOf' hs]
            · exact sliced_e a0 0 sz (Nat.zero_le _) (.inr ⟨rfl, rfl⟩)
          · cases h
        · cases h
    · cases h
  case sl fl sz xs b o cap k1 k2 k3 k4 k5 =>
    split at h
    · rename_i hh h2
      split at h
      · rename_i e
        cases hmx
        split at h
        · rename_i hc
          obtain ⟨ht, hl, hle⟩ := hc
          simp at h; subst h
          obtain ⟨e, hu, hs⟩ := elT_und ht
          have hp : P.elem t = e := by simp [Program.elem, hu]
          have hb := run_bounds (P := P) (s := true) (len := xs.length) (cap := cap) hlo hhi h1 h2 hl hle k1
          refine ⟨sliced (some ⟨b, o, none⟩) l hh cap sz, ?_, VR_piece (fl := fl) k4 k5 hl hle (by omega) k2 (fun e => by cases e), fun _ _ e => by cases e⟩
          rw [run_sliceAt_slice w t _ _ _ _ (by rw [hp]; exact hu), run_slice_any w t _ _ _ (by rw [hp]; exact hu)]
          simp [hb, hp, run_sizeOf' hs]
        · cases h
      · rename_i a e
        cases hmx; rename_i vm hvm
        split at h
        · rename_i m a' h3 
          cases hhi; rename_i vh hvh
          split at h
          · rename_i hc
            obtain ⟨ht, hl, hle, hm⟩ := hc
            simp at h; subst h
            obtain ⟨e, hu, hs⟩ := elT_und ht
            have hp : P.elem t = e := by simp [Program.elem, hu]
            have hb := run_bounds3 (P := P) (len := xs.length) (cap := cap) hlo hvh hvm h1 h2 h3 hl hle (by omega)
            refine ⟨sliced (some ⟨b, o, none⟩) l hh m sz, ?_, VR_piece (fl := fl) k4 k5 hl (by omega) hle (by omega) (fun e => by split at e <;> first | assumption | cases e), fun _ _ e => by split at e <;> cases e⟩
            rw [run_sliceAt_slice w t _ _ _ _ (by rw [hp]; exact hu), run_slice_any w t _ _ _ (by rw [hp]; exact hu)]
            simp [hb, hp, run_sizeOf' hs]
          · cases h
        · cases h
    · cases h
end
end Go.Proofs.YtnibelnjflhkgaaDoor.Ab
