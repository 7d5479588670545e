/- Numbers, truths, texts: what operations on them give. No condition. -/
import Derived.Test.YtnibelnjflhkgaaDoorAb2
import Derived.Laws.Strings2
import Derived.Laws.Concat
namespace Go.Proofs.YtnibelnjflhkgaaDoor.Ab
set_option linter.unusedVariables false
set_option linter.unusedSimpArgs false
open Go.RowKit

def intA (op : BinOp) (k : IntKind) (a b : Int) : Option AV :=
  match op with
  | .add => some (.int k (k.wrap (a + b)))
  | .sub => some (.int k (k.wrap (a - b)))
  | .mul => some (.int k (k.wrap (a * b)))
  | .quo => if b = 0 then none else some (.int k (k.wrap (a.tdiv b)))
  | .rem => if b = 0 then none else some (.int k (a.tmod b))
  | .and => some (.int k (k.wrap (BitVec.ofInt k.bits a &&& BitVec.ofInt k.bits b).toNat))
  | .or => some (.int k (k.wrap (BitVec.ofInt k.bits a ||| BitVec.ofInt k.bits b).toNat))
  | .xor => some (.int k (k.wrap (BitVec.ofInt k.bits a ^^^ BitVec.ofInt k.bits b).toNat))
  | .andNot => some (.int k (k.wrap (BitVec.ofInt k.bits a &&& ~~~ BitVec.ofInt k.bits b).toNat))
  | .eql => some (.bool (a == b))
  | .neq => some (.bool (a != b))
  | .lss => some (.bool (decide (a < b)))
  | .leq => some (.bool (decide (a ≤ b)))
  | .gtr => some (.bool (decide (a > b)))
  | .geq => some (.bool (decide (a ≥ b)))
  | _ => none
def shiftA (op : BinOp) (k : IntKind) (a b : Int) : Option AV :=
  if b < 0 then none else
  match op with
  | .shl => some (.int k (k.wrap (a * 2 ^ (min b.toNat k.bits))))
  | .shr => some (.int k (a.fdiv (2 ^ (min b.toNat k.bits))))
  | _ => none
def strA (op : BinOp) (a b : List UInt8) : Option AV :=
  match op with
  | .add => if a.length + b.length ≤ 9223372036854775807 then some (.str (a ++ b)) else none
  | .eql => some (.bool (a == b))
  | .neq => some (.bool (!(a == b)))
  | .lss => some (.bool (Op.bytesLess a b))
  | .leq => some (.bool (Op.bytesLess a b || a == b))
  | .gtr => some (.bool (!(Op.bytesLess a b || a == b)))
  | .geq => some (.bool (!Op.bytesLess a b))
  | _ => none
def isShift : BinOp → Bool | .shl => true | .shr => true | _ => false
def boolT (P : Program) (t : TypeId) : Bool := match P.underlying t with | some .bool => true | _ => false
def ptrT (P : Program) (t : TypeId) : Bool := match P.underlying t with | some (.pointer _) => true | _ => false
def binA (P : Program) (op : BinOp) (t : TypeId) (x y : AV) : Option AV :=
  match x, y with
  | .int k a, .int k' b => if isShift op then shiftA op k a b else if k = k' then intA op k a b else none
  | .str a, .str b => strA op a b
  | .bool a, .bool b => if boolT P t then (match op with | .eql => some (.bool (a == b)) | .neq => some (.bool (!(a == b))) | _ => none) else none
  | .ptr _ _, .pnil => if ptrT P t then (match op with | .eql => some (.bool false) | .neq => some (.bool true) | _ => none) else none
  | .pnil, .pnil => if ptrT P t then (match op with | .eql => some (.bool true) | .neq => some (.bool false) | _ => none) else none
  | _, _ => none

theorem boolT_und {P : Program} {t : TypeId} (h : boolT P t = true) : P.underlying t = some .bool := by
  unfold boolT at h; split at h <;> simp_all
theorem ptrT_und {P : Program} {t : TypeId} (h : ptrT P t = true) : P.underlying t = some (.pointer (P.pointee t)) := by
  unfold ptrT at h; split at h <;> simp_all [Program.pointee]

section
variable {P : Program} {g : Gh} {w : World}
theorem run_binA {op : BinOp} {t : TypeId} {x y : Operand} {a b r : AV} {u v : Value} (hx : VR g w a u) (hy : VR g w b v) (h : binA P op t a b = some r) :
    ∃ z, (do eqGuard op t x y u v; binOp op t u v : Sem Value).run P w = .ok z w ∧ VR g w r z ∧ NotOwn r := by
  cases hx <;> cases hy <;> simp only [binA] at h <;> try (cases h; done)
  case int.int k n k' n' =>
    have hg : (eqGuard op t x y (.int k n) (.int k' n')).run P w = .ok () w := by cases op <;> simp [eqGuard]
    by_cases hs : isShift op = true
    · simp only [hs, if_true] at h
      unfold shiftA at h
      split at h
      · cases h
      · rename_i hn
        cases op <;> simp [isShift] at hs <;> simp at h <;> subst h
        · exact ⟨_, by simp [hg, binOp, Op.shift, hn], .int _ _, fun _ _ e => by cases e⟩
        · exact ⟨_, by simp [hg, binOp, Op.shift, hn], .int _ _, fun _ _ e => by cases e⟩
    · simp only [hs] at h
      simp only [Bool.false_eq_true, if_false] at h
      split at h
      · rename_i hk; subst hk
        unfold intA at h
        cases op <;> simp [isShift] at hs <;> simp only [Option.some.injEq, reduceCtorEq, Option.ite_none_left_eq_some] at h
        case quo => obtain ⟨h0, h⟩ := h; subst h; exact ⟨_, by simp [hg, binOp, Op.intDiv, h0], .int _ _, fun _ _ e => by cases e⟩
        case rem => obtain ⟨h0, h⟩ := h; subst h; exact ⟨_, by simp [hg, binOp, Op.intDiv, h0], .int _ _, fun _ _ e => by cases e⟩
        case and => subst h; exact ⟨_, by simp only [Sem.run_bind, hg, Result.andThen_ok, binOp, ne_eq, not_true_eq_false, if_false]; rfl, .int _ _, fun _ _ e => by cases e⟩
        case or => subst h; exact ⟨_, by simp only [Sem.run_bind, hg, Result.andThen_ok, binOp, ne_eq, not_true_eq_false, if_false]; rfl, .int _ _, fun _ _ e => by cases e⟩
        case xor => subst h; exact ⟨_, by simp only [Sem.run_bind, hg, Result.andThen_ok, binOp, ne_eq, not_true_eq_false, if_false]; rfl, .int _ _, fun _ _ e => by cases e⟩
        case andNot => subst h; exact ⟨_, by simp only [Sem.run_bind, hg, Result.andThen_ok, binOp, ne_eq, not_true_eq_false, if_false]; rfl, .int _ _, fun _ _ e => by cases e⟩
        case add => subst h; exact ⟨_, by simp only [Sem.run_bind, hg, Result.andThen_ok, binOp, ne_eq, not_true_eq_false, if_false]; rfl, .int _ _, fun _ _ e => by cases e⟩
        case sub => subst h; exact ⟨_, by simp only [Sem.run_bind, hg, Result.andThen_ok, binOp, ne_eq, not_true_eq_false, if_false]; rfl, .int _ _, fun _ _ e => by cases e⟩
        case mul => subst h; exact ⟨_, by simp only [Sem.run_bind, hg, Result.andThen_ok, binOp, ne_eq, not_true_eq_false, if_false]; rfl, .int _ _, fun _ _ e => by cases e⟩
        all_goals (subst h; exact ⟨_, by simp only [Sem.run_bind, hg, Result.andThen_ok, binOp, ne_eq, not_true_eq_false, if_false]; rfl, .bool _, fun _ _ e => by cases e⟩)
      · cases h
  case str.str l l' =>
    have hg : (eqGuard op t x y (.string ⟨⟨l⟩⟩) (.string ⟨⟨l'⟩⟩)).run P w = .ok () w := by cases op <;> simp [eqGuard]
    unfold strA at h
    cases op <;> simp at h
    case add =>
      obtain ⟨h0, h⟩ := h; subst h
      refine ⟨_, ?_, .str _, fun _ _ e => by cases e⟩
      simp only [Sem.run_bind, hg, Result.andThen_ok, binOp_string_add]
      rw [run_string_add_sum _ _ _ (by simpa [ByteArray.size] using h0), ByteArray.mk_append_mk]
    all_goals (subst h; refine ⟨_, by simp [hg, binOp, Op.stringOp]; rfl, ?_, fun _ _ e => by cases e⟩; simpa [ByteArray.toList_eq] using VR.bool _)
  case bool.bool a b =>
    have hg : (eqGuard op t x y (.bool a) (.bool b)).run P w = .ok () w := by cases op <;> simp [eqGuard]
    split at h
    · rename_i hb
      cases op <;> simp at h <;> subst h
      · exact ⟨_, by simp [hg, run_eql_bool (P := P) w t a b (boolT_und hb)], .bool _, fun _ _ e => by cases e⟩
      · exact ⟨_, by simp [hg, run_neq_bool (P := P) w t a b (boolT_und hb)], .bool _, fun _ _ e => by cases e⟩
    · cases h
  case ptr.pnil l o hl =>
    have hg : (eqGuard op t x y (.pointer (some ⟨g.ρ l, o, none⟩)) (.pointer none)).run P w = .ok () w := by cases op <;> simp [eqGuard]
    split at h
    · rename_i hp
      have hpt := ptrT_und hp
      cases op <;> simp at h <;> subst h
      · exact ⟨.bool false, by simp [hg, run_neq_pointer_nil (P := P) w t _ hpt, run_eql_pointer_nil (P := P) w t _ hpt], .bool _, fun _ _ e => by cases e⟩
      · exact ⟨.bool true, by simp [hg, run_neq_pointer_nil (P := P) w t _ hpt, run_eql_pointer_nil (P := P) w t _ hpt], .bool _, fun _ _ e => by cases e⟩
    · cases h
  case pnil.pnil =>
    have hg : (eqGuard op t x y (.pointer none) (.pointer none)).run P w = .ok () w := by cases op <;> simp [eqGuard]
    split at h
    · rename_i hp
      have hpt := ptrT_und hp
      cases op <;> simp at h <;> subst h
      · exact ⟨.bool true, by simp [hg, run_neq_pointer_nil (P := P) w t _ hpt, run_eql_pointer_nil (P := P) w t _ hpt], .bool _, fun _ _ e => by cases e⟩
      · exact ⟨.bool false, by simp [hg, run_neq_pointer_nil (P := P) w t _ hpt, run_eql_pointer_nil (P := P) w t _ hpt], .bool _, fun _ _ e => by cases e⟩
    · cases h

def unA (op : UnOp) (x : AV) : Option AV :=
  match op, x with
  | .neg, .int k n => some (.int k (k.wrap (0 - n)))
  | .not, .bool b => some (.bool (!b))
  | .xor, .int k n => intA .xor k (if k.signed then -1 else k.max) n
  | _, _ => none
theorem run_unA {op : UnOp} {a r : AV} {u : Value} (hx : VR g w a u) (h : unA op a = some r) : ∃ z, (Op.unary op u).run P w = .ok z w ∧ VR g w r z ∧ NotOwn r := by
  cases hx <;> cases op <;> simp only [unA] at h <;> try (cases h; done)
  · simp at h; subst h; exact ⟨_, by simp [Op.unary], .bool _, fun _ _ e => by cases e⟩
  · simp at h; subst h; exact ⟨_, by simp [Op.unary, Op.intArith], .int _ _, fun _ _ e => by cases e⟩
  · simp [intA] at h; subst h; exact ⟨_, by simp [Op.unary, Op.intBits], .int _ _, fun _ _ e => by cases e⟩

/-- Bytes as numbers. -/
def bytesOf : List AV → Option (List UInt8)
  | [] => some []
  | .int .u8 n :: xs => match bytesOf xs with | some l => some (UInt8.ofNat n.toNat :: l) | none => none
  | _ => none
def cvtA (P : Program) (src dst : TypeId) (x : AV) : Option AV :=
  match x with
  | .int _ n => match intT P src, intT P dst with | some _, some k => some (.int k (k.wrap n)) | _, _ => none
  | .str l => if strT P src && strT P dst then some (.str l) else none
  | _ => none
theorem bytesOf_spec {xs : List AV} {l : List UInt8} (h : bytesOf xs = some l) : ∃ ns : List Int, xs = ns.map (AV.int .u8) ∧ l = ns.map fun n => UInt8.ofNat n.toNat := by
  induction xs generalizing l with
  | nil => simp [bytesOf] at h; subst h; exact ⟨[], rfl, rfl⟩
  | cons x xs ih =>
    unfold bytesOf at h
    split at h
    · cases ‹_ :: _ = []›
    · rename_i n xs' e; cases e
      split at h
      · rename_i l' hl
        simp at h; subst h
        obtain ⟨ns, h1, h2⟩ := ih hl
        exact ⟨n :: ns, by simp [h1], by simp [h2]⟩
      · cases h
    · cases h
theorem flat_ints (ns : List Int) : flat (ns.map (AV.int .u8)) = ns.map (AV.int .u8) := by
  induction ns with
  | nil => rfl
  | cons n ns ih => simp [flat_cons, AV.cells, ih]
theorem CL_ints {ns : List Int} {vs : List Value} (h : CL g w (ns.map (AV.int .u8)) vs) : vs = ns.map (Value.int .u8) := by
  induction ns generalizing vs with
  | nil => cases h; rfl
  | cons n ns ih => cases h with | cons _ _ v vs h1 h2 t => cases h2; simp [ih t]
theorem foldl_push (ns : List Int) : ∀ s : ByteArray, ns.foldl (fun r n => r.push (UInt8.ofNat n.toNat)) s = ⟨⟨s.data.toList ++ ns.map fun n => UInt8.ofNat n.toNat⟩⟩ := by
  induction ns with
  | nil => intro s; simp
  | cons n ns ih =>
    intro s
    rw [List.foldl_cons, ih]
    simp [ByteArray.push]
theorem run_cvtA {src dst : TypeId} {a r : AV} {u : Value} (hx : VR g w a u) (h : cvtA P src dst a = some r) : ∃ z, (convert src dst u).run P w = .ok z w ∧ VR g w r z ∧ NotOwn r := by
  cases hx <;> simp only [cvtA] at h <;> try (cases h; done)
  case int k n =>
    split at h
    · rename_i k1 k2 h1 h2
      simp at h; subst h
      exact ⟨_, by simp [convert, run_underlying (intT_und h1), run_underlying (intT_und h2), Conv.intToInt], .int _ _, fun _ _ e => by cases e⟩
    · cases h
  case str l =>
    split at h
    · rename_i h1
      simp at h1 h; subst h
      exact ⟨_, by simp [convert, run_underlying (strT_und h1.1), run_underlying (strT_und h1.2)], .str _, fun _ _ e => by cases e⟩
    · cases h
/-- Is it a type of rows of bytes? -/
def bytT (P : Program) (t : TypeId) : Bool := match sliceT P t with | some e => intT P e == some .u8 | none => false
theorem bytT_und {t : TypeId} (h : bytT P t = true) : ∃ e, sliceT P t = some e ∧ intT P e = some .u8 := by
  unfold bytT at h
  split at h
  · rename_i e he; exact ⟨e, he, by simpa using h⟩
  · cases h
theorem run_bytes_text {src dst : TypeId} {fl : Fl} {sz : Nat} {xs : List AV} {l : List UInt8} {u : Value} (hs : bytT P src = true) (hd : strT P dst = true) (hx : VR g w (.sl fl sz xs) u) (hl : bytesOf xs = some l) : (convert src dst u).run P w = .ok (.string ⟨⟨l⟩⟩) w := by
  obtain ⟨e, he, hi⟩ := bytT_und hs
  cases hx
  case sl0 =>
    simp [bytesOf] at hl; subst hl
    rw [run_convert_bytes_string w src dst e none 0 0 (sliceT_und he) (intT_und hi) (strT_und hd)]; simp [Conv.bytesToString]; rfl
  case sle a cap h1 h2 =>
    simp [bytesOf] at hl; subst hl
    rw [run_convert_bytes_string w src dst e (some a) 0 cap (sliceT_und he) (intT_und hi) (strT_und hd)]; simp [Conv.bytesToString, loadCells, loadCellsFrom]; rfl
  case sl b o cap h1 h2 h5 h4 h3 =>
    obtain ⟨ns, rfl, rfl⟩ := bytesOf_spec hl
    rw [flat_ints] at h5
    obtain ⟨vs, k1, k2⟩ := h5.toCL
    rw [CL_ints k1] at k2
    have hr := run_loadCells_list (P := P) w ⟨b, o, none⟩ (ns.map (Value.int .u8)) (fun j v hj => by rw [add_mk]; exact k2 j v hj)
    rw [run_convert_bytes_string w src dst e _ _ _ (sliceT_und he) (intT_und hi) (strT_und hd), run_bytesToString w _ _ cap ns (by simpa using hr)]
    rw [foldl_push]
    rfl
end
end Go.Proofs.YtnibelnjflhkgaaDoor.Ab
