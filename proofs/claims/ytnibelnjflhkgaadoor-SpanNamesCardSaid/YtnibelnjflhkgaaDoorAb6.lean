/- What an operation that only computes or reads gives in a state. No condition. -/
import Derived.Test.YtnibelnjflhkgaaDoorAb5
namespace Go.Proofs.YtnibelnjflhkgaaDoor.Ab
set_option linter.unusedVariables false
set_option linter.unusedSimpArgs false
open Go.RowKit

def isOwn : AV → Bool
  | .sl .own _ _ => true
  | _ => false
theorem isOwn_iff {a : AV} : isOwn a = false ↔ NotOwn a := by
  cases a <;> simp [isOwn, NotOwn]
  case sl fl sz xs => cases fl <;> simp
theorem strip_of_not {a : AV} (h : isOwn a = false) : strip a = a := by
  cases a <;> first | rfl | skip
  case sl fl sz xs => cases fl <;> first | rfl | simp [isOwn] at h

def constOK : Value → Bool
  | .agg cs => cs.toList.all Value.oneCell'
  | _ => true
/-- A slot's value at a read. -/
def evA (s : ASt) : Operand → AV
  | .tmp t => strip (s.fr t)
  | .const v => if constOK v then strip (constA 0 v) else .junk
  | .func f => .func f [] []
  | .global _ => .junk
def vfa (a : Act) : Nat → Value := fun i => a.tmps.getD i undef

section
variable {P : Program} {g : Gh} {w : World} {s : ASt} {a : Act}
theorem constA_vr' (n : Nat) {v : Value} (h : constOK v = true) : VR g w (constA n v) v := by
  refine constA_vr n v (fun cs e u hu => ?_)
  subst e
  simp only [constOK, List.all_eq_true] at h
  exact h u hu
theorem evA_vr (h : SR s (vfa a) w g) (x : Operand) : VR g w (evA s x) (a.eval x) := by
  cases x with
  | tmp t => exact (h.fr t).strip
  | const v =>
    simp only [evA]
    split
    · rename_i hc; exact (constA_vr' 0 hc).strip
    · exact .junk _
  | func f => exact .func f [] [] [] [] .nil .nil
  | global _ => exact .junk _
theorem evA_not (s : ASt) (x : Operand) : NotOwn (evA s x) := by
  cases x with
  | tmp t => exact strip_notOwn _
  | const v => simp only [evA]; split <;> first | exact strip_notOwn _ | exact fun _ _ e => by cases e
  | func f => exact fun _ _ e => by cases e
  | global _ => exact fun _ _ e => by cases e

def loadA (P : Program) (hp : Hp) (t : TypeId) (x : AV) : Option AV :=
  match x with
  | .eptr cs => partA P t cs 0
  | .ptr l o => match hp.bk l with | .cells cs => partA P t cs o | _ => none
  | _ => none
def nilChkA : AV → Option AV
  | .ptr l o => some (.ptr l o)
  | .eptr cs => some (.eptr cs)
  | _ => none
def builtinA (P : Program) (b : Builtin) (ts : List TypeId) (xs : List AV) : Option AV :=
  match b, ts, xs with
  | .len, [t], [x] => lenA P t x
  | .min, _, [x, y] => minA x y
  | .max, _, [x, y] => maxA x y
  | _, _, _ => none
def pickA (c x y : AV) : Option AV := match c with | .bool t => some (if t then x else y) | _ => none
def pevA (P : Program) (s : ASt) : Op → Option AV
  | .pick c x y => pickA (evA s c) (evA s x) (evA s y)
  | .binOp op t x y _ => binA P op t (evA s x) (evA s y)
  | .unOp op _ x => unA op (evA s x)
  | .convert src dst x => cvtA P src dst (evA s x)
  | .field t x f => fieldA P t (evA s x) f
  | .index t x i => indexA P t (evA s x) (evA s i)
  | .indexAddr t x i => indexAddrA P t (evA s x) (evA s i)
  | .fieldAddr t x f => fieldAddrA P t (evA s x) f
  | .extract x i => extractA (evA s x) i
  | .load t x => loadA P s.hp t (evA s x)
  | .nilCheck x => nilChkA (evA s x)
  | .slice t x lo hi mx => pieceA P t (evA s x) (lo.map (evA s)) (hi.map (evA s)) (mx.map (evA s))
  | .build t parts => buildA P t (parts.toList.map fun p => (p.1, evA s p.2))
  | .makeFunc (.func f) first cap => some (.func f (first.toList.map (evA s)) (cap.toList.map (evA s)))
  | .call ⟨.builtin b, args, ts⟩ => builtinA P b ts.toList (args.toList.map (evA s))
  | _ => none

theorem OR_map (h : SR s (vfa a) w g) (x : Option Operand) : OR g w (x.map (evA s)) (x.map a.eval) := by
  cases x with
  | none => exact .none
  | some x => exact .some _ _ (evA_vr h x)
theorem PR_map (h : SR s (vfa a) w g) (ps : List (Nat × Operand)) : PR g w (ps.map fun p => (p.1, evA s p.2)) (ps.map fun p => (p.1, a.eval p.2)) := by
  induction ps with
  | nil => exact .nil
  | cons p ps ih => exact .cons _ _ _ _ _ (evA_vr h p.2) ih
theorem VL_map (h : SR s (vfa a) w g) (xs : List Operand) : VL g w (xs.map (evA s)) (xs.map a.eval) := by
  induction xs with
  | nil => exact .nil
  | cons x xs ih => exact .cons _ _ _ _ (evA_vr h x) ih

theorem SR.box {l : Nat} {cs : List AV} (h : SR s (vfa a) w g) (hl : l < g.n) (hb : s.hp.bk l = .cells cs) : ∃ vs us e fr, w.heap[g.ρ l]? = some (.cells ⟨vs ++ us⟩ e fr) ∧ CL g w cs vs ∧ (fr = (0, 0) ∨ vs.length ≤ fr.1) ∧ ∀ j v, vs[j]? = some v → w.cell? ⟨g.ρ l, j, none⟩ = some v := by
  have := h.bk l hl
  rw [hb] at this
  obtain ⟨vs, us, e, fr, h1, h2, h3⟩ := this
  exact ⟨vs, us, e, fr, h1, h2, h3, fun j v hj => by
    rw [cell_of_row w (g.ρ l) j ⟨vs ++ us⟩ e fr h1]
    have : j < vs.length := (List.getElem?_eq_some_iff.1 hj).1
    simpa [List.getElem?_append_left this] using hj⟩

theorem run_loadA {t : TypeId} {x r : AV} {u : Value} (h : SR s (vfa a) w g) (hx : VR g w x u) (hr : loadA P s.hp t x = some r) :
    ∃ z, (Instr.loadAt t u).run P w = .ok z w ∧ VR g w r z ∧ NotOwn r := by
  cases hx <;> simp only [loadA] at hr <;> try (cases hr; done)
  case ptr l o hl =>
    split at hr
    · rename_i cs hb
      obtain ⟨vs, _, e, _, h1, h2, _, h3⟩ := h.box hl hb
      obtain ⟨z, k1, k2, k3⟩ := run_loadVar' (P := P) (b := g.ρ l) (o := 0) (k := o) h2 (fun j v hj => by rw [Nat.zero_add]; exact h3 j v hj) hr
      rw [Nat.zero_add] at k1
      exact ⟨z, by simp [Instr.loadAt, Instr.sureAddr, k1], k2, k3⟩
    · cases hr
  case eptr cs b o hc =>
    obtain ⟨vs, h2, h3⟩ := hc.toCL
    obtain ⟨z, k1, k2, k3⟩ := run_loadVar' (P := P) (b := b) (o := o) (k := 0) h2 h3 hr
    exact ⟨z, by simpa [Instr.loadAt, Instr.sureAddr] using k1, k2, k3⟩

theorem run_pevA {o : Oper} {r : AV} (h : SR s (vfa a) w g) (hr : pevA P s o.op = some r) :
    ∃ z, (execOp a.eval o).run P w = .ok (.value z) w ∧ VR g w r z ∧ NotOwn r := by
  obtain ⟨dst, op, ty, pos, aft, gd⟩ := o
  simp only at hr
  have ev := evA_vr h
  cases op <;> simp only [pevA] at hr <;> try (cases hr; done)
  case pick c x y =>
    unfold pickA at hr
    split at hr
    · rename_i t hc
      simp at hr; subst hr
      have hv := ev c
      rw [hc] at hv
      generalize hu : a.eval c = u at hv
      cases hv
      cases t
      · exact ⟨a.eval y, by simp [execOp, hu, asBool], ev y, evA_not s y⟩
      · exact ⟨a.eval x, by simp [execOp, hu, asBool], ev x, evA_not s x⟩
    · cases hr
  case binOp op t x y yt =>
    obtain ⟨z, h1, h2, h3⟩ := run_binA (P := P) (x := x) (y := y) (ev x) (ev y) hr
    exact ⟨z, by simp only [execOp]; rw [Sem.run_bind, h1]; simp, h2, h3⟩
  case unOp op t x =>
    obtain ⟨z, h1, h2, h3⟩ := run_unA (P := P) (ev x) hr
    exact ⟨z, by simp [execOp, h1], h2, h3⟩
  case convert src dst' x =>
    obtain ⟨z, h1, h2, h3⟩ := run_cvtA (P := P) (ev x) hr
    exact ⟨z, by simp [execOp, h1], h2, h3⟩
  case field t x f =>
    obtain ⟨z, h1, h2, h3⟩ := run_fieldA (P := P) (ev x) hr
    exact ⟨z, by simp [execOp, h1], h2, h3⟩
  case index t x i =>
    obtain ⟨z, h1, h2, h3⟩ := run_indexA (P := P) (ev x) (ev i) hr
    exact ⟨z, by simp [execOp, h1], h2, h3⟩
  case indexAddr t x i =>
    obtain ⟨z, h1, h2, h3⟩ := run_indexAddrA (P := P) (ev x) (ev i) hr
    exact ⟨z, by simp [execOp, h1], h2, h3⟩
  case fieldAddr t x f =>
    obtain ⟨z, h1, h2, h3⟩ := run_fieldAddrA (P := P) (ev x) hr
    exact ⟨z, by simp [execOp, h1], h2, h3⟩
  case extract x i =>
    obtain ⟨z, h1, h2, h3⟩ := run_extractA (P := P) (ev x) hr
    exact ⟨z, by simp [execOp, h1], h2, h3⟩
  case load t x =>
    obtain ⟨z, h1, h2, h3⟩ := run_loadA (P := P) h (ev x) hr
    exact ⟨z, by simp [execOp, h1], h2, h3⟩
  case nilCheck x =>
    have hv := ev x
    generalize hu : a.eval x = u at hv
    generalize evA s x = e at hv hr
    cases hv <;> simp only [nilChkA] at hr <;> try (cases hr; done)
    case ptr l o hl => simp at hr; subst hr; exact ⟨_, by simp [execOp, hu], .ptr l o hl, fun _ _ e => by cases e⟩
    case eptr cs b o hc => simp at hr; subst hr; exact ⟨_, by simp [execOp, hu], .eptr cs b o hc, fun _ _ e => by cases e⟩
  case slice t x lo hi mx =>
    obtain ⟨z, h1, h2, h3⟩ := run_pieceA (P := P) (ev x) (OR_map h lo) (OR_map h hi) (OR_map h mx) hr
    exact ⟨z, by simp [execOp, h1], h2, h3⟩
  case build t parts =>
    obtain ⟨z, h1, h2, h3⟩ := run_buildA (P := P) (vparts := parts.map fun (i, x) => (i, a.eval x)) (by simpa using PR_map h parts.toList) hr
    exact ⟨z, by simp only [execOp]; rw [Sem.run_bind, h1]; simp, h2, h3⟩
  case makeFunc fn first cap =>
    cases fn <;> simp only [pevA] at hr <;> try (cases hr; done)
    simp at hr; subst hr
    rename_i f
    refine ⟨.func (.func f) (first.map a.eval) (cap.map a.eval), by simp [execOp, Instr.makeFunc], ?_, fun _ _ e => by cases e⟩
    have h1 := VL_map h first.toList
    have h2 := VL_map h cap.toList
    have := VR.func (g := g) (w := w) f _ _ _ _ h1 h2
    simpa [← Array.toList_map] using this
  case call c =>
    obtain ⟨callee, args, ts⟩ := c
    cases callee <;> simp only at hr <;> try (cases hr; done)
    rename_i b
    have hb : ∀ z, (Go.builtin b ts ty (args.map fun | .const _ => true | _ => false) (args.map a.eval)).run P w = .ok (.value z) w → (execOp a.eval ⟨dst, .call ⟨.builtin b, args, ts⟩, ty, pos, aft, gd⟩).run P w = .ok (.value z) w := by
      intro z hz
      simp only [execOp, resolve, Sem.run_bind, Sem.run_pure, Result.andThen_ok, invoke]
      exact hz
    obtain ⟨tsl⟩ := ts
    obtain ⟨args⟩ := args
    simp only at hr
    unfold builtinA at hr
    split at hr
    · rename_i t x h1
      rcases args with _ | ⟨y, _ | ⟨y2, l⟩⟩ <;> simp at h1
      subst h1
      obtain ⟨z, k1, k2, k3⟩ := run_lenA (P := P) (ty := ty) (ev y) hr
      exact ⟨z, hb z (by simp [Go.builtin, k1]), k2, k3⟩
    · rename_i tt x y h1
      rcases args with _ | ⟨x', _ | ⟨y', _ | ⟨y2, l⟩⟩⟩ <;> simp at h1
      obtain ⟨rfl, rfl⟩ := h1
      obtain ⟨z, k1, k2, k3⟩ := run_minA (P := P) (ev x') (ev y') hr
      exact ⟨z, hb z (by simp [Go.builtin, k1]), k2, k3⟩
    · rename_i tt x y h1
      rcases args with _ | ⟨x', _ | ⟨y', _ | ⟨y2, l⟩⟩⟩ <;> simp at h1
      obtain ⟨rfl, rfl⟩ := h1
      obtain ⟨z, k1, k2, k3⟩ := run_maxA (P := P) (ev x') (ev y') hr
      exact ⟨z, hb z (by simp [Go.builtin, k1]), k2, k3⟩
    · cases hr
end
end Go.Proofs.YtnibelnjflhkgaaDoor.Ab
