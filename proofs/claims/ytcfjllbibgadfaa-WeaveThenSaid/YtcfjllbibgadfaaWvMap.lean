/- A table of two relations as a map that the call itself has made: what it reads as, and one turn of 'm[k] |= v'. Plain laws over the model; no condition. -/
import Derived.Test.YtcfjllbibgadfaaB0
import Derived.WideKeyPair
import Derived.WideKeyEntry
import Derived.Maps.Own
import Derived.Maps.Views
import Derived.KernelRfl
namespace Go.Proofs.Ytcfjllbibgadfaa.B
open Go Go.RowKit Go.ChangeMaps Go.MapKept Go.WideMaps Go.Maps
open Go.WideElems (Fit entry_then_store)
open Go.Proofs.YtcfjllbibgadfaaW.PrintWords Go.Proofs.YtcfjllbibgadfaaW.PrintLast Go.Proofs.YtcfjllbibgadfaaW.PrintMore
set_option linter.unusedVariables false

theorem keyArr : ArrKey Try.prog 67 3 2 := ⟨by kernel_rfl, by kernel_rfl, by kernel_rfl, by kernel_rfl⟩
theorem typesSome : ∃ m, Try.prog.types.size = m + 1 := ⟨Try.prog.types.size - 1, by have h : 0 < Try.prog.types.size := of_decide_eq_true (by kernel_rfl); omega⟩
theorem keyLaw : KeyLaw Try.prog 67 := keyArr.law
theorem keyed : Keyed Try.prog 67 := Keyed.of_law keyLaw
def kl (r q : Int) : Lit := .string (keyBytes [.int .i64 r, .int .i64 q])
abbrev key (r q : Int) : Value := .agg #[.int .i64 r, .int .i64 q]
def Rg (r : Int) : Prop := 1 ≤ r ∧ r ≤ 13
theorem Rg.wf {r : Int} (h : Rg r) : (Lit.int .i64 r).wf = true := by
  obtain ⟨h1, h2⟩ := h
  simp [Lit.wf, IntKind.min, IntKind.max, IntKind.signed, IntKind.bits]; omega
theorem key_lit {r q : Int} (hr : Rg r) (hq : Rg q) : keyOf Try.prog 67 (key r q) = some (kl r q) := keyOf_pair keyArr Try.underlying3 typesSome hr.wf hq.wf
theorem kl_inj {r q r' q' : Int} (hr : Rg r) (hq : Rg q) (hr' : Rg r') (hq' : Rg q') (h : kl r q = kl r' q') : r = r' ∧ q = q' := by
  have e := keyed.inj (key_lit hr hq) (h ▸ key_lit hr' hq')
  injection e with e
  simpa using e

noncomputable abbrev RE : Value → Option (DataW Unit × List MemPlace) := plainElem (H := Unit) Try.prog 3
/-- Block b is a map that holds m's numbers. -/
def OwnT (w : World) (b n : Nat) (m : Int → Int → Int) : Prop :=
  ∃ D : DataW Unit, w.ownsMap Try.prog 67 RE b n D ∧ IsMap D ∧ ∀ r q, Rg r → Rg q → D.atKey (kl r q) (.lit (.int .i64 0)) = .lit (.int .i64 (m r q)) ∧ (Lit.int .i64 (m r q)).wf = true

theorem OwnT.made (w : World) : OwnT (w.alloc (.map #[] 0)) w.heap.size 0 (fun _ _ => 0) :=
  ⟨.map [], World.ownsMap_made _ _ _ _, ⟨_, rfl⟩, fun r q _ _ => ⟨rfl, (by decide : (Lit.int .i64 0).wf = true)⟩⟩
theorem OwnT.kept {w w' : World} {b n : Nat} {m : Int → Int → Int} {row : Option Nat} (h : OwnT w b n m) (hg : w.grownBy w' row) (hne : some b ≠ row) : OwnT w' b n m := by
  obtain ⟨D, h1, h2⟩ := h
  exact ⟨D, h1.kept hg hne, h2⟩
theorem OwnT.lt {w : World} {b n : Nat} {m : Int → Int → Int} (h : OwnT w b n m) : b < w.heap.size := by
  obtain ⟨D, h1, _⟩ := h
  exact h1.lt
theorem OwnT.below {w w' : World} {b n : Nat} {m : Int → Int → Int} (h : OwnT w b n m) (hb : Below w.heap.size w w') : OwnT w' b n m := by
  obtain ⟨D, ⟨es, clock, e1, F, e2, e3⟩, h2⟩ := h
  have hlt : b < w.heap.size := (Array.getElem?_eq_some_iff.1 e1).1
  exact ⟨D, ⟨es, clock, (hb.block b hlt).trans e1, F, e2, e3⟩, h2⟩
theorem OwnT.mono {w : World} {b n n' : Nat} {m : Int → Int → Int} (h : OwnT w b n m) (hn : n ≤ n') : OwnT w b n' m := by
  obtain ⟨D, h1, h2⟩ := h
  exact ⟨D, h1.mono hn, h2⟩
def upd (m : Int → Int → Int) (r q x : Int) : Int → Int → Int := fun a b => if a = r ∧ b = q then x else m a b

theorem zero3 (w : World) : (zeroValue 3).run Try.prog w = .ok (.int .i64 0) w := by kernel_rfl
theorem OwnT.look {w : World} {b n : Nat} {m : Int → Int → Int} (h : OwnT w b n m) {r q : Int} (hr : Rg r) (hq : Rg q) :
    (Instr.lookup 57 (.map (some b)) (key r q) false).run Try.prog w = .ok (.int .i64 (m r q)) w := by
  obtain ⟨D, h1, _, h2⟩ := h
  obtain ⟨c, hrun, hat, _⟩ := h1.lookup_int keyed Try.underlying57 Try.underlying3 (zero3 w) (key_lit hr hq)
  rw [(h2 r q hr hq).1] at hat
  injection hat with hat
  injection hat with _ hat
  rw [hrun, hat]

theorem setBlock_twice (w : World) (b : Nat) (o o' : Obj) : setBlock (setBlock w b o) b o' = setBlock w b o' := by
  unfold setBlock
  simp

/-- What 'mapEntry' leaves is what a store of the value at hand leaves. -/
theorem entry_update {P : Program} {k e t : TypeId} {H : Type} {R : Value → Option (DataW H × List MemPlace)} {w : World} {b : Nat} {es : Array MapEntry} {clock : Nat} (K : KeyLaw P k) (ht : P.underlying t = some (.map k e)) {z : Value} (hz : ∀ u : World, (zeroValue e).run P u = .ok z u) (hb : w.heap[b]? = some (.map es clock)) (F : Fit P k R es clock)
    {key : Value} {kl : Lit} (hkey : keyOf P k key = some kl) :
    ∃ (v0 : Value) (st : Nat) (o1 : Obj), (Instr.mapEntry t (.map (some b)) key).run P w = .ok (.tuple #[v0, goInt st]) (setBlock w b o1) ∧ (Instr.mapUpdate t (.map (some b)) key v0).run P w = .ok () (setBlock w b o1) ∧
      (Instr.lookup t (.map (some b)) key false).run P w = .ok v0 w := by
  rcases K.find w hkey es.toList F.keys with ⟨h1, h2⟩ | ⟨j, e0, h1, h2, h3⟩
  · refine ⟨z, clock, .map (es.push ⟨key, z, clock⟩) (clock + 1), ?_, ?_, ?_⟩
    · simp [Instr.mapEntry, run_underlying ht, MapKept.run_getObj_map hb, K.check w false hkey, h1, hz, MapKept.run_setObj_map _ hb, Result.andThen, setBlock]
    · simp [Instr.mapUpdate, run_underlying ht, MapKept.run_getObj_map hb, K.check w false hkey, h1, MapKept.run_setObj_map _ hb, Result.andThen, setBlock]
    · simp [Instr.lookup, run_underlying ht, MapKept.run_getObj_map hb, K.check w _ hkey, h1, hz, Result.andThen]
  · have hj : es[j]? = some e0 := by simpa using h2
    have hsame : es.modify j (fun e => { e with key := key }) = es := by
      apply Array.ext'
      rw [Array.toList_modify, modify_eq_set _ _ _ _ h2]
      have : ({ e0 with key := key } : MapEntry) = e0 := by rw [← h3]
      rw [this]
      exact WideElems.set_self _ _ _ h2
    have hsame2 : es.modify j (fun e' => { e' with key := key, val := e0.val }) = es := by
      apply Array.ext'
      rw [Array.toList_modify, modify_eq_set _ _ _ _ h2]
      have : ({ e0 with key := key, val := e0.val } : MapEntry) = e0 := by rw [← h3]
      rw [this]
      exact WideElems.set_self _ _ _ h2
    refine ⟨e0.val, e0.born, .map es clock, ?_, ?_, ?_⟩
    · simp [Instr.mapEntry, run_underlying ht, MapKept.run_getObj_map hb, K.check w false hkey, h1, hj, h3, K.stays w hkey, hsame, MapKept.run_setObj_map _ hb, Result.andThen, setBlock]
    · simp [Instr.mapUpdate, run_underlying ht, MapKept.run_getObj_map hb, K.check w false hkey, h1, hj, h3, K.stays w hkey, hsame2, MapKept.run_setObj_map _ hb, Result.andThen, setBlock]
    · simp [Instr.lookup, run_underlying ht, MapKept.run_getObj_map hb, K.check w _ hkey, h1, Result.andThen]

theorem OwnT.turn {w : World} {b n : Nat} {m : Int → Int → Int} (h : OwnT w b n m) (hn : n < 9223372036854775807) {r q x : Int} (hr : Rg r) (hq : Rg q) (hx : (Lit.int .i64 x).wf = true) :
    ∃ (v0 : Value) (st : Nat) (o1 o2 : Obj), (Instr.mapEntry 57 (.map (some b)) (key r q)).run Try.prog w = .ok (.tuple #[v0, goInt st]) (setBlock w b o1) ∧
      (Instr.entryStore 57 (.map (some b)) (goInt st) (.int .i64 x)).run Try.prog (setBlock w b o1) = .ok () (setBlock w b o2) ∧
      OwnT (setBlock w b o2) b (n + 1) (upd m r q x) ∧ w.grownBy (setBlock w b o2) (some b) ∧
      (Instr.lookup 57 (.map (some b)) (key r q) false).run Try.prog (setBlock w b o1) = .ok (.int .i64 (m r q)) (setBlock w b o1) := by
  have hlook := h.look hr hq
  obtain ⟨D, h1, hD, h2⟩ := h
  obtain ⟨w', hrun, hown, hg⟩ := h1.update keyed Try.underlying57 hn (key_lit hr hq) (plainElem_int Try.underlying3 hx)
  have h1' := h1
  obtain ⟨es, clock, hb, F, _, _⟩ := h1
  have hmid : ∀ o1 v st, (Instr.mapEntry 57 (.map (some b)) (key r q)).run Try.prog w = .ok (.tuple #[v, goInt st]) (setBlock w b o1) → (Instr.lookup 57 (.map (some b)) (key r q) false).run Try.prog (setBlock w b o1) = .ok (.int .i64 (m r q)) (setBlock w b o1) := by
    intro o1 v st he
    obtain ⟨v0, st', o1', c1, c2, c3⟩ := entry_update keyLaw Try.underlying57 zero3 hb F (key_lit hr hq)
    have c1 := he.symm.trans c1
    have c1' := (Result.ok.inj c1).2
    have c3 := hlook.symm.trans c3
    have c3 := (Result.ok.inj c3).1
    subst c3
    obtain ⟨w1, u1, u2, _⟩ := h1'.update keyed Try.underlying57 hn (key_lit hr hq) (plainElem_int Try.underlying3 (h2 r q hr hq).2)
    have u1 := c2.symm.trans u1
    have u1 := (Result.ok.inj u1).2
    have hw : setBlock w b o1 = w1 := c1'.trans u1
    rw [hw]
    have hO : OwnT w1 b (n + 1) m := ⟨_, u2, hD.put _ _, fun a c ha hc => by
      by_cases e : a = r ∧ c = q
      · obtain ⟨rfl, rfl⟩ := e
        rw [atKey_put_same hD (keyed.key (key_lit hr hq))]
        exact ⟨rfl, (h2 a c ha hc).2⟩
      · rw [atKey_put_other (fun e' => e (kl_inj ha hc hr hq e'))]
        exact h2 a c ha hc⟩
    exact hO.look hr hq
  obtain ⟨v0, st, es1, clock1, e1, _, e2⟩ := entry_then_store keyLaw Try.underlying57 zero3 hb F (key_lit hr hq)
  obtain ⟨es', clock', e3, e4⟩ := e2 (setBlock w b (.map es1 clock1)) (.int .i64 x) (heap_setBlock_same hb _)
  rw [hrun] at e4
  injection e4 with _ e4
  subst e4
  rw [setBlock_twice] at e3
  refine ⟨v0, st, _, _, e1, e3, ⟨_, hown, hD.put _ _, fun a c ha hc => ?_⟩, hg, hmid _ _ _ e1⟩
  unfold upd
  by_cases e : a = r ∧ c = q
  · obtain ⟨rfl, rfl⟩ := e
    rw [if_pos ⟨rfl, rfl⟩, atKey_put_same hD (keyed.key (key_lit hr hq))]
    exact ⟨rfl, hx⟩
  · rw [if_neg e, atKey_put_other (fun e' => e (kl_inj ha hc hr hq e'))]
    exact h2 a c ha hc
theorem OwnT.drew {w : World} {b n : Nat} {m : Int → Int → Int} (h : OwnT w b n m) : OwnT w.drew b n m := h
theorem OwnT.drewN {w : World} {b n : Nat} {m : Int → Int → Int} (h : OwnT w b n m) (k : Nat) : OwnT (w.drewN k) b n m := h
/-- A block of cells is not the map's. -/
theorem OwnT.ne {w : World} {b n g : Nat} {m : Int → Int → Int} {cs : Array Value} {t : TypeId} {fr : Nat × Nat} (h : OwnT w b n m) (hg : w.heap[g]? = some (.cells cs t fr)) : g ≠ b := by
  rintro rfl
  obtain ⟨D, ⟨es, clock, e1, _⟩, _⟩ := h
  rw [hg] at e1
  cases e1
theorem blk_setBlock {w : World} {b g : Nat} {o x : Obj} (h : w.heap[g]? = some x) (hne : g ≠ b) : (setBlock w b o).heap[g]? = some x := by
  unfold setBlock
  show (w.heap.setIfInBounds b o)[g]? = some x
  rw [Array.getElem?_setIfInBounds, if_neg (fun e => hne e.symm)]
  exact h
/-- A row that is read lies in cells: it stays where only the map is written. -/
theorem OwnT.row {α : Type} {d : Kd α} {w w' : World} {b n : Nat} {m : Int → Int → Int} {A : Option Addr} {l : Nat} {xs : List α} (h : OwnT w b n m) (hg : w.grownBy w' (some b)) (hC : Kd.C d w A l xs) (hd : ∀ x c, d.K w x c → d.K w' x c) : Kd.C d w' A l xs := by
  obtain ⟨h1, h2, h3⟩ := hC
  refine ⟨h1, h2, fun hl => ?_⟩
  obtain ⟨ad, e, hc⟩ := h3 hl
  refine ⟨ad, e, fun j p hj => ?_⟩
  obtain ⟨c, hs, hr, hcell⟩ := hc j p hj
  refine ⟨c, hs, hd _ _ hr, fun i u hu => ?_⟩
  have hq := hcell i u hu
  refine hg.cell hq (fun e' => ?_)
  injection e' with e'
  obtain ⟨D, ⟨es, clock, e1, _⟩, _⟩ := h
  unfold World.cell? at hq
  rw [e', e1] at hq
  cases hq
end Go.Proofs.Ytcfjllbibgadfaa.B
