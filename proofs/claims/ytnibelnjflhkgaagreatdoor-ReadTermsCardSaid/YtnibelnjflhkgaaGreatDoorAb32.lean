/- Runs worked out: a call on nothing labelled only computes; the evaluator. No condition. -/
import Derived.Test.YtnibelnjflhkgaaGreatDoorAb31
namespace Go.Proofs.YtnibelnjflhkgaaGreatDoor.Ab
set_option linter.unusedVariables false
set_option linter.unusedSimpArgs false
open Go.RowKit

theorem ML.mono {g : Gh} {w : World} {g' : Gh} {w' : World} (x : Ext g w g' w') : ∀ {es l}, ML g w es l → ML g' w' es l
  | _, _, .nil => .nil
  | _, _, .cons _ _ _ _ _ hk hv t => .cons _ _ _ _ _ (hk.mono x) (hv.mono x) (ML.mono x t)
theorem BR.mono {g : Gh} {w : World} {g' : Gh} {w' : World} (x : Ext g w g' w') {b : Blk} {c : Nat} (hh : w'.heap[c]? = w.heap[c]?) (h : BR g w b c) : BR g' w' b c := by
  cases b with
  | cells cs => obtain ⟨vs, us, e, fr, h1, h2, h3⟩ := h; exact ⟨vs, us, e, fr, hh.trans h1, h2.mono x, h3⟩
  | map es => obtain ⟨l, k, h1, h2, h3⟩ := h; exact ⟨l, k, hh.trans h1, ML.mono x h2, h3⟩
theorem cell_heap {w w' : World} {b j : Nat} (h : w'.heap[b]? = w.heap[b]?) : w'.cell? ⟨b, j, none⟩ = w.cell? ⟨b, j, none⟩ := by
  unfold World.cell?
  simp only [h]
/-- What is shown of a call with nothing labelled holds with anything labelled beside. -/
theorem pfn_of_empty {P : Program} {f : FuncId} {args : List AV} {r : AV} {bk0 bk1 : Nat → Blk} (hl : labL 0 args = true) (hF : Fn P f args ⟨0, bk0⟩ r ⟨0, bk1⟩) : PFn P f args r := by
  intro h
  refine ⟨hF.1, fun vs w g hlen hs hab => ?_⟩
  have hargs : ∀ i, labOK 0 (argsF args i) = true := fun i => by
    unfold argsF
    rw [List.getD_eq_getElem?_getD]
    cases hi : args[i]? with
    | none => rfl
    | some a => exact labL_all.1 hl a (List.mem_of_getElem? hi)
  have hs0 : SR ⟨argsF args, ⟨0, bk0⟩⟩ (argsV vs) w { g with n := 0 } := by
    refine ⟨rfl, fun i => (drop_all 0).1 (hs.fr i) (hargs i), fun l hl => absurd hl (Nat.not_lt_zero _), fun l l' hl => absurd hl (Nat.not_lt_zero _), fun b o hG => ⟨(hs.G b o hG).1, fun l hl => absurd hl (Nat.not_lt_zero _)⟩, fun i => ?_, fun l j cs av v hl => absurd hl (Nat.not_lt_zero _), fun p q b hp hq => ?_⟩
    · intro sz xs b o len cap e1 e2
      obtain ⟨k1, k2, k3, k4⟩ := hs.tipS i sz xs b o len cap e1 e2
      exact ⟨k1, k2, k3, fun l hl => absurd hl (Nat.not_lt_zero _)⟩
    · cases p with
      | cell l j => exact absurd hp.1 (Nat.not_lt_zero _)
      | slot i =>
        cases q with
        | cell l j => exact absurd hq.1 (Nat.not_lt_zero _)
        | slot i' => exact hs.one (.slot i) (.slot i') b hp hq
  have own0 : ∀ b, OwnB ⟨argsF args, ⟨0, bk0⟩⟩ (argsV vs) w { g with n := 0 } b → ∃ i, Own ⟨argsF args, h⟩ (argsV vs) w g (.slot i) b := fun b ⟨p, hp⟩ => by
    cases p with
    | slot i => exact ⟨i, hp⟩
    | cell l j => exact absurd hp.1 (Nat.not_lt_zero _)
  refine (hF.2 vs w { g with n := 0 } hlen hs0 hab).mono ?_
  rintro e w' ⟨v, g', he, tr⟩
  have n0 : g'.n = 0 := tr.sr.n
  have notO : ∀ l, l < g.n → ¬ OwnB ⟨argsF args, ⟨0, bk0⟩⟩ (argsV vs) w { g with n := 0 } (g.ρ l) := fun l hl ho => by
    obtain ⟨i, hi⟩ := own0 _ ho
    exact (hs.own_lt hi).2 l hl rfl
  have blk : ∀ k, k < w.heap.size → ¬ OwnB ⟨argsF args, ⟨0, bk0⟩⟩ (argsV vs) w { g with n := 0 } k → w'.heap[k]? = w.heap[k]? := fun k h1 h2 => tr.st.blk k h1 (fun l hl => absurd hl (Nat.not_lt_zero _)) h2
  have hρ : ∀ l, l < g.n → w'.heap[g.ρ l]? = w.heap[g.ρ l]? := fun l hl => blk _ (hs.size_ρ hl) (notO l hl)
  let g2 : Gh := ⟨g.n, g'.G, g.ρ⟩
  have x1 : Ext g' w' g2 w' := ⟨by omega, fun l hl => by omega, fun _ _ h => h, fun _ _ _ => rfl⟩
  have x2 : Ext g w g2 w' := ⟨Nat.le_refl _, fun _ _ => rfl, fun b o hG => tr.st.G b o hG, fun b o hG => tr.st.cell b o hG⟩
  have fresh : ∀ b, OwnB ⟨argsF [r], ⟨0, bk1⟩⟩ (argsV [v]) w' g' b → ∀ l, l < g.n → g.ρ l ≠ b := fun b ho l hl e => by
    subst e
    rcases tr.ow _ ho with h1 | h1
    · exact notO l hl h1
    · have := hs.size_ρ hl; omega
  have cellO : ∀ l j b, Own ⟨argsF [r], h⟩ (argsV [v]) w' g2 (.cell l j) b → Own ⟨argsF args, h⟩ (argsV vs) w g (.cell l j) b := by
    rintro l j b ⟨hl, cs, av, u, e1, e2, e3, e4⟩
    have hl' : l < g.n := by rw [hs.n]; exact hl
    exact ⟨hl, cs, av, u, e1, e2, (cell_heap (hρ l hl')).symm.trans e3, e4⟩
  have noslot : ∀ l j b, Own ⟨argsF args, h⟩ (argsV vs) w g (.cell l j) b → ¬ OwnB ⟨argsF args, ⟨0, bk0⟩⟩ (argsV vs) w { g with n := 0 } b := fun l j b ho hb => by
    obtain ⟨i, hi⟩ := own0 b hb
    cases hs.one _ _ _ ho hi
  refine ⟨v, g2, he, ⟨?_, ?_, ?_⟩⟩
  · refine ⟨hs.n, fun i => (tr.sr.fr i).mono x1, fun l hl => BR.mono x2 (hρ l hl) (hs.bk l hl), hs.inj, fun b o hG => ⟨(tr.sr.G b o hG).1, fun l hl e => ?_⟩, fun i => ?_, fun l j cs av u hl e1 e2 e3 => ?_, fun p q b hp hq => ?_⟩
    · subst e
      rcases tr.st.newG _ _ hG with h1 | h1 | h1
      · exact (hs.G _ _ h1).2 l hl rfl
      · exact absurd (hs.size_ρ hl) (Nat.not_lt.2 h1)
      · exact notO l hl h1
    · intro sz xs b o len cap e1 e2
      obtain ⟨k1, k2, k3, k4⟩ := tr.sr.tipS i sz xs b o len cap e1 e2
      exact ⟨k1, k2, k3, fun l hl => fresh b ⟨.slot i, ⟨sz, xs, o, len, cap, e1, e2⟩⟩ l hl⟩
    · have e3' : w.cell? ⟨g.ρ l, j, none⟩ = some u := (cell_heap (hρ l hl)).symm.trans e3
      intro sz xs b o len cap e4 e5
      obtain ⟨k1, ⟨cur, et, k2, k3⟩, k4, k5⟩ := hs.tipC l j cs av u hl e1 e2 e3' sz xs b o len cap e4 e5
      have ho : Own ⟨argsF args, h⟩ (argsV vs) w g (.cell l j) b := ⟨hs.n ▸ hl, cs, av, u, e1, e2, e3', ⟨sz, xs, o, len, cap, e4, e5⟩⟩
      have hb := noslot l j b ho
      have hlt := (hs.own_lt ho).1
      refine ⟨k1, ⟨cur, et, (blk b hlt hb).trans k2, k3⟩, fun q hq hG => ?_, k5⟩
      rcases tr.st.newG _ _ hG with h1 | h1 | h1
      · exact k4 q hq h1
      · omega
      · exact hb h1
    · cases p with
      | slot i =>
        cases q with
        | slot i' => exact tr.sr.one (.slot i) (.slot i') b hp hq
        | cell l j =>
          exfalso
          have ho := cellO l j b hq
          rcases tr.ow b ⟨.slot i, hp⟩ with h1 | h1
          · exact noslot l j b ho h1
          · have := (hs.own_lt ho).1; omega
      | cell l j =>
        have ho := cellO l j b hp
        cases q with
        | slot i =>
          exfalso
          rcases tr.ow b ⟨.slot i, hq⟩ with h1 | h1
          · exact noslot l j b ho h1
          · have := (hs.own_lt ho).1; omega
        | cell l' j' => exact hs.one _ _ b ho (cellO l' j' b hq)
  · refine { x2 with os := tr.st.os, tape := tr.st.tape, output := tr.st.output, size := tr.st.size, blk := fun k h1 h2 h3 => blk k h1 (fun hb => h3 ?_), newG := fun b o hG => ?_, newρ := fun l h1 h2 => absurd h2 (by show ¬ l < g.n; omega) }
    · obtain ⟨i, hi⟩ := own0 k hb; exact ⟨.slot i, hi⟩
    · rcases tr.st.newG _ _ hG with h1 | h1 | h1
      · exact .inl h1
      · exact .inr (.inl h1)
      · obtain ⟨i, hi⟩ := own0 b h1; exact .inr (.inr ⟨.slot i, hi⟩)
  · rintro b ⟨p, hp⟩
    cases p with
    | slot i =>
      rcases tr.ow b ⟨.slot i, hp⟩ with h1 | h1
      · obtain ⟨i, hi⟩ := own0 b h1; exact .inl ⟨.slot i, hi⟩
      · exact .inr h1
    | cell l j => exact .inl ⟨_, cellO l j b hp⟩
end Go.Proofs.YtnibelnjflhkgaaGreatDoor.Ab
