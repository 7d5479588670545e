/- A contract over plain values that leaves all old memory as it is, turned. No condition. -/
import Derived.Test.YtcfjllbibgadfaaAb26
import Derived.Below
namespace Go.Proofs.Ytcfjllbibgadfaa.Ab
set_option linter.unusedVariables false
set_option linter.unusedSimpArgs false
open Go.RowKit
section
variable {P : Program}
theorem pfn_below {f : FuncId} {args : List AV} {r : AV} (he : enterOK P f = true) (hr : ∀ v b, ¬ OwnV r v b)
    (H : ∀ (vs : List Value) (w : World) (g : Gh), vs.length = args.length → (∀ i, VR g w (argsF args i) (argsV vs i)) → ∃ v, (∀ w', VR g w' r v) ∧ Calls P f ⟨vs⟩ w (fun e w' => e = .returned v ∧ Below w.heap.size w w')) : PFn P f args r := by
  intro h
  refine ⟨he, fun vs w g hl hs => ?_⟩
  obtain ⟨v, hv, hc⟩ := H vs w g hl hs.fr
  refine hc.mono ?_
  rintro e w' ⟨rfl, bel⟩
  have K := SR.args (fA := argsF [r]) (vA := argsV [v]) (j0 := 0) (os := none) hs (fun i => by
    cases i with
    | zero => exact hv w
    | succ i => exact VR.junk _) (fun i b ho => by
    cases i with
    | zero => exact absurd ho (hr _ _)
    | succ i => obtain ⟨sz, xs, o, len, cap, e1, e2⟩ := ho; cases e1)
  have hcell : ∀ b o, g.G b o → w'.cell? ⟨b, o, none⟩ = w.cell? ⟨b, o, none⟩ := fun b o hb => World.cell?_of_block (a := ⟨b, o, none⟩) (bel.block b (hs.G b o hb).1)
  have F := SR.frame K.1 (g' := g) (w' := w') rfl (fun _ _ => rfl) (fun _ _ h => h) (fun _ _ h => .inl h) bel.size hcell (fun l hl => bel.block _ (K.1.size_ρ hl)) (fun p b ho => bel.block _ (K.1.own_lt ho).1)
  refine ⟨v, g, rfl, F, ⟨⟨Nat.le_refl _, fun _ _ => rfl, fun _ _ h => h, hcell⟩, bel.os, bel.tape, bel.output, bel.size, fun k hk _ _ => bel.block k hk, fun b o h => .inl h, fun l h1 h2 => absurd h1 (Nat.not_le.2 h2)⟩, fun b hb => ?_⟩
  obtain ⟨p, hp⟩ := hb
  cases p with
  | slot i =>
    cases i with
    | zero => exact absurd hp (hr _ _)
    | succ i => obtain ⟨sz, xs, o, len, cap, e1, e2⟩ := hp; cases e1
  | cell l j =>
    obtain ⟨hl, cs, av, v, h1, h2, h3, h4⟩ := hp
    refine .inl ⟨.cell l j, hl, cs, av, v, h1, h2, ?_, h4⟩
    rwa [World.cell?_of_block (a := ⟨g.ρ l, j, none⟩) (bel.block _ (K.1.size_ρ (by rw [hs.n]; exact hl)))] at h3
theorem vals3 {vs : List Value} (h : vs.length = 3) : vs = [argsV vs 0, argsV vs 1, argsV vs 2] := by
  match vs, h with
  | [a, b, c], _ => rfl
theorem vals1 {vs : List Value} (h : vs.length = 1) : vs = [argsV vs 0] := by
  match vs, h with
  | [a], _ => rfl
theorem int_val {g : Gh} {w : World} {k : IntKind} {n : Int} {v : Value} (h : VR g w (.int k n) v) : v = .int k n := by cases h; rfl
theorem agg_no (cs : List AV) (v : Value) (b : Nat) : ¬ OwnV (.agg cs) v b := by rintro ⟨sz, xs, o, len, cap, e1, e2⟩; cases e1
theorem tup_no (cs : List AV) (v : Value) (b : Nat) : ¬ OwnV (.tup cs) v b := by rintro ⟨sz, xs, o, len, cap, e1, e2⟩; cases e1
theorem CL_intsOf {g : Gh} {w : World} {k : IntKind} {ns : List Int} {vs : List Value} (h : CL g w (ns.map (AV.int k)) vs) : vs = ns.map (Value.int k) := by
  induction ns generalizing vs with
  | nil => cases h; rfl
  | cons n ns ih =>
    cases h with
    | cons _ _ v vs' h1 h2 t => rw [int_val h2, ih t]; rfl
theorem CL_intsMk {g : Gh} {w : World} (k : IntKind) : ∀ (ns : List Int), CL g w (ns.map (AV.int k)) (ns.map (Value.int k))
  | [] => .nil
  | n :: ns => .cons _ _ _ _ rfl (.int _ _) (CL_intsMk k ns)
end
end Go.Proofs.Ytcfjllbibgadfaa.Ab
