/- The law TermTells's types, read as Lean values: each opener is a plain lemma; no condition. -/
import Derived.Test.YthaoooohomfkcaaRows
import Derived.Test.YthaoooohomfkcaaA0
import Derived.Test.YthaoooohomfkcaaC11
import Derived.Test.YthaoooohomfkcaaOpen
import Derived.KernelRfl
namespace Go.Proofs.Ythaoooohomfkcaa.C
open Go.RowKit Go.Proofs.Ythaoooohomfkcaa.Open Go.Proofs.YthaoooohomfkcaaW.PrintWords Go.Proofs.Ythaoooohomfkcaa.A
set_option linter.unusedVariables false
inductive g31 : S31 → Prop where
  | mk (x : S31) (h0 : (Num .i64) x.f0) (h1 : Str x.f1) (h2 : (Num .i64) x.f2) (h3a : x.f3.length * 56 ≤ 140737488351232) (h3b : x.f3.length ≤ 9223372036854775807) (h3 : ∀ y ∈ x.f3, g31 y) : g31 x
def gs31_3 (p : (List (S31))) : Prop := (Row 56 g31) p
def gs31_2 (p : (Int) × (List (S31))) : Prop := (Num .i64) p.1 ∧ gs31_3 p.2
def gs31_1 (p : (ByteArray) × (Int) × (List (S31))) : Prop := Str p.1 ∧ gs31_2 p.2
def gs31_0 (p : (Int) × (ByteArray) × (Int) × (List (S31))) : Prop := (Num .i64) p.1 ∧ gs31_1 p.2
theorem at31 (n : Nat) : At Try.prog n 31 k31 g31 := At.fix (G := g31) (by kernel_rfl) (fun n d h => (At.struct (G := gs31_0) Try.underlying31 (show Try.prog.cellsOf 31 = 4 by kernel_rfl) (fun m hm => (Fs.cons' (G := (Num .i64)) (G' := gs31_1) rfl rfl rfl (At.int Try.underlying3 (by kernel_rfl)) (Fs.cons' (G := Str) (G' := gs31_2) rfl rfl rfl (At.string Try.underlying9 (by kernel_rfl)) (Fs.cons' (G := (Num .i64)) (G' := gs31_3) rfl rfl rfl (At.int Try.underlying3 (by kernel_rfl)) (Fs.one' (G := gs31_3) rfl rfl (At.slice Try.underlying22 (by kernel_rfl) (by kernel_rfl) (fun k hk => h k (by omega)))))))) (fun x : S31 => (x.f0, x.f1, x.f2, x.f3)) (fun p => (⟨p.1, p.2.1, p.2.2.1, p.2.2.2⟩ : S31)) (fun _ => rfl)).imp (fun x ⟨a0, a1, a2, a3⟩ => .mk x a0 a1 a2 a3.1 a3.2.1 a3.2.2)) n
def gs25_1 (p : (List (ByteArray))) : Prop := (Row 16 Str) p
def gs25_0 (p : (List (S31)) × (List (ByteArray))) : Prop := (Row 56 g31) p.1 ∧ gs25_1 p.2
def g25 (p : (List (S31)) × (List (ByteArray))) : Prop := gs25_0 p
theorem at25 (n : Nat) : At Try.prog n 25 (Kd.pair (Kd.slice 31 (k31)) (Kd.slice 9 (Kd.string))) g25 := At.fields (G := gs25_0) Try.underlying25 (by kernel_rfl) (fun m _ => (Fs.cons' (G := (Row 56 g31)) (G' := gs25_1) rfl rfl rfl (At.slice Try.underlying22 (by kernel_rfl) (by kernel_rfl) (fun m _ => (at31 m))) (Fs.one' (G := gs25_1) rfl rfl (At.slice Try.underlying23 (by kernel_rfl) (by kernel_rfl) (fun m _ => (At.string Try.underlying9 (by kernel_rfl)))))))
/-- The pure statement. -/
def PureTermTells : Prop := ∀ (l0_0 : List (S31)) (l0_1 : List (ByteArray)), (Row 56 g31) l0_0 → (Row 16 Str) l0_1 → ∃ k, almagestlaw1_TermTells.f k l0_0 l0_1 = some true
end Go.Proofs.Ythaoooohomfkcaa.C
