/- The law SpanOne's types, read as Lean values: each opener is a plain lemma; no condition. -/
import Derived.Test.YtkpbhkejfaejhaaRows
import Derived.Test.YtkpbhkejfaejhaaA0
import Derived.Test.YtkpbhkejfaejhaaA6
import Derived.Test.YtkpbhkejfaejhaaOpen
import Derived.KernelRfl
namespace Go.Proofs.Ytkpbhkejfaejhaa.A
open Go.RowKit Go.Proofs.Ytkpbhkejfaejhaa.Open Go.Proofs.YtkpbhkejfaejhaaW.PrintWords
set_option linter.unusedVariables false
def gs30_1 (p : (Int)) : Prop := (Num .i64) p
def gs30_0 (p : (Int) × (Int)) : Prop := (Num .i64) p.1 ∧ gs30_1 p.2
def g30 (x : S30) : Prop := gs30_0 (x.f0, x.f1)
theorem at30 (n : Nat) : At Try.prog n 30 k30 g30 := At.struct (G := gs30_0) Try.underlying30 (by kernel_rfl) (fun m _ => (Fs.cons' (G := (Num .i64)) (G' := gs30_1) rfl rfl rfl (At.int Try.underlying3 (by kernel_rfl)) (Fs.one' (G := gs30_1) rfl rfl (At.int Try.underlying3 (by kernel_rfl))))) (fun x : S30 => (x.f0, x.f1)) (fun p => (⟨p.1, p.2⟩ : S30)) (fun _ => rfl)
def gs26_2 (p : (List (ByteArray))) : Prop := (Row 16 Str) p
def gs26_1 (p : (List (Int)) × (List (ByteArray))) : Prop := (Row 8 (Num .i64)) p.1 ∧ gs26_2 p.2
def gs26_0 (p : (List (S30)) × (List (Int)) × (List (ByteArray))) : Prop := (Row 16 g30) p.1 ∧ gs26_1 p.2
def g26 (p : (List (S30)) × (List (Int)) × (List (ByteArray))) : Prop := gs26_0 p
theorem at26 (n : Nat) : At Try.prog n 26 (Kd.pair (Kd.slice 30 (k30)) (Kd.pair (Kd.slice 3 (Kd.int .i64)) (Kd.slice 9 (Kd.string)))) g26 := At.fields (G := gs26_0) Try.underlying26 (by kernel_rfl) (fun m _ => (Fs.cons' (G := (Row 16 g30)) (G' := gs26_1) rfl rfl rfl (At.slice Try.underlying22 (by kernel_rfl) (by kernel_rfl) (fun m _ => (at30 m))) (Fs.cons' (G := (Row 8 (Num .i64))) (G' := gs26_2) rfl rfl rfl (At.slice Try.underlying23 (by kernel_rfl) (by kernel_rfl) (fun m _ => (At.int Try.underlying3 (by kernel_rfl)))) (Fs.one' (G := gs26_2) rfl rfl (At.slice Try.underlying24 (by kernel_rfl) (by kernel_rfl) (fun m _ => (At.string Try.underlying9 (by kernel_rfl))))))))
/-- The pure statement. -/
def PureSpanOne : Prop := ∀ (l0_0 : List (S30)) (l0_1 : List (Int)) (l0_2 : List (ByteArray)), (Row 16 g30) l0_0 → (Row 8 (Num .i64)) l0_1 → (Row 16 Str) l0_2 → ∃ k, almagestlaw7_SpanOne.f k l0_0 l0_1 l0_2 = some true
end Go.Proofs.Ytkpbhkejfaejhaa.A
