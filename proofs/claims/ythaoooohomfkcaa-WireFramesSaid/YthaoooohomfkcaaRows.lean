/-
  NARROWER THAN 'FOR EVERY INPUT', by the rows' own cells (each row's printed sentence says how): TermTotal: loops · TermTells: loops · TermOrders: loops · WireNumbers: loops · WireTicks: loops · WireLong: loops · WireBack: loops · WireFrames: loops.
  DERIVED. THE GIVEN ROWS OF THIS SEAT. 8 by the template 'for every input the law returns true; each argument reads behind the call as it read before'; 0 by the template 'total and deterministic' (their statements: YthaoooohomfkcaaTotals.lean).
  GIVEN WITH THE SEED: the statements are not yours to turn. If you find one false, say at which input.
  Laid BY PROGRAM, IN A SANDBOX (cutbox-rows.mjs): the forced cells as the released guide's own fill.sh prints them over the translation 7093abb82ae9ca9e… (all of the seat's roots in one cut). By AI agents, Wed Nov 11 2026. No macro, syntax, notation, axiom, sorry.
-/
import Derived.Test.YthaoooohomfkcaaChecked
import GoSem.Claim
import GoSem.ClaimJoined
import GoSem.ClaimMapViews
import Derived.JoinedTies
import Derived.KernelRfl
namespace Go.Proofs.Ythaoooohomfkcaa
/- THE CELL 'sum', in the pinned program and in every row, IS THE sha256 OF THE DUMP (.gsa) THAT YthaoooohomfkcaaProg.lean LOADS. Nothing in Lean hashes anything: it is a label: what it is worth is what the hold of that sum in a sandbox is worth. -/
noncomputable def Try.pinned : Pinned := { name := "ythaoooohomfkcaa", sum := "7093abb82ae9ca9e3f271f1f9440245b66f28df6a4d603190adbd4d55e5adf5b", checked := Try.checked }
namespace Rows
def none {H : Type} : Left H := { results := [], args := [] }

/-- 'almagestlaw1.TermTotal': WHATEVER THE INPUT: true; the input reads as it did. -/
def termTotalSpec : ChangeSpec := { name := "termTotal", fn := fun _ => fun
  | [d] => { results := [.lit (.bool true)], args := [d] }
  | _ => none }
def termTotalRow : OpenClaim := { program := "ythaoooohomfkcaa", sum := "7093abb82ae9ca9e3f271f1f9440245b66f28df6a4d603190adbd4d55e5adf5b", func := "almagest/almagestlaw1.TermTotal", spec := "termTotal", inPlace := ["internal/bytealg.abigen_runtime_cmpstring"], unfollowed := true, recurses := true, loops := true, apart := false }
def TermTotalSaid : Prop := termTotalRow.holds Try.pinned (OpenSpec.ofChange termTotalSpec)

/-- ITS FALSE NEIGHBOUR: 'it returns false'. Refute it at one input. -/
def termTotalWrong : ChangeSpec := { name := "termTotal", fn := fun _ => fun
  | [d] => { results := [.lit (.bool false)], args := [d] }
  | _ => none }
def TermTotalWrongFalsely : Prop := termTotalRow.holds Try.pinned (OpenSpec.ofChange termTotalWrong)

/-- 'almagestlaw1.TermTells': WHATEVER THE INPUT: true; the input reads as it did. -/
def termTellsSpec : ChangeSpec := { name := "termTells", fn := fun _ => fun
  | [d] => { results := [.lit (.bool true)], args := [d] }
  | _ => none }
def termTellsRow : OpenClaim := { program := "ythaoooohomfkcaa", sum := "7093abb82ae9ca9e3f271f1f9440245b66f28df6a4d603190adbd4d55e5adf5b", func := "almagest/almagestlaw1.TermTells", spec := "termTells", unfollowed := true, recurses := true, loops := true, apart := false }
def TermTellsSaid : Prop := termTellsRow.holds Try.pinned (OpenSpec.ofChange termTellsSpec)

/-- ITS FALSE NEIGHBOUR: 'it returns false'. Refute it at one input. -/
def termTellsWrong : ChangeSpec := { name := "termTells", fn := fun _ => fun
  | [d] => { results := [.lit (.bool false)], args := [d] }
  | _ => none }
def TermTellsWrongFalsely : Prop := termTellsRow.holds Try.pinned (OpenSpec.ofChange termTellsWrong)

/-- 'almagestlaw1.TermOrders': WHATEVER THE INPUT: true; the input reads as it did. -/
def termOrdersSpec : ChangeSpec := { name := "termOrders", fn := fun _ => fun
  | [d] => { results := [.lit (.bool true)], args := [d] }
  | _ => none }
def termOrdersRow : OpenClaim := { program := "ythaoooohomfkcaa", sum := "7093abb82ae9ca9e3f271f1f9440245b66f28df6a4d603190adbd4d55e5adf5b", func := "almagest/almagestlaw1.TermOrders", spec := "termOrders", inPlace := ["internal/bytealg.abigen_runtime_cmpstring"], unfollowed := true, recurses := true, loops := true, apart := false }
def TermOrdersSaid : Prop := termOrdersRow.holds Try.pinned (OpenSpec.ofChange termOrdersSpec)

/-- ITS FALSE NEIGHBOUR: 'it returns false'. Refute it at one input. -/
def termOrdersWrong : ChangeSpec := { name := "termOrders", fn := fun _ => fun
  | [d] => { results := [.lit (.bool false)], args := [d] }
  | _ => none }
def TermOrdersWrongFalsely : Prop := termOrdersRow.holds Try.pinned (OpenSpec.ofChange termOrdersWrong)

/-- 'almagestlaw20.WireNumbers': WHATEVER THE INPUT: true; the input reads as it did. -/
def wireNumbersSpec : ChangeSpec := { name := "wireNumbers", fn := fun _ => fun
  | [d] => { results := [.lit (.bool true)], args := [d] }
  | _ => none }
def wireNumbersRow : OpenClaim := { program := "ythaoooohomfkcaa", sum := "7093abb82ae9ca9e3f271f1f9440245b66f28df6a4d603190adbd4d55e5adf5b", func := "almagest/almagestlaw20.WireNumbers", spec := "wireNumbers", unfollowed := true, recurses := true, loops := true, apart := false }
def WireNumbersSaid : Prop := wireNumbersRow.holds Try.pinned (OpenSpec.ofChange wireNumbersSpec)

/-- ITS FALSE NEIGHBOUR: 'it returns false'. Refute it at one input. -/
def wireNumbersWrong : ChangeSpec := { name := "wireNumbers", fn := fun _ => fun
  | [d] => { results := [.lit (.bool false)], args := [d] }
  | _ => none }
def WireNumbersWrongFalsely : Prop := wireNumbersRow.holds Try.pinned (OpenSpec.ofChange wireNumbersWrong)

/-- 'almagestlaw20.WireTicks': WHATEVER THE INPUT: true; the input reads as it did. -/
def wireTicksSpec : ChangeSpec := { name := "wireTicks", fn := fun _ => fun
  | [d] => { results := [.lit (.bool true)], args := [d] }
  | _ => none }
def wireTicksRow : OpenClaim := { program := "ythaoooohomfkcaa", sum := "7093abb82ae9ca9e3f271f1f9440245b66f28df6a4d603190adbd4d55e5adf5b", func := "almagest/almagestlaw20.WireTicks", spec := "wireTicks", unfollowed := true, recurses := true, loops := true, apart := false }
def WireTicksSaid : Prop := wireTicksRow.holds Try.pinned (OpenSpec.ofChange wireTicksSpec)

/-- ITS FALSE NEIGHBOUR: 'it returns false'. Refute it at one input. -/
def wireTicksWrong : ChangeSpec := { name := "wireTicks", fn := fun _ => fun
  | [d] => { results := [.lit (.bool false)], args := [d] }
  | _ => none }
def WireTicksWrongFalsely : Prop := wireTicksRow.holds Try.pinned (OpenSpec.ofChange wireTicksWrong)

/-- 'almagestlaw20.WireLong': WHATEVER THE INPUT: true; the input reads as it did. -/
def wireLongSpec : ChangeSpec := { name := "wireLong", fn := fun _ => fun
  | [d] => { results := [.lit (.bool true)], args := [d] }
  | _ => none }
def wireLongRow : OpenClaim := { program := "ythaoooohomfkcaa", sum := "7093abb82ae9ca9e3f271f1f9440245b66f28df6a4d603190adbd4d55e5adf5b", func := "almagest/almagestlaw20.WireLong", spec := "wireLong", unfollowed := true, recurses := true, loops := true, apart := false }
def WireLongSaid : Prop := wireLongRow.holds Try.pinned (OpenSpec.ofChange wireLongSpec)

/-- ITS FALSE NEIGHBOUR: 'it returns false'. Refute it at one input. -/
def wireLongWrong : ChangeSpec := { name := "wireLong", fn := fun _ => fun
  | [d] => { results := [.lit (.bool false)], args := [d] }
  | _ => none }
def WireLongWrongFalsely : Prop := wireLongRow.holds Try.pinned (OpenSpec.ofChange wireLongWrong)

/-- 'almagestlaw20.WireBack': WHATEVER THE INPUT: true; the input reads as it did. -/
def wireBackSpec : ChangeSpec := { name := "wireBack", fn := fun _ => fun
  | [d] => { results := [.lit (.bool true)], args := [d] }
  | _ => none }
def wireBackRow : OpenClaim := { program := "ythaoooohomfkcaa", sum := "7093abb82ae9ca9e3f271f1f9440245b66f28df6a4d603190adbd4d55e5adf5b", func := "almagest/almagestlaw20.WireBack", spec := "wireBack", unfollowed := true, recurses := true, loops := true, apart := false }
def WireBackSaid : Prop := wireBackRow.holds Try.pinned (OpenSpec.ofChange wireBackSpec)

/-- ITS FALSE NEIGHBOUR: 'it returns false'. Refute it at one input. -/
def wireBackWrong : ChangeSpec := { name := "wireBack", fn := fun _ => fun
  | [d] => { results := [.lit (.bool false)], args := [d] }
  | _ => none }
def WireBackWrongFalsely : Prop := wireBackRow.holds Try.pinned (OpenSpec.ofChange wireBackWrong)

/-- 'almagestlaw20.WireFrames': WHATEVER THE INPUT: true; the input reads as it did. -/
def wireFramesSpec : ChangeSpec := { name := "wireFrames", fn := fun _ => fun
  | [d] => { results := [.lit (.bool true)], args := [d] }
  | _ => none }
def wireFramesRow : OpenClaim := { program := "ythaoooohomfkcaa", sum := "7093abb82ae9ca9e3f271f1f9440245b66f28df6a4d603190adbd4d55e5adf5b", func := "almagest/almagestlaw20.WireFrames", spec := "wireFrames", unfollowed := true, recurses := true, loops := true, apart := false }
def WireFramesSaid : Prop := wireFramesRow.holds Try.pinned (OpenSpec.ofChange wireFramesSpec)

/-- ITS FALSE NEIGHBOUR: 'it returns false'. Refute it at one input. -/
def wireFramesWrong : ChangeSpec := { name := "wireFrames", fn := fun _ => fun
  | [d] => { results := [.lit (.bool false)], args := [d] }
  | _ => none }
def WireFramesWrongFalsely : Prop := wireFramesRow.holds Try.pinned (OpenSpec.ofChange wireFramesWrong)

/- THE SECOND FORM. 'bulk': how many values and letters a reading holds, each counted each time it is reached (what is shared counts as often as it is met; a slice's spare places count too). A statement '..UptoSaid' is the law's where the arguments, and the package variables that the reading takes, are together of bulk at most 1048576: NARROWER than '..Said'. Prove '..Said' where nothing that the law and all that it calls make is longer than what came in: it says more and counts as full. Else prove '..UptoSaid'. A law counts once. -/
mutual
def uptoBulk {H : Type} : DataW H → Nat
  | .lit (.string bytes) => bytes.length + 1
  | .lit _ => 1
  | .nil => 1
  | .ptr d => uptoBulk d + 1
  | .slice elems spare => uptoBulkAll elems + uptoBulkAll spare + 1
  | .agg parts => uptoBulkAll parts + 1
  | .iface _ d => uptoBulk d + 1
  | .map entries => uptoBulkEntries entries + 1
  | .held _ => 1
def uptoBulkAll {H : Type} : List (DataW H) → Nat
  | [] => 0
  | d :: r => uptoBulk d + uptoBulkAll r
def uptoBulkEntries {H : Type} : List (Lit × DataW H) → Nat
  | [] => 0
  | x :: r => uptoBulkEntry x + uptoBulkEntries r
def uptoBulkEntry {H : Type} : Lit × DataW H → Nat
  | (.string bytes, d) => bytes.length + uptoBulk d + 1
  | (_, d) => uptoBulk d + 1
 end
def uptoSmall : (H : Type) → List (DataW H) → Bool := fun _ ds => decide (uptoBulkAll ds ≤ 1048576)
def OpenSpec.upto (s : _root_.Go.ChangeSpec) : _root_.Go.OpenSpec := { _root_.Go.OpenSpec.ofChange s with cond := some uptoSmall }

/-- 'almagestlaw1.TermTotal', WHERE WHAT IT READS IS OF BULK AT MOST 1048576: true; the input reads as it did. -/
def termTotalUptoRow : OpenClaim := { program := "ythaoooohomfkcaa", sum := "7093abb82ae9ca9e3f271f1f9440245b66f28df6a4d603190adbd4d55e5adf5b", func := "almagest/almagestlaw1.TermTotal", spec := "termTotal", inPlace := ["internal/bytealg.abigen_runtime_cmpstring"], unfollowed := true, recurses := true, loops := true, apart := false, narrowed := true }
def TermTotalUptoSaid : Prop := termTotalUptoRow.holds Try.pinned (OpenSpec.upto termTotalSpec)

/-- 'almagestlaw1.TermTells', WHERE WHAT IT READS IS OF BULK AT MOST 1048576: true; the input reads as it did. -/
def termTellsUptoRow : OpenClaim := { program := "ythaoooohomfkcaa", sum := "7093abb82ae9ca9e3f271f1f9440245b66f28df6a4d603190adbd4d55e5adf5b", func := "almagest/almagestlaw1.TermTells", spec := "termTells", unfollowed := true, recurses := true, loops := true, apart := false, narrowed := true }
def TermTellsUptoSaid : Prop := termTellsUptoRow.holds Try.pinned (OpenSpec.upto termTellsSpec)

/-- 'almagestlaw1.TermOrders', WHERE WHAT IT READS IS OF BULK AT MOST 1048576: true; the input reads as it did. -/
def termOrdersUptoRow : OpenClaim := { program := "ythaoooohomfkcaa", sum := "7093abb82ae9ca9e3f271f1f9440245b66f28df6a4d603190adbd4d55e5adf5b", func := "almagest/almagestlaw1.TermOrders", spec := "termOrders", inPlace := ["internal/bytealg.abigen_runtime_cmpstring"], unfollowed := true, recurses := true, loops := true, apart := false, narrowed := true }
def TermOrdersUptoSaid : Prop := termOrdersUptoRow.holds Try.pinned (OpenSpec.upto termOrdersSpec)

/-- 'almagestlaw20.WireNumbers', WHERE WHAT IT READS IS OF BULK AT MOST 1048576: true; the input reads as it did. -/
def wireNumbersUptoRow : OpenClaim := { program := "ythaoooohomfkcaa", sum := "7093abb82ae9ca9e3f271f1f9440245b66f28df6a4d603190adbd4d55e5adf5b", func := "almagest/almagestlaw20.WireNumbers", spec := "wireNumbers", unfollowed := true, recurses := true, loops := true, apart := false, narrowed := true }
def WireNumbersUptoSaid : Prop := wireNumbersUptoRow.holds Try.pinned (OpenSpec.upto wireNumbersSpec)

/-- 'almagestlaw20.WireTicks', WHERE WHAT IT READS IS OF BULK AT MOST 1048576: true; the input reads as it did. -/
def wireTicksUptoRow : OpenClaim := { program := "ythaoooohomfkcaa", sum := "7093abb82ae9ca9e3f271f1f9440245b66f28df6a4d603190adbd4d55e5adf5b", func := "almagest/almagestlaw20.WireTicks", spec := "wireTicks", unfollowed := true, recurses := true, loops := true, apart := false, narrowed := true }
def WireTicksUptoSaid : Prop := wireTicksUptoRow.holds Try.pinned (OpenSpec.upto wireTicksSpec)

/-- 'almagestlaw20.WireLong', WHERE WHAT IT READS IS OF BULK AT MOST 1048576: true; the input reads as it did. -/
def wireLongUptoRow : OpenClaim := { program := "ythaoooohomfkcaa", sum := "7093abb82ae9ca9e3f271f1f9440245b66f28df6a4d603190adbd4d55e5adf5b", func := "almagest/almagestlaw20.WireLong", spec := "wireLong", unfollowed := true, recurses := true, loops := true, apart := false, narrowed := true }
def WireLongUptoSaid : Prop := wireLongUptoRow.holds Try.pinned (OpenSpec.upto wireLongSpec)

/-- 'almagestlaw20.WireBack', WHERE WHAT IT READS IS OF BULK AT MOST 1048576: true; the input reads as it did. -/
def wireBackUptoRow : OpenClaim := { program := "ythaoooohomfkcaa", sum := "7093abb82ae9ca9e3f271f1f9440245b66f28df6a4d603190adbd4d55e5adf5b", func := "almagest/almagestlaw20.WireBack", spec := "wireBack", unfollowed := true, recurses := true, loops := true, apart := false, narrowed := true }
def WireBackUptoSaid : Prop := wireBackUptoRow.holds Try.pinned (OpenSpec.upto wireBackSpec)

/-- 'almagestlaw20.WireFrames', WHERE WHAT IT READS IS OF BULK AT MOST 1048576: true; the input reads as it did. -/
def wireFramesUptoRow : OpenClaim := { program := "ythaoooohomfkcaa", sum := "7093abb82ae9ca9e3f271f1f9440245b66f28df6a4d603190adbd4d55e5adf5b", func := "almagest/almagestlaw20.WireFrames", spec := "wireFrames", unfollowed := true, recurses := true, loops := true, apart := false, narrowed := true }
def WireFramesUptoSaid : Prop := wireFramesUptoRow.holds Try.pinned (OpenSpec.upto wireFramesSpec)

end Rows
end Go.Proofs.Ythaoooohomfkcaa
