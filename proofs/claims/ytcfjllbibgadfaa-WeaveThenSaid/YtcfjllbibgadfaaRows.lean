/-
  No cell of these rows narrows 'for every input' (looked for: loops, veiled, ifaces, maps, wideKeys, modest, calm, conditions, laid).
  DERIVED. THE GIVEN ROWS OF THIS SEAT. 17 by the template 'for every input the law returns true; each argument reads behind the call as it read before'; 0 by the template 'total and deterministic' (their statements: YtcfjllbibgadfaaTotals.lean).
  GIVEN WITH THE SEED: the statements are not yours to turn. If you find one false, say at which input.
  Laid BY PROGRAM, IN A SANDBOX (cutbox-rows.mjs): the forced cells as the released guide's own fill.sh prints them over the translation 4c0d4c09829e6e4d… (all of the seat's roots in one cut). By AI agents, Wed Nov 11 2026. No macro, syntax, notation, axiom, sorry.
-/
import Derived.Test.YtcfjllbibgadfaaChecked
import GoSem.Claim
import GoSem.ClaimJoined
import GoSem.ClaimMapViews
import Derived.JoinedTies
import Derived.KernelRfl
namespace Go.Proofs.Ytcfjllbibgadfaa
/- THE CELL 'sum', in the pinned program and in every row, IS THE sha256 OF THE DUMP (.gsa) THAT YtcfjllbibgadfaaProg.lean LOADS. Nothing in Lean hashes anything: it is a label: what it is worth is what the hold of that sum in a sandbox is worth. -/
noncomputable def Try.pinned : Pinned := { name := "ytcfjllbibgadfaa", sum := "4c0d4c09829e6e4d3506568a3c9b38f945ac6b7d6f84b103afa020dd3c08f663", checked := Try.checked }
namespace Rows
def none {H : Type} : Left H := { results := [], args := [] }

/-- 'almagestlaw8.WeaveThen': WHATEVER THE INPUT: true; the input reads as it did. -/
def weaveThenSpec : ChangeSpec := { name := "weaveThen", fn := fun _ => fun
  | [d] => { results := [.lit (.bool true)], args := [d] }
  | _ => none }
def weaveThenRow : OpenClaim := { program := "ytcfjllbibgadfaa", sum := "4c0d4c09829e6e4d3506568a3c9b38f945ac6b7d6f84b103afa020dd3c08f663", func := "almagest/almagestlaw8.WeaveThen", spec := "weaveThen", recurses := true, plainKeys := false, apart := false }
def WeaveThenSaid : Prop := weaveThenRow.holds Try.pinned (OpenSpec.ofChange weaveThenSpec)

/-- ITS FALSE NEIGHBOUR: 'it returns false'. Refute it at one input. -/
def weaveThenWrong : ChangeSpec := { name := "weaveThen", fn := fun _ => fun
  | [d] => { results := [.lit (.bool false)], args := [d] }
  | _ => none }
def WeaveThenWrongFalsely : Prop := weaveThenRow.holds Try.pinned (OpenSpec.ofChange weaveThenWrong)

/-- 'almagestlaw8.WeaveBefore': WHATEVER THE INPUT: true; the input reads as it did. -/
def weaveBeforeSpec : ChangeSpec := { name := "weaveBefore", fn := fun _ => fun
  | [d] => { results := [.lit (.bool true)], args := [d] }
  | _ => none }
def weaveBeforeRow : OpenClaim := { program := "ytcfjllbibgadfaa", sum := "4c0d4c09829e6e4d3506568a3c9b38f945ac6b7d6f84b103afa020dd3c08f663", func := "almagest/almagestlaw8.WeaveBefore", spec := "weaveBefore", recurses := true, plainKeys := false, apart := false }
def WeaveBeforeSaid : Prop := weaveBeforeRow.holds Try.pinned (OpenSpec.ofChange weaveBeforeSpec)

/-- ITS FALSE NEIGHBOUR: 'it returns false'. Refute it at one input. -/
def weaveBeforeWrong : ChangeSpec := { name := "weaveBefore", fn := fun _ => fun
  | [d] => { results := [.lit (.bool false)], args := [d] }
  | _ => none }
def WeaveBeforeWrongFalsely : Prop := weaveBeforeRow.holds Try.pinned (OpenSpec.ofChange weaveBeforeWrong)

/-- 'almagestlaw8.WeaveMeets': WHATEVER THE INPUT: true; the input reads as it did. -/
def weaveMeetsSpec : ChangeSpec := { name := "weaveMeets", fn := fun _ => fun
  | [d] => { results := [.lit (.bool true)], args := [d] }
  | _ => none }
def weaveMeetsRow : OpenClaim := { program := "ytcfjllbibgadfaa", sum := "4c0d4c09829e6e4d3506568a3c9b38f945ac6b7d6f84b103afa020dd3c08f663", func := "almagest/almagestlaw8.WeaveMeets", spec := "weaveMeets", recurses := true, plainKeys := false, apart := false }
def WeaveMeetsSaid : Prop := weaveMeetsRow.holds Try.pinned (OpenSpec.ofChange weaveMeetsSpec)

/-- ITS FALSE NEIGHBOUR: 'it returns false'. Refute it at one input. -/
def weaveMeetsWrong : ChangeSpec := { name := "weaveMeets", fn := fun _ => fun
  | [d] => { results := [.lit (.bool false)], args := [d] }
  | _ => none }
def WeaveMeetsWrongFalsely : Prop := weaveMeetsRow.holds Try.pinned (OpenSpec.ofChange weaveMeetsWrong)

/-- 'almagestlaw8.WeaveOverlaps': WHATEVER THE INPUT: true; the input reads as it did. -/
def weaveOverlapsSpec : ChangeSpec := { name := "weaveOverlaps", fn := fun _ => fun
  | [d] => { results := [.lit (.bool true)], args := [d] }
  | _ => none }
def weaveOverlapsRow : OpenClaim := { program := "ytcfjllbibgadfaa", sum := "4c0d4c09829e6e4d3506568a3c9b38f945ac6b7d6f84b103afa020dd3c08f663", func := "almagest/almagestlaw8.WeaveOverlaps", spec := "weaveOverlaps", recurses := true, plainKeys := false, apart := false }
def WeaveOverlapsSaid : Prop := weaveOverlapsRow.holds Try.pinned (OpenSpec.ofChange weaveOverlapsSpec)

/-- ITS FALSE NEIGHBOUR: 'it returns false'. Refute it at one input. -/
def weaveOverlapsWrong : ChangeSpec := { name := "weaveOverlaps", fn := fun _ => fun
  | [d] => { results := [.lit (.bool false)], args := [d] }
  | _ => none }
def WeaveOverlapsWrongFalsely : Prop := weaveOverlapsRow.holds Try.pinned (OpenSpec.ofChange weaveOverlapsWrong)

/-- 'almagestlaw8.WeaveStarts': WHATEVER THE INPUT: true; the input reads as it did. -/
def weaveStartsSpec : ChangeSpec := { name := "weaveStarts", fn := fun _ => fun
  | [d] => { results := [.lit (.bool true)], args := [d] }
  | _ => none }
def weaveStartsRow : OpenClaim := { program := "ytcfjllbibgadfaa", sum := "4c0d4c09829e6e4d3506568a3c9b38f945ac6b7d6f84b103afa020dd3c08f663", func := "almagest/almagestlaw8.WeaveStarts", spec := "weaveStarts", recurses := true, plainKeys := false, apart := false }
def WeaveStartsSaid : Prop := weaveStartsRow.holds Try.pinned (OpenSpec.ofChange weaveStartsSpec)

/-- ITS FALSE NEIGHBOUR: 'it returns false'. Refute it at one input. -/
def weaveStartsWrong : ChangeSpec := { name := "weaveStarts", fn := fun _ => fun
  | [d] => { results := [.lit (.bool false)], args := [d] }
  | _ => none }
def WeaveStartsWrongFalsely : Prop := weaveStartsRow.holds Try.pinned (OpenSpec.ofChange weaveStartsWrong)

/-- 'almagestlaw8.WeaveDuring': WHATEVER THE INPUT: true; the input reads as it did. -/
def weaveDuringSpec : ChangeSpec := { name := "weaveDuring", fn := fun _ => fun
  | [d] => { results := [.lit (.bool true)], args := [d] }
  | _ => none }
def weaveDuringRow : OpenClaim := { program := "ytcfjllbibgadfaa", sum := "4c0d4c09829e6e4d3506568a3c9b38f945ac6b7d6f84b103afa020dd3c08f663", func := "almagest/almagestlaw8.WeaveDuring", spec := "weaveDuring", recurses := true, plainKeys := false, apart := false }
def WeaveDuringSaid : Prop := weaveDuringRow.holds Try.pinned (OpenSpec.ofChange weaveDuringSpec)

/-- ITS FALSE NEIGHBOUR: 'it returns false'. Refute it at one input. -/
def weaveDuringWrong : ChangeSpec := { name := "weaveDuring", fn := fun _ => fun
  | [d] => { results := [.lit (.bool false)], args := [d] }
  | _ => none }
def WeaveDuringWrongFalsely : Prop := weaveDuringRow.holds Try.pinned (OpenSpec.ofChange weaveDuringWrong)

/-- 'almagestlaw8.WeaveEnds': WHATEVER THE INPUT: true; the input reads as it did. -/
def weaveEndsSpec : ChangeSpec := { name := "weaveEnds", fn := fun _ => fun
  | [d] => { results := [.lit (.bool true)], args := [d] }
  | _ => none }
def weaveEndsRow : OpenClaim := { program := "ytcfjllbibgadfaa", sum := "4c0d4c09829e6e4d3506568a3c9b38f945ac6b7d6f84b103afa020dd3c08f663", func := "almagest/almagestlaw8.WeaveEnds", spec := "weaveEnds", recurses := true, plainKeys := false, apart := false }
def WeaveEndsSaid : Prop := weaveEndsRow.holds Try.pinned (OpenSpec.ofChange weaveEndsSpec)

/-- ITS FALSE NEIGHBOUR: 'it returns false'. Refute it at one input. -/
def weaveEndsWrong : ChangeSpec := { name := "weaveEnds", fn := fun _ => fun
  | [d] => { results := [.lit (.bool false)], args := [d] }
  | _ => none }
def WeaveEndsWrongFalsely : Prop := weaveEndsRow.holds Try.pinned (OpenSpec.ofChange weaveEndsWrong)

/-- 'almagestlaw8.WeaveEqual': WHATEVER THE INPUT: true; the input reads as it did. -/
def weaveEqualSpec : ChangeSpec := { name := "weaveEqual", fn := fun _ => fun
  | [d] => { results := [.lit (.bool true)], args := [d] }
  | _ => none }
def weaveEqualRow : OpenClaim := { program := "ytcfjllbibgadfaa", sum := "4c0d4c09829e6e4d3506568a3c9b38f945ac6b7d6f84b103afa020dd3c08f663", func := "almagest/almagestlaw8.WeaveEqual", spec := "weaveEqual", recurses := true, plainKeys := false, apart := false }
def WeaveEqualSaid : Prop := weaveEqualRow.holds Try.pinned (OpenSpec.ofChange weaveEqualSpec)

/-- ITS FALSE NEIGHBOUR: 'it returns false'. Refute it at one input. -/
def weaveEqualWrong : ChangeSpec := { name := "weaveEqual", fn := fun _ => fun
  | [d] => { results := [.lit (.bool false)], args := [d] }
  | _ => none }
def WeaveEqualWrongFalsely : Prop := weaveEqualRow.holds Try.pinned (OpenSpec.ofChange weaveEqualWrong)

/-- 'almagestlaw8.WeaveEnded': WHATEVER THE INPUT: true; the input reads as it did. -/
def weaveEndedSpec : ChangeSpec := { name := "weaveEnded", fn := fun _ => fun
  | [d] => { results := [.lit (.bool true)], args := [d] }
  | _ => none }
def weaveEndedRow : OpenClaim := { program := "ytcfjllbibgadfaa", sum := "4c0d4c09829e6e4d3506568a3c9b38f945ac6b7d6f84b103afa020dd3c08f663", func := "almagest/almagestlaw8.WeaveEnded", spec := "weaveEnded", recurses := true, plainKeys := false, apart := false }
def WeaveEndedSaid : Prop := weaveEndedRow.holds Try.pinned (OpenSpec.ofChange weaveEndedSpec)

/-- ITS FALSE NEIGHBOUR: 'it returns false'. Refute it at one input. -/
def weaveEndedWrong : ChangeSpec := { name := "weaveEnded", fn := fun _ => fun
  | [d] => { results := [.lit (.bool false)], args := [d] }
  | _ => none }
def WeaveEndedWrongFalsely : Prop := weaveEndedRow.holds Try.pinned (OpenSpec.ofChange weaveEndedWrong)

/-- 'almagestlaw8.WeaveHolds': WHATEVER THE INPUT: true; the input reads as it did. -/
def weaveHoldsSpec : ChangeSpec := { name := "weaveHolds", fn := fun _ => fun
  | [d] => { results := [.lit (.bool true)], args := [d] }
  | _ => none }
def weaveHoldsRow : OpenClaim := { program := "ytcfjllbibgadfaa", sum := "4c0d4c09829e6e4d3506568a3c9b38f945ac6b7d6f84b103afa020dd3c08f663", func := "almagest/almagestlaw8.WeaveHolds", spec := "weaveHolds", recurses := true, plainKeys := false, apart := false }
def WeaveHoldsSaid : Prop := weaveHoldsRow.holds Try.pinned (OpenSpec.ofChange weaveHoldsSpec)

/-- ITS FALSE NEIGHBOUR: 'it returns false'. Refute it at one input. -/
def weaveHoldsWrong : ChangeSpec := { name := "weaveHolds", fn := fun _ => fun
  | [d] => { results := [.lit (.bool false)], args := [d] }
  | _ => none }
def WeaveHoldsWrongFalsely : Prop := weaveHoldsRow.holds Try.pinned (OpenSpec.ofChange weaveHoldsWrong)

/-- 'almagestlaw8.WeaveStarted': WHATEVER THE INPUT: true; the input reads as it did. -/
def weaveStartedSpec : ChangeSpec := { name := "weaveStarted", fn := fun _ => fun
  | [d] => { results := [.lit (.bool true)], args := [d] }
  | _ => none }
def weaveStartedRow : OpenClaim := { program := "ytcfjllbibgadfaa", sum := "4c0d4c09829e6e4d3506568a3c9b38f945ac6b7d6f84b103afa020dd3c08f663", func := "almagest/almagestlaw8.WeaveStarted", spec := "weaveStarted", recurses := true, plainKeys := false, apart := false }
def WeaveStartedSaid : Prop := weaveStartedRow.holds Try.pinned (OpenSpec.ofChange weaveStartedSpec)

/-- ITS FALSE NEIGHBOUR: 'it returns false'. Refute it at one input. -/
def weaveStartedWrong : ChangeSpec := { name := "weaveStarted", fn := fun _ => fun
  | [d] => { results := [.lit (.bool false)], args := [d] }
  | _ => none }
def WeaveStartedWrongFalsely : Prop := weaveStartedRow.holds Try.pinned (OpenSpec.ofChange weaveStartedWrong)

/-- 'almagestlaw8.WeaveOverlapped': WHATEVER THE INPUT: true; the input reads as it did. -/
def weaveOverlappedSpec : ChangeSpec := { name := "weaveOverlapped", fn := fun _ => fun
  | [d] => { results := [.lit (.bool true)], args := [d] }
  | _ => none }
def weaveOverlappedRow : OpenClaim := { program := "ytcfjllbibgadfaa", sum := "4c0d4c09829e6e4d3506568a3c9b38f945ac6b7d6f84b103afa020dd3c08f663", func := "almagest/almagestlaw8.WeaveOverlapped", spec := "weaveOverlapped", recurses := true, plainKeys := false, apart := false }
def WeaveOverlappedSaid : Prop := weaveOverlappedRow.holds Try.pinned (OpenSpec.ofChange weaveOverlappedSpec)

/-- ITS FALSE NEIGHBOUR: 'it returns false'. Refute it at one input. -/
def weaveOverlappedWrong : ChangeSpec := { name := "weaveOverlapped", fn := fun _ => fun
  | [d] => { results := [.lit (.bool false)], args := [d] }
  | _ => none }
def WeaveOverlappedWrongFalsely : Prop := weaveOverlappedRow.holds Try.pinned (OpenSpec.ofChange weaveOverlappedWrong)

/-- 'almagestlaw8.WeaveMet': WHATEVER THE INPUT: true; the input reads as it did. -/
def weaveMetSpec : ChangeSpec := { name := "weaveMet", fn := fun _ => fun
  | [d] => { results := [.lit (.bool true)], args := [d] }
  | _ => none }
def weaveMetRow : OpenClaim := { program := "ytcfjllbibgadfaa", sum := "4c0d4c09829e6e4d3506568a3c9b38f945ac6b7d6f84b103afa020dd3c08f663", func := "almagest/almagestlaw8.WeaveMet", spec := "weaveMet", recurses := true, plainKeys := false, apart := false }
def WeaveMetSaid : Prop := weaveMetRow.holds Try.pinned (OpenSpec.ofChange weaveMetSpec)

/-- ITS FALSE NEIGHBOUR: 'it returns false'. Refute it at one input. -/
def weaveMetWrong : ChangeSpec := { name := "weaveMet", fn := fun _ => fun
  | [d] => { results := [.lit (.bool false)], args := [d] }
  | _ => none }
def WeaveMetWrongFalsely : Prop := weaveMetRow.holds Try.pinned (OpenSpec.ofChange weaveMetWrong)

/-- 'almagestlaw8.WeaveAfter': WHATEVER THE INPUT: true; the input reads as it did. -/
def weaveAfterSpec : ChangeSpec := { name := "weaveAfter", fn := fun _ => fun
  | [d] => { results := [.lit (.bool true)], args := [d] }
  | _ => none }
def weaveAfterRow : OpenClaim := { program := "ytcfjllbibgadfaa", sum := "4c0d4c09829e6e4d3506568a3c9b38f945ac6b7d6f84b103afa020dd3c08f663", func := "almagest/almagestlaw8.WeaveAfter", spec := "weaveAfter", recurses := true, plainKeys := false, apart := false }
def WeaveAfterSaid : Prop := weaveAfterRow.holds Try.pinned (OpenSpec.ofChange weaveAfterSpec)

/-- ITS FALSE NEIGHBOUR: 'it returns false'. Refute it at one input. -/
def weaveAfterWrong : ChangeSpec := { name := "weaveAfter", fn := fun _ => fun
  | [d] => { results := [.lit (.bool false)], args := [d] }
  | _ => none }
def WeaveAfterWrongFalsely : Prop := weaveAfterRow.holds Try.pinned (OpenSpec.ofChange weaveAfterWrong)

/-- 'almagestlaw8.WeaveSets': WHATEVER THE INPUT: true; the input reads as it did. -/
def weaveSetsSpec : ChangeSpec := { name := "weaveSets", fn := fun _ => fun
  | [d] => { results := [.lit (.bool true)], args := [d] }
  | _ => none }
def weaveSetsRow : OpenClaim := { program := "ytcfjllbibgadfaa", sum := "4c0d4c09829e6e4d3506568a3c9b38f945ac6b7d6f84b103afa020dd3c08f663", func := "almagest/almagestlaw8.WeaveSets", spec := "weaveSets", recurses := true, plainKeys := false, apart := false }
def WeaveSetsSaid : Prop := weaveSetsRow.holds Try.pinned (OpenSpec.ofChange weaveSetsSpec)

/-- ITS FALSE NEIGHBOUR: 'it returns false'. Refute it at one input. -/
def weaveSetsWrong : ChangeSpec := { name := "weaveSets", fn := fun _ => fun
  | [d] => { results := [.lit (.bool false)], args := [d] }
  | _ => none }
def WeaveSetsWrongFalsely : Prop := weaveSetsRow.holds Try.pinned (OpenSpec.ofChange weaveSetsWrong)

/-- 'almagestlaw8.WeaveNet': WHATEVER THE INPUT: true; the input reads as it did. -/
def weaveNetSpec : ChangeSpec := { name := "weaveNet", fn := fun _ => fun
  | [d] => { results := [.lit (.bool true)], args := [d] }
  | _ => none }
def weaveNetRow : OpenClaim := { program := "ytcfjllbibgadfaa", sum := "4c0d4c09829e6e4d3506568a3c9b38f945ac6b7d6f84b103afa020dd3c08f663", func := "almagest/almagestlaw8.WeaveNet", spec := "weaveNet", unfollowed := true, recurses := true, plainKeys := false, apart := false }
def WeaveNetSaid : Prop := weaveNetRow.holds Try.pinned (OpenSpec.ofChange weaveNetSpec)

/-- ITS FALSE NEIGHBOUR: 'it returns false'. Refute it at one input. -/
def weaveNetWrong : ChangeSpec := { name := "weaveNet", fn := fun _ => fun
  | [d] => { results := [.lit (.bool false)], args := [d] }
  | _ => none }
def WeaveNetWrongFalsely : Prop := weaveNetRow.holds Try.pinned (OpenSpec.ofChange weaveNetWrong)

/-- 'almagestlaw8.WeaveSpans': WHATEVER THE INPUT: true; the input reads as it did. -/
def weaveSpansSpec : ChangeSpec := { name := "weaveSpans", fn := fun _ => fun
  | [d] => { results := [.lit (.bool true)], args := [d] }
  | _ => none }
def weaveSpansRow : OpenClaim := { program := "ytcfjllbibgadfaa", sum := "4c0d4c09829e6e4d3506568a3c9b38f945ac6b7d6f84b103afa020dd3c08f663", func := "almagest/almagestlaw8.WeaveSpans", spec := "weaveSpans", unfollowed := true, recurses := true, plainKeys := false, apart := false }
def WeaveSpansSaid : Prop := weaveSpansRow.holds Try.pinned (OpenSpec.ofChange weaveSpansSpec)

/-- ITS FALSE NEIGHBOUR: 'it returns false'. Refute it at one input. -/
def weaveSpansWrong : ChangeSpec := { name := "weaveSpans", fn := fun _ => fun
  | [d] => { results := [.lit (.bool false)], args := [d] }
  | _ => none }
def WeaveSpansWrongFalsely : Prop := weaveSpansRow.holds Try.pinned (OpenSpec.ofChange weaveSpansWrong)

/- THE SECOND FORM. 'bulk': how many values and letters a reading holds, each counted each time it is reached (what is shared counts as often as it is met; a slice's spare places count too). A statement '..UptoSaid' is the law's where the arguments, and the package variables that the reading takes, are together of bulk at most 1048576: NARROWER than '..Said'. Prove '..Said' where nothing that the law and all that it calls make is longer than what came in: it says more and counts as full. Else prove '..UptoSaid'. A law counts once. -/
mutual
def uptoBulk {H : Type} : DataW H → Nat
  | .lit (.string bytes) => bytes.length + 1
  | .lit _ => 1
  | .nil => 1
  | .ptr d => uptoBulk d + 1
  | .slice elems spare => uptoBulkAll elems + uptoBulkAll spare + 1
  | .agg parts => uptoBulkAll parts + 1
  | .iface _ d => uptoBulk d + 1
  | .map entries => uptoBulkEntries entries + 1
  | .held _ => 1
def uptoBulkAll {H : Type} : List (DataW H) → Nat
  | [] => 0
  | d :: r => uptoBulk d + uptoBulkAll r
def uptoBulkEntries {H : Type} : List (Lit × DataW H) → Nat
  | [] => 0
  | x :: r => uptoBulkEntry x + uptoBulkEntries r
def uptoBulkEntry {H : Type} : Lit × DataW H → Nat
  | (.string bytes, d) => bytes.length + uptoBulk d + 1
  | (_, d) => uptoBulk d + 1
 end
def uptoSmall : (H : Type) → List (DataW H) → Bool := fun _ ds => decide (uptoBulkAll ds ≤ 1048576)
def OpenSpec.upto (s : _root_.Go.ChangeSpec) : _root_.Go.OpenSpec := { _root_.Go.OpenSpec.ofChange s with cond := some uptoSmall }

/-- 'almagestlaw8.WeaveThen', WHERE WHAT IT READS IS OF BULK AT MOST 1048576: true; the input reads as it did. -/
def weaveThenUptoRow : OpenClaim := { program := "ytcfjllbibgadfaa", sum := "4c0d4c09829e6e4d3506568a3c9b38f945ac6b7d6f84b103afa020dd3c08f663", func := "almagest/almagestlaw8.WeaveThen", spec := "weaveThen", recurses := true, plainKeys := false, apart := false, narrowed := true }
def WeaveThenUptoSaid : Prop := weaveThenUptoRow.holds Try.pinned (OpenSpec.upto weaveThenSpec)

/-- 'almagestlaw8.WeaveBefore', WHERE WHAT IT READS IS OF BULK AT MOST 1048576: true; the input reads as it did. -/
def weaveBeforeUptoRow : OpenClaim := { program := "ytcfjllbibgadfaa", sum := "4c0d4c09829e6e4d3506568a3c9b38f945ac6b7d6f84b103afa020dd3c08f663", func := "almagest/almagestlaw8.WeaveBefore", spec := "weaveBefore", recurses := true, plainKeys := false, apart := false, narrowed := true }
def WeaveBeforeUptoSaid : Prop := weaveBeforeUptoRow.holds Try.pinned (OpenSpec.upto weaveBeforeSpec)

/-- 'almagestlaw8.WeaveMeets', WHERE WHAT IT READS IS OF BULK AT MOST 1048576: true; the input reads as it did. -/
def weaveMeetsUptoRow : OpenClaim := { program := "ytcfjllbibgadfaa", sum := "4c0d4c09829e6e4d3506568a3c9b38f945ac6b7d6f84b103afa020dd3c08f663", func := "almagest/almagestlaw8.WeaveMeets", spec := "weaveMeets", recurses := true, plainKeys := false, apart := false, narrowed := true }
def WeaveMeetsUptoSaid : Prop := weaveMeetsUptoRow.holds Try.pinned (OpenSpec.upto weaveMeetsSpec)

/-- 'almagestlaw8.WeaveOverlaps', WHERE WHAT IT READS IS OF BULK AT MOST 1048576: true; the input reads as it did. -/
def weaveOverlapsUptoRow : OpenClaim := { program := "ytcfjllbibgadfaa", sum := "4c0d4c09829e6e4d3506568a3c9b38f945ac6b7d6f84b103afa020dd3c08f663", func := "almagest/almagestlaw8.WeaveOverlaps", spec := "weaveOverlaps", recurses := true, plainKeys := false, apart := false, narrowed := true }
def WeaveOverlapsUptoSaid : Prop := weaveOverlapsUptoRow.holds Try.pinned (OpenSpec.upto weaveOverlapsSpec)

/-- 'almagestlaw8.WeaveStarts', WHERE WHAT IT READS IS OF BULK AT MOST 1048576: true; the input reads as it did. -/
def weaveStartsUptoRow : OpenClaim := { program := "ytcfjllbibgadfaa", sum := "4c0d4c09829e6e4d3506568a3c9b38f945ac6b7d6f84b103afa020dd3c08f663", func := "almagest/almagestlaw8.WeaveStarts", spec := "weaveStarts", recurses := true, plainKeys := false, apart := false, narrowed := true }
def WeaveStartsUptoSaid : Prop := weaveStartsUptoRow.holds Try.pinned (OpenSpec.upto weaveStartsSpec)

/-- 'almagestlaw8.WeaveDuring', WHERE WHAT IT READS IS OF BULK AT MOST 1048576: true; the input reads as it did. -/
def weaveDuringUptoRow : OpenClaim := { program := "ytcfjllbibgadfaa", sum := "4c0d4c09829e6e4d3506568a3c9b38f945ac6b7d6f84b103afa020dd3c08f663", func := "almagest/almagestlaw8.WeaveDuring", spec := "weaveDuring", recurses := true, plainKeys := false, apart := false, narrowed := true }
def WeaveDuringUptoSaid : Prop := weaveDuringUptoRow.holds Try.pinned (OpenSpec.upto weaveDuringSpec)

/-- 'almagestlaw8.WeaveEnds', WHERE WHAT IT READS IS OF BULK AT MOST 1048576: true; the input reads as it did. -/
def weaveEndsUptoRow : OpenClaim := { program := "ytcfjllbibgadfaa", sum := "4c0d4c09829e6e4d3506568a3c9b38f945ac6b7d6f84b103afa020dd3c08f663", func := "almagest/almagestlaw8.WeaveEnds", spec := "weaveEnds", recurses := true, plainKeys := false, apart := false, narrowed := true }
def WeaveEndsUptoSaid : Prop := weaveEndsUptoRow.holds Try.pinned (OpenSpec.upto weaveEndsSpec)

/-- 'almagestlaw8.WeaveEqual', WHERE WHAT IT READS IS OF BULK AT MOST 1048576: true; the input reads as it did. -/
def weaveEqualUptoRow : OpenClaim := { program := "ytcfjllbibgadfaa", sum := "4c0d4c09829e6e4d3506568a3c9b38f945ac6b7d6f84b103afa020dd3c08f663", func := "almagest/almagestlaw8.WeaveEqual", spec := "weaveEqual", recurses := true, plainKeys := false, apart := false, narrowed := true }
def WeaveEqualUptoSaid : Prop := weaveEqualUptoRow.holds Try.pinned (OpenSpec.upto weaveEqualSpec)

/-- 'almagestlaw8.WeaveEnded', WHERE WHAT IT READS IS OF BULK AT MOST 1048576: true; the input reads as it did. -/
def weaveEndedUptoRow : OpenClaim := { program := "ytcfjllbibgadfaa", sum := "4c0d4c09829e6e4d3506568a3c9b38f945ac6b7d6f84b103afa020dd3c08f663", func := "almagest/almagestlaw8.WeaveEnded", spec := "weaveEnded", recurses := true, plainKeys := false, apart := false, narrowed := true }
def WeaveEndedUptoSaid : Prop := weaveEndedUptoRow.holds Try.pinned (OpenSpec.upto weaveEndedSpec)

/-- 'almagestlaw8.WeaveHolds', WHERE WHAT IT READS IS OF BULK AT MOST 1048576: true; the input reads as it did. -/
def weaveHoldsUptoRow : OpenClaim := { program := "ytcfjllbibgadfaa", sum := "4c0d4c09829e6e4d3506568a3c9b38f945ac6b7d6f84b103afa020dd3c08f663", func := "almagest/almagestlaw8.WeaveHolds", spec := "weaveHolds", recurses := true, plainKeys := false, apart := false, narrowed := true }
def WeaveHoldsUptoSaid : Prop := weaveHoldsUptoRow.holds Try.pinned (OpenSpec.upto weaveHoldsSpec)

/-- 'almagestlaw8.WeaveStarted', WHERE WHAT IT READS IS OF BULK AT MOST 1048576: true; the input reads as it did. -/
def weaveStartedUptoRow : OpenClaim := { program := "ytcfjllbibgadfaa", sum := "4c0d4c09829e6e4d3506568a3c9b38f945ac6b7d6f84b103afa020dd3c08f663", func := "almagest/almagestlaw8.WeaveStarted", spec := "weaveStarted", recurses := true, plainKeys := false, apart := false, narrowed := true }
def WeaveStartedUptoSaid : Prop := weaveStartedUptoRow.holds Try.pinned (OpenSpec.upto weaveStartedSpec)

/-- 'almagestlaw8.WeaveOverlapped', WHERE WHAT IT READS IS OF BULK AT MOST 1048576: true; the input reads as it did. -/
def weaveOverlappedUptoRow : OpenClaim := { program := "ytcfjllbibgadfaa", sum := "4c0d4c09829e6e4d3506568a3c9b38f945ac6b7d6f84b103afa020dd3c08f663", func := "almagest/almagestlaw8.WeaveOverlapped", spec := "weaveOverlapped", recurses := true, plainKeys := false, apart := false, narrowed := true }
def WeaveOverlappedUptoSaid : Prop := weaveOverlappedUptoRow.holds Try.pinned (OpenSpec.upto weaveOverlappedSpec)

/-- 'almagestlaw8.WeaveMet', WHERE WHAT IT READS IS OF BULK AT MOST 1048576: true; the input reads as it did. -/
def weaveMetUptoRow : OpenClaim := { program := "ytcfjllbibgadfaa", sum := "4c0d4c09829e6e4d3506568a3c9b38f945ac6b7d6f84b103afa020dd3c08f663", func := "almagest/almagestlaw8.WeaveMet", spec := "weaveMet", recurses := true, plainKeys := false, apart := false, narrowed := true }
def WeaveMetUptoSaid : Prop := weaveMetUptoRow.holds Try.pinned (OpenSpec.upto weaveMetSpec)

/-- 'almagestlaw8.WeaveAfter', WHERE WHAT IT READS IS OF BULK AT MOST 1048576: true; the input reads as it did. -/
def weaveAfterUptoRow : OpenClaim := { program := "ytcfjllbibgadfaa", sum := "4c0d4c09829e6e4d3506568a3c9b38f945ac6b7d6f84b103afa020dd3c08f663", func := "almagest/almagestlaw8.WeaveAfter", spec := "weaveAfter", recurses := true, plainKeys := false, apart := false, narrowed := true }
def WeaveAfterUptoSaid : Prop := weaveAfterUptoRow.holds Try.pinned (OpenSpec.upto weaveAfterSpec)

/-- 'almagestlaw8.WeaveSets', WHERE WHAT IT READS IS OF BULK AT MOST 1048576: true; the input reads as it did. -/
def weaveSetsUptoRow : OpenClaim := { program := "ytcfjllbibgadfaa", sum := "4c0d4c09829e6e4d3506568a3c9b38f945ac6b7d6f84b103afa020dd3c08f663", func := "almagest/almagestlaw8.WeaveSets", spec := "weaveSets", recurses := true, plainKeys := false, apart := false, narrowed := true }
def WeaveSetsUptoSaid : Prop := weaveSetsUptoRow.holds Try.pinned (OpenSpec.upto weaveSetsSpec)

/-- 'almagestlaw8.WeaveNet', WHERE WHAT IT READS IS OF BULK AT MOST 1048576: true; the input reads as it did. -/
def weaveNetUptoRow : OpenClaim := { program := "ytcfjllbibgadfaa", sum := "4c0d4c09829e6e4d3506568a3c9b38f945ac6b7d6f84b103afa020dd3c08f663", func := "almagest/almagestlaw8.WeaveNet", spec := "weaveNet", unfollowed := true, recurses := true, plainKeys := false, apart := false, narrowed := true }
def WeaveNetUptoSaid : Prop := weaveNetUptoRow.holds Try.pinned (OpenSpec.upto weaveNetSpec)

/-- 'almagestlaw8.WeaveSpans', WHERE WHAT IT READS IS OF BULK AT MOST 1048576: true; the input reads as it did. -/
def weaveSpansUptoRow : OpenClaim := { program := "ytcfjllbibgadfaa", sum := "4c0d4c09829e6e4d3506568a3c9b38f945ac6b7d6f84b103afa020dd3c08f663", func := "almagest/almagestlaw8.WeaveSpans", spec := "weaveSpans", unfollowed := true, recurses := true, plainKeys := false, apart := false, narrowed := true }
def WeaveSpansUptoSaid : Prop := weaveSpansUptoRow.holds Try.pinned (OpenSpec.upto weaveSpansSpec)

end Rows
end Go.Proofs.Ytcfjllbibgadfaa
