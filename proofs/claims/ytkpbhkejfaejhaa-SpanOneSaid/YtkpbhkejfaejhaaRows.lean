/-
  No cell of these rows narrows 'for every input' (looked for: loops, veiled, ifaces, maps, wideKeys, modest, calm, conditions, laid).
  DERIVED. THE GIVEN ROWS OF THIS SEAT. 15 by the template 'for every input the law returns true; each argument reads behind the call as it read before'; 0 by the template 'total and deterministic' (their statements: YtkpbhkejfaejhaaTotals.lean).
  GIVEN WITH THE SEED: the statements are not yours to turn. If you find one false, say at which input.
  Laid BY PROGRAM, IN A SANDBOX (cutbox-rows.mjs): the forced cells as the released guide's own fill.sh prints them over the translation cd9c8ed687dab896… (all of the seat's roots in one cut). By AI agents, Wed Nov 11 2026. No macro, syntax, notation, axiom, sorry.
-/
import Derived.Test.YtkpbhkejfaejhaaChecked
import GoSem.Claim
import GoSem.ClaimJoined
import GoSem.ClaimMapViews
import Derived.JoinedTies
import Derived.KernelRfl
namespace Go.Proofs.Ytkpbhkejfaejhaa
/- THE CELL 'sum', in the pinned program and in every row, IS THE sha256 OF THE DUMP (.gsa) THAT YtkpbhkejfaejhaaProg.lean LOADS. Nothing in Lean hashes anything: it is a label: what it is worth is what the hold of that sum in a sandbox is worth. -/
noncomputable def Try.pinned : Pinned := { name := "ytkpbhkejfaejhaa", sum := "cd9c8ed687dab89613c1977f10179b8839efdda3f72fe6a137c53cbf2a63c7ff", checked := Try.checked }
namespace Rows
def none {H : Type} : Left H := { results := [], args := [] }

/-- 'almagestlaw7.SpanBefore': WHATEVER THE INPUT: true; the input reads as it did. -/
def spanBeforeSpec : ChangeSpec := { name := "spanBefore", fn := fun _ => fun
  | [d] => { results := [.lit (.bool true)], args := [d] }
  | _ => none }
def spanBeforeRow : OpenClaim := { program := "ytkpbhkejfaejhaa", sum := "cd9c8ed687dab89613c1977f10179b8839efdda3f72fe6a137c53cbf2a63c7ff", func := "almagest/almagestlaw7.SpanBefore", spec := "spanBefore", recurses := true, apart := false }
def SpanBeforeSaid : Prop := spanBeforeRow.holds Try.pinned (OpenSpec.ofChange spanBeforeSpec)

/-- ITS FALSE NEIGHBOUR: 'it returns false'. Refute it at one input. -/
def spanBeforeWrong : ChangeSpec := { name := "spanBefore", fn := fun _ => fun
  | [d] => { results := [.lit (.bool false)], args := [d] }
  | _ => none }
def SpanBeforeWrongFalsely : Prop := spanBeforeRow.holds Try.pinned (OpenSpec.ofChange spanBeforeWrong)

/-- 'almagestlaw7.SpanMeets': WHATEVER THE INPUT: true; the input reads as it did. -/
def spanMeetsSpec : ChangeSpec := { name := "spanMeets", fn := fun _ => fun
  | [d] => { results := [.lit (.bool true)], args := [d] }
  | _ => none }
def spanMeetsRow : OpenClaim := { program := "ytkpbhkejfaejhaa", sum := "cd9c8ed687dab89613c1977f10179b8839efdda3f72fe6a137c53cbf2a63c7ff", func := "almagest/almagestlaw7.SpanMeets", spec := "spanMeets", recurses := true, apart := false }
def SpanMeetsSaid : Prop := spanMeetsRow.holds Try.pinned (OpenSpec.ofChange spanMeetsSpec)

/-- ITS FALSE NEIGHBOUR: 'it returns false'. Refute it at one input. -/
def spanMeetsWrong : ChangeSpec := { name := "spanMeets", fn := fun _ => fun
  | [d] => { results := [.lit (.bool false)], args := [d] }
  | _ => none }
def SpanMeetsWrongFalsely : Prop := spanMeetsRow.holds Try.pinned (OpenSpec.ofChange spanMeetsWrong)

/-- 'almagestlaw7.SpanOverlaps': WHATEVER THE INPUT: true; the input reads as it did. -/
def spanOverlapsSpec : ChangeSpec := { name := "spanOverlaps", fn := fun _ => fun
  | [d] => { results := [.lit (.bool true)], args := [d] }
  | _ => none }
def spanOverlapsRow : OpenClaim := { program := "ytkpbhkejfaejhaa", sum := "cd9c8ed687dab89613c1977f10179b8839efdda3f72fe6a137c53cbf2a63c7ff", func := "almagest/almagestlaw7.SpanOverlaps", spec := "spanOverlaps", recurses := true, apart := false }
def SpanOverlapsSaid : Prop := spanOverlapsRow.holds Try.pinned (OpenSpec.ofChange spanOverlapsSpec)

/-- ITS FALSE NEIGHBOUR: 'it returns false'. Refute it at one input. -/
def spanOverlapsWrong : ChangeSpec := { name := "spanOverlaps", fn := fun _ => fun
  | [d] => { results := [.lit (.bool false)], args := [d] }
  | _ => none }
def SpanOverlapsWrongFalsely : Prop := spanOverlapsRow.holds Try.pinned (OpenSpec.ofChange spanOverlapsWrong)

/-- 'almagestlaw7.SpanStarts': WHATEVER THE INPUT: true; the input reads as it did. -/
def spanStartsSpec : ChangeSpec := { name := "spanStarts", fn := fun _ => fun
  | [d] => { results := [.lit (.bool true)], args := [d] }
  | _ => none }
def spanStartsRow : OpenClaim := { program := "ytkpbhkejfaejhaa", sum := "cd9c8ed687dab89613c1977f10179b8839efdda3f72fe6a137c53cbf2a63c7ff", func := "almagest/almagestlaw7.SpanStarts", spec := "spanStarts", recurses := true, apart := false }
def SpanStartsSaid : Prop := spanStartsRow.holds Try.pinned (OpenSpec.ofChange spanStartsSpec)

/-- ITS FALSE NEIGHBOUR: 'it returns false'. Refute it at one input. -/
def spanStartsWrong : ChangeSpec := { name := "spanStarts", fn := fun _ => fun
  | [d] => { results := [.lit (.bool false)], args := [d] }
  | _ => none }
def SpanStartsWrongFalsely : Prop := spanStartsRow.holds Try.pinned (OpenSpec.ofChange spanStartsWrong)

/-- 'almagestlaw7.SpanDuring': WHATEVER THE INPUT: true; the input reads as it did. -/
def spanDuringSpec : ChangeSpec := { name := "spanDuring", fn := fun _ => fun
  | [d] => { results := [.lit (.bool true)], args := [d] }
  | _ => none }
def spanDuringRow : OpenClaim := { program := "ytkpbhkejfaejhaa", sum := "cd9c8ed687dab89613c1977f10179b8839efdda3f72fe6a137c53cbf2a63c7ff", func := "almagest/almagestlaw7.SpanDuring", spec := "spanDuring", recurses := true, apart := false }
def SpanDuringSaid : Prop := spanDuringRow.holds Try.pinned (OpenSpec.ofChange spanDuringSpec)

/-- ITS FALSE NEIGHBOUR: 'it returns false'. Refute it at one input. -/
def spanDuringWrong : ChangeSpec := { name := "spanDuring", fn := fun _ => fun
  | [d] => { results := [.lit (.bool false)], args := [d] }
  | _ => none }
def SpanDuringWrongFalsely : Prop := spanDuringRow.holds Try.pinned (OpenSpec.ofChange spanDuringWrong)

/-- 'almagestlaw7.SpanEnds': WHATEVER THE INPUT: true; the input reads as it did. -/
def spanEndsSpec : ChangeSpec := { name := "spanEnds", fn := fun _ => fun
  | [d] => { results := [.lit (.bool true)], args := [d] }
  | _ => none }
def spanEndsRow : OpenClaim := { program := "ytkpbhkejfaejhaa", sum := "cd9c8ed687dab89613c1977f10179b8839efdda3f72fe6a137c53cbf2a63c7ff", func := "almagest/almagestlaw7.SpanEnds", spec := "spanEnds", recurses := true, apart := false }
def SpanEndsSaid : Prop := spanEndsRow.holds Try.pinned (OpenSpec.ofChange spanEndsSpec)

/-- ITS FALSE NEIGHBOUR: 'it returns false'. Refute it at one input. -/
def spanEndsWrong : ChangeSpec := { name := "spanEnds", fn := fun _ => fun
  | [d] => { results := [.lit (.bool false)], args := [d] }
  | _ => none }
def SpanEndsWrongFalsely : Prop := spanEndsRow.holds Try.pinned (OpenSpec.ofChange spanEndsWrong)

/-- 'almagestlaw7.SpanEqual': WHATEVER THE INPUT: true; the input reads as it did. -/
def spanEqualSpec : ChangeSpec := { name := "spanEqual", fn := fun _ => fun
  | [d] => { results := [.lit (.bool true)], args := [d] }
  | _ => none }
def spanEqualRow : OpenClaim := { program := "ytkpbhkejfaejhaa", sum := "cd9c8ed687dab89613c1977f10179b8839efdda3f72fe6a137c53cbf2a63c7ff", func := "almagest/almagestlaw7.SpanEqual", spec := "spanEqual", recurses := true, apart := false }
def SpanEqualSaid : Prop := spanEqualRow.holds Try.pinned (OpenSpec.ofChange spanEqualSpec)

/-- ITS FALSE NEIGHBOUR: 'it returns false'. Refute it at one input. -/
def spanEqualWrong : ChangeSpec := { name := "spanEqual", fn := fun _ => fun
  | [d] => { results := [.lit (.bool false)], args := [d] }
  | _ => none }
def SpanEqualWrongFalsely : Prop := spanEqualRow.holds Try.pinned (OpenSpec.ofChange spanEqualWrong)

/-- 'almagestlaw7.SpanEnded': WHATEVER THE INPUT: true; the input reads as it did. -/
def spanEndedSpec : ChangeSpec := { name := "spanEnded", fn := fun _ => fun
  | [d] => { results := [.lit (.bool true)], args := [d] }
  | _ => none }
def spanEndedRow : OpenClaim := { program := "ytkpbhkejfaejhaa", sum := "cd9c8ed687dab89613c1977f10179b8839efdda3f72fe6a137c53cbf2a63c7ff", func := "almagest/almagestlaw7.SpanEnded", spec := "spanEnded", recurses := true, apart := false }
def SpanEndedSaid : Prop := spanEndedRow.holds Try.pinned (OpenSpec.ofChange spanEndedSpec)

/-- ITS FALSE NEIGHBOUR: 'it returns false'. Refute it at one input. -/
def spanEndedWrong : ChangeSpec := { name := "spanEnded", fn := fun _ => fun
  | [d] => { results := [.lit (.bool false)], args := [d] }
  | _ => none }
def SpanEndedWrongFalsely : Prop := spanEndedRow.holds Try.pinned (OpenSpec.ofChange spanEndedWrong)

/-- 'almagestlaw7.SpanHolds': WHATEVER THE INPUT: true; the input reads as it did. -/
def spanHoldsSpec : ChangeSpec := { name := "spanHolds", fn := fun _ => fun
  | [d] => { results := [.lit (.bool true)], args := [d] }
  | _ => none }
def spanHoldsRow : OpenClaim := { program := "ytkpbhkejfaejhaa", sum := "cd9c8ed687dab89613c1977f10179b8839efdda3f72fe6a137c53cbf2a63c7ff", func := "almagest/almagestlaw7.SpanHolds", spec := "spanHolds", recurses := true, apart := false }
def SpanHoldsSaid : Prop := spanHoldsRow.holds Try.pinned (OpenSpec.ofChange spanHoldsSpec)

/-- ITS FALSE NEIGHBOUR: 'it returns false'. Refute it at one input. -/
def spanHoldsWrong : ChangeSpec := { name := "spanHolds", fn := fun _ => fun
  | [d] => { results := [.lit (.bool false)], args := [d] }
  | _ => none }
def SpanHoldsWrongFalsely : Prop := spanHoldsRow.holds Try.pinned (OpenSpec.ofChange spanHoldsWrong)

/-- 'almagestlaw7.SpanStarted': WHATEVER THE INPUT: true; the input reads as it did. -/
def spanStartedSpec : ChangeSpec := { name := "spanStarted", fn := fun _ => fun
  | [d] => { results := [.lit (.bool true)], args := [d] }
  | _ => none }
def spanStartedRow : OpenClaim := { program := "ytkpbhkejfaejhaa", sum := "cd9c8ed687dab89613c1977f10179b8839efdda3f72fe6a137c53cbf2a63c7ff", func := "almagest/almagestlaw7.SpanStarted", spec := "spanStarted", recurses := true, apart := false }
def SpanStartedSaid : Prop := spanStartedRow.holds Try.pinned (OpenSpec.ofChange spanStartedSpec)

/-- ITS FALSE NEIGHBOUR: 'it returns false'. Refute it at one input. -/
def spanStartedWrong : ChangeSpec := { name := "spanStarted", fn := fun _ => fun
  | [d] => { results := [.lit (.bool false)], args := [d] }
  | _ => none }
def SpanStartedWrongFalsely : Prop := spanStartedRow.holds Try.pinned (OpenSpec.ofChange spanStartedWrong)

/-- 'almagestlaw7.SpanOverlapped': WHATEVER THE INPUT: true; the input reads as it did. -/
def spanOverlappedSpec : ChangeSpec := { name := "spanOverlapped", fn := fun _ => fun
  | [d] => { results := [.lit (.bool true)], args := [d] }
  | _ => none }
def spanOverlappedRow : OpenClaim := { program := "ytkpbhkejfaejhaa", sum := "cd9c8ed687dab89613c1977f10179b8839efdda3f72fe6a137c53cbf2a63c7ff", func := "almagest/almagestlaw7.SpanOverlapped", spec := "spanOverlapped", recurses := true, apart := false }
def SpanOverlappedSaid : Prop := spanOverlappedRow.holds Try.pinned (OpenSpec.ofChange spanOverlappedSpec)

/-- ITS FALSE NEIGHBOUR: 'it returns false'. Refute it at one input. -/
def spanOverlappedWrong : ChangeSpec := { name := "spanOverlapped", fn := fun _ => fun
  | [d] => { results := [.lit (.bool false)], args := [d] }
  | _ => none }
def SpanOverlappedWrongFalsely : Prop := spanOverlappedRow.holds Try.pinned (OpenSpec.ofChange spanOverlappedWrong)

/-- 'almagestlaw7.SpanMet': WHATEVER THE INPUT: true; the input reads as it did. -/
def spanMetSpec : ChangeSpec := { name := "spanMet", fn := fun _ => fun
  | [d] => { results := [.lit (.bool true)], args := [d] }
  | _ => none }
def spanMetRow : OpenClaim := { program := "ytkpbhkejfaejhaa", sum := "cd9c8ed687dab89613c1977f10179b8839efdda3f72fe6a137c53cbf2a63c7ff", func := "almagest/almagestlaw7.SpanMet", spec := "spanMet", recurses := true, apart := false }
def SpanMetSaid : Prop := spanMetRow.holds Try.pinned (OpenSpec.ofChange spanMetSpec)

/-- ITS FALSE NEIGHBOUR: 'it returns false'. Refute it at one input. -/
def spanMetWrong : ChangeSpec := { name := "spanMet", fn := fun _ => fun
  | [d] => { results := [.lit (.bool false)], args := [d] }
  | _ => none }
def SpanMetWrongFalsely : Prop := spanMetRow.holds Try.pinned (OpenSpec.ofChange spanMetWrong)

/-- 'almagestlaw7.SpanAfter': WHATEVER THE INPUT: true; the input reads as it did. -/
def spanAfterSpec : ChangeSpec := { name := "spanAfter", fn := fun _ => fun
  | [d] => { results := [.lit (.bool true)], args := [d] }
  | _ => none }
def spanAfterRow : OpenClaim := { program := "ytkpbhkejfaejhaa", sum := "cd9c8ed687dab89613c1977f10179b8839efdda3f72fe6a137c53cbf2a63c7ff", func := "almagest/almagestlaw7.SpanAfter", spec := "spanAfter", recurses := true, apart := false }
def SpanAfterSaid : Prop := spanAfterRow.holds Try.pinned (OpenSpec.ofChange spanAfterSpec)

/-- ITS FALSE NEIGHBOUR: 'it returns false'. Refute it at one input. -/
def spanAfterWrong : ChangeSpec := { name := "spanAfter", fn := fun _ => fun
  | [d] => { results := [.lit (.bool false)], args := [d] }
  | _ => none }
def SpanAfterWrongFalsely : Prop := spanAfterRow.holds Try.pinned (OpenSpec.ofChange spanAfterWrong)

/-- 'almagestlaw7.SpanOne': WHATEVER THE INPUT: true; the input reads as it did. -/
def spanOneSpec : ChangeSpec := { name := "spanOne", fn := fun _ => fun
  | [d] => { results := [.lit (.bool true)], args := [d] }
  | _ => none }
def spanOneRow : OpenClaim := { program := "ytkpbhkejfaejhaa", sum := "cd9c8ed687dab89613c1977f10179b8839efdda3f72fe6a137c53cbf2a63c7ff", func := "almagest/almagestlaw7.SpanOne", spec := "spanOne", recurses := true, apart := false }
def SpanOneSaid : Prop := spanOneRow.holds Try.pinned (OpenSpec.ofChange spanOneSpec)

/-- ITS FALSE NEIGHBOUR: 'it returns false'. Refute it at one input. -/
def spanOneWrong : ChangeSpec := { name := "spanOne", fn := fun _ => fun
  | [d] => { results := [.lit (.bool false)], args := [d] }
  | _ => none }
def SpanOneWrongFalsely : Prop := spanOneRow.holds Try.pinned (OpenSpec.ofChange spanOneWrong)

/-- 'almagestlaw7.SpanLies': WHATEVER THE INPUT: true; the input reads as it did. -/
def spanLiesSpec : ChangeSpec := { name := "spanLies", fn := fun _ => fun
  | [d] => { results := [.lit (.bool true)], args := [d] }
  | _ => none }
def spanLiesRow : OpenClaim := { program := "ytkpbhkejfaejhaa", sum := "cd9c8ed687dab89613c1977f10179b8839efdda3f72fe6a137c53cbf2a63c7ff", func := "almagest/almagestlaw7.SpanLies", spec := "spanLies", recurses := true, apart := false }
def SpanLiesSaid : Prop := spanLiesRow.holds Try.pinned (OpenSpec.ofChange spanLiesSpec)

/-- ITS FALSE NEIGHBOUR: 'it returns false'. Refute it at one input. -/
def spanLiesWrong : ChangeSpec := { name := "spanLies", fn := fun _ => fun
  | [d] => { results := [.lit (.bool false)], args := [d] }
  | _ => none }
def SpanLiesWrongFalsely : Prop := spanLiesRow.holds Try.pinned (OpenSpec.ofChange spanLiesWrong)

/- THE SECOND FORM. 'bulk': how many values and letters a reading holds, each counted each time it is reached (what is shared counts as often as it is met; a slice's spare places count too). A statement '..UptoSaid' is the law's where the arguments, and the package variables that the reading takes, are together of bulk at most 1048576: NARROWER than '..Said'. Prove '..Said' where nothing that the law and all that it calls make is longer than what came in: it says more and counts as full. Else prove '..UptoSaid'. A law counts once. -/
mutual
def uptoBulk {H : Type} : DataW H → Nat
  | .lit (.string bytes) => bytes.length + 1
  | .lit _ => 1
  | .nil => 1
  | .ptr d => uptoBulk d + 1
  | .slice elems spare => uptoBulkAll elems + uptoBulkAll spare + 1
  | .agg parts => uptoBulkAll parts + 1
  | .iface _ d => uptoBulk d + 1
  | .map entries => uptoBulkEntries entries + 1
  | .held _ => 1
def uptoBulkAll {H : Type} : List (DataW H) → Nat
  | [] => 0
  | d :: r => uptoBulk d + uptoBulkAll r
def uptoBulkEntries {H : Type} : List (Lit × DataW H) → Nat
  | [] => 0
  | x :: r => uptoBulkEntry x + uptoBulkEntries r
def uptoBulkEntry {H : Type} : Lit × DataW H → Nat
  | (.string bytes, d) => bytes.length + uptoBulk d + 1
  | (_, d) => uptoBulk d + 1
 end
def uptoSmall : (H : Type) → List (DataW H) → Bool := fun _ ds => decide (uptoBulkAll ds ≤ 1048576)
def OpenSpec.upto (s : _root_.Go.ChangeSpec) : _root_.Go.OpenSpec := { _root_.Go.OpenSpec.ofChange s with cond := some uptoSmall }

/-- 'almagestlaw7.SpanBefore', WHERE WHAT IT READS IS OF BULK AT MOST 1048576: true; the input reads as it did. -/
def spanBeforeUptoRow : OpenClaim := { program := "ytkpbhkejfaejhaa", sum := "cd9c8ed687dab89613c1977f10179b8839efdda3f72fe6a137c53cbf2a63c7ff", func := "almagest/almagestlaw7.SpanBefore", spec := "spanBefore", recurses := true, apart := false, narrowed := true }
def SpanBeforeUptoSaid : Prop := spanBeforeUptoRow.holds Try.pinned (OpenSpec.upto spanBeforeSpec)

/-- 'almagestlaw7.SpanMeets', WHERE WHAT IT READS IS OF BULK AT MOST 1048576: true; the input reads as it did. -/
def spanMeetsUptoRow : OpenClaim := { program := "ytkpbhkejfaejhaa", sum := "cd9c8ed687dab89613c1977f10179b8839efdda3f72fe6a137c53cbf2a63c7ff", func := "almagest/almagestlaw7.SpanMeets", spec := "spanMeets", recurses := true, apart := false, narrowed := true }
def SpanMeetsUptoSaid : Prop := spanMeetsUptoRow.holds Try.pinned (OpenSpec.upto spanMeetsSpec)

/-- 'almagestlaw7.SpanOverlaps', WHERE WHAT IT READS IS OF BULK AT MOST 1048576: true; the input reads as it did. -/
def spanOverlapsUptoRow : OpenClaim := { program := "ytkpbhkejfaejhaa", sum := "cd9c8ed687dab89613c1977f10179b8839efdda3f72fe6a137c53cbf2a63c7ff", func := "almagest/almagestlaw7.SpanOverlaps", spec := "spanOverlaps", recurses := true, apart := false, narrowed := true }
def SpanOverlapsUptoSaid : Prop := spanOverlapsUptoRow.holds Try.pinned (OpenSpec.upto spanOverlapsSpec)

/-- 'almagestlaw7.SpanStarts', WHERE WHAT IT READS IS OF BULK AT MOST 1048576: true; the input reads as it did. -/
def spanStartsUptoRow : OpenClaim := { program := "ytkpbhkejfaejhaa", sum := "cd9c8ed687dab89613c1977f10179b8839efdda3f72fe6a137c53cbf2a63c7ff", func := "almagest/almagestlaw7.SpanStarts", spec := "spanStarts", recurses := true, apart := false, narrowed := true }
def SpanStartsUptoSaid : Prop := spanStartsUptoRow.holds Try.pinned (OpenSpec.upto spanStartsSpec)

/-- 'almagestlaw7.SpanDuring', WHERE WHAT IT READS IS OF BULK AT MOST 1048576: true; the input reads as it did. -/
def spanDuringUptoRow : OpenClaim := { program := "ytkpbhkejfaejhaa", sum := "cd9c8ed687dab89613c1977f10179b8839efdda3f72fe6a137c53cbf2a63c7ff", func := "almagest/almagestlaw7.SpanDuring", spec := "spanDuring", recurses := true, apart := false, narrowed := true }
def SpanDuringUptoSaid : Prop := spanDuringUptoRow.holds Try.pinned (OpenSpec.upto spanDuringSpec)

/-- 'almagestlaw7.SpanEnds', WHERE WHAT IT READS IS OF BULK AT MOST 1048576: true; the input reads as it did. -/
def spanEndsUptoRow : OpenClaim := { program := "ytkpbhkejfaejhaa", sum := "cd9c8ed687dab89613c1977f10179b8839efdda3f72fe6a137c53cbf2a63c7ff", func := "almagest/almagestlaw7.SpanEnds", spec := "spanEnds", recurses := true, apart := false, narrowed := true }
def SpanEndsUptoSaid : Prop := spanEndsUptoRow.holds Try.pinned (OpenSpec.upto spanEndsSpec)

/-- 'almagestlaw7.SpanEqual', WHERE WHAT IT READS IS OF BULK AT MOST 1048576: true; the input reads as it did. -/
def spanEqualUptoRow : OpenClaim := { program := "ytkpbhkejfaejhaa", sum := "cd9c8ed687dab89613c1977f10179b8839efdda3f72fe6a137c53cbf2a63c7ff", func := "almagest/almagestlaw7.SpanEqual", spec := "spanEqual", recurses := true, apart := false, narrowed := true }
def SpanEqualUptoSaid : Prop := spanEqualUptoRow.holds Try.pinned (OpenSpec.upto spanEqualSpec)

/-- 'almagestlaw7.SpanEnded', WHERE WHAT IT READS IS OF BULK AT MOST 1048576: true; the input reads as it did. -/
def spanEndedUptoRow : OpenClaim := { program := "ytkpbhkejfaejhaa", sum := "cd9c8ed687dab89613c1977f10179b8839efdda3f72fe6a137c53cbf2a63c7ff", func := "almagest/almagestlaw7.SpanEnded", spec := "spanEnded", recurses := true, apart := false, narrowed := true }
def SpanEndedUptoSaid : Prop := spanEndedUptoRow.holds Try.pinned (OpenSpec.upto spanEndedSpec)

/-- 'almagestlaw7.SpanHolds', WHERE WHAT IT READS IS OF BULK AT MOST 1048576: true; the input reads as it did. -/
def spanHoldsUptoRow : OpenClaim := { program := "ytkpbhkejfaejhaa", sum := "cd9c8ed687dab89613c1977f10179b8839efdda3f72fe6a137c53cbf2a63c7ff", func := "almagest/almagestlaw7.SpanHolds", spec := "spanHolds", recurses := true, apart := false, narrowed := true }
def SpanHoldsUptoSaid : Prop := spanHoldsUptoRow.holds Try.pinned (OpenSpec.upto spanHoldsSpec)

/-- 'almagestlaw7.SpanStarted', WHERE WHAT IT READS IS OF BULK AT MOST 1048576: true; the input reads as it did. -/
def spanStartedUptoRow : OpenClaim := { program := "ytkpbhkejfaejhaa", sum := "cd9c8ed687dab89613c1977f10179b8839efdda3f72fe6a137c53cbf2a63c7ff", func := "almagest/almagestlaw7.SpanStarted", spec := "spanStarted", recurses := true, apart := false, narrowed := true }
def SpanStartedUptoSaid : Prop := spanStartedUptoRow.holds Try.pinned (OpenSpec.upto spanStartedSpec)

/-- 'almagestlaw7.SpanOverlapped', WHERE WHAT IT READS IS OF BULK AT MOST 1048576: true; the input reads as it did. -/
def spanOverlappedUptoRow : OpenClaim := { program := "ytkpbhkejfaejhaa", sum := "cd9c8ed687dab89613c1977f10179b8839efdda3f72fe6a137c53cbf2a63c7ff", func := "almagest/almagestlaw7.SpanOverlapped", spec := "spanOverlapped", recurses := true, apart := false, narrowed := true }
def SpanOverlappedUptoSaid : Prop := spanOverlappedUptoRow.holds Try.pinned (OpenSpec.upto spanOverlappedSpec)

/-- 'almagestlaw7.SpanMet', WHERE WHAT IT READS IS OF BULK AT MOST 1048576: true; the input reads as it did. -/
def spanMetUptoRow : OpenClaim := { program := "ytkpbhkejfaejhaa", sum := "cd9c8ed687dab89613c1977f10179b8839efdda3f72fe6a137c53cbf2a63c7ff", func := "almagest/almagestlaw7.SpanMet", spec := "spanMet", recurses := true, apart := false, narrowed := true }
def SpanMetUptoSaid : Prop := spanMetUptoRow.holds Try.pinned (OpenSpec.upto spanMetSpec)

/-- 'almagestlaw7.SpanAfter', WHERE WHAT IT READS IS OF BULK AT MOST 1048576: true; the input reads as it did. -/
def spanAfterUptoRow : OpenClaim := { program := "ytkpbhkejfaejhaa", sum := "cd9c8ed687dab89613c1977f10179b8839efdda3f72fe6a137c53cbf2a63c7ff", func := "almagest/almagestlaw7.SpanAfter", spec := "spanAfter", recurses := true, apart := false, narrowed := true }
def SpanAfterUptoSaid : Prop := spanAfterUptoRow.holds Try.pinned (OpenSpec.upto spanAfterSpec)

/-- 'almagestlaw7.SpanOne', WHERE WHAT IT READS IS OF BULK AT MOST 1048576: true; the input reads as it did. -/
def spanOneUptoRow : OpenClaim := { program := "ytkpbhkejfaejhaa", sum := "cd9c8ed687dab89613c1977f10179b8839efdda3f72fe6a137c53cbf2a63c7ff", func := "almagest/almagestlaw7.SpanOne", spec := "spanOne", recurses := true, apart := false, narrowed := true }
def SpanOneUptoSaid : Prop := spanOneUptoRow.holds Try.pinned (OpenSpec.upto spanOneSpec)

/-- 'almagestlaw7.SpanLies', WHERE WHAT IT READS IS OF BULK AT MOST 1048576: true; the input reads as it did. -/
def spanLiesUptoRow : OpenClaim := { program := "ytkpbhkejfaejhaa", sum := "cd9c8ed687dab89613c1977f10179b8839efdda3f72fe6a137c53cbf2a63c7ff", func := "almagest/almagestlaw7.SpanLies", spec := "spanLies", recurses := true, apart := false, narrowed := true }
def SpanLiesUptoSaid : Prop := spanLiesUptoRow.holds Try.pinned (OpenSpec.upto spanLiesSpec)

end Rows
end Go.Proofs.Ytkpbhkejfaejhaa
