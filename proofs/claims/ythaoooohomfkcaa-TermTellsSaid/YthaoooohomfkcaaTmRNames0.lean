/- The page's own joining of rising names: plain words. No condition. -/
import Derived.Test.YthaoooohomfkcaaTmNames0
namespace Go.Proofs.Ythaoooohomfkcaa.A
open Go Go.RowKit
open Go.Proofs.YthaoooohomfkcaaW.PrintWords Go.Proofs.YthaoooohomfkcaaW.PrintLast Go.Proofs.YthaoooohomfkcaaW.PrintMore
set_option linter.unusedVariables false
/-- How many at the begin are ahead of a name. -/
def posB (s : ByteArray) : List ByteArray → Nat
  | [] => 0
  | x :: l => if Op.bytesLess x.toList s.toList = true then posB s l + 1 else 0
def insB (l : List ByteArray) (s : ByteArray) : List ByteArray :=
  if (l.drop (posB s l)).head?.map (fun x => x.toList) = some s.toList then l else l.take (posB s l) ++ s :: l.drop (posB s l)
def almagestref1_Names.f (l0 : List ByteArray) (l1 : List ByteArray) : Option (List ByteArray) := if l0.length + l1.length ≤ 1000000 then some (l1.foldl insB l0) else none
end Go.Proofs.Ythaoooohomfkcaa.A
