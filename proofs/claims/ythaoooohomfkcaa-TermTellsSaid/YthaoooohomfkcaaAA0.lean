/- Functions of the program as Lean functions, and that their calls come to them. No condition. -/
import Derived.Test.YthaoooohomfkcaaA0
import Derived.Test.YthaoooohomfkcaaProg
import Derived.Below
import Derived.Deep.Draws
import Derived.Deep.AppendLies
import Derived.Maps.AppendAt
import Derived.OwnWalk
import Derived.Laws.BytesArg
import Derived.Laws.MakeOwn
import Derived.Laws.OwnMore
import Derived.Deep.OwnRows
import Derived.Tactics
import Derived.Lib.ConvBytes
import Derived.Laws.Slices
import Derived.WalkKit
import Derived.KernelRfl
import Derived.RowKit3
import Derived.Deep.LoopGhost
import Derived.Deep.QuietTactic
import Derived.BigQuiet
import Derived.WideLaws
import Derived.Deep.DeepCutAuto
import Derived.Deep.CutBlock
import Derived.Deep.RegionHeld3
import Derived.Laws.Rows
import Derived.Lib.AppendStr
import Derived.ArgAppend
import Derived.Laws.IdiomCopy
import Derived.OrdersHeld
import Derived.Laws.BitsLemmas
import Derived.RowKit
import Derived.Test.YthaoooohomfkcaaWWords
import Derived.Test.YthaoooohomfkcaaWLast
import Derived.Test.YthaoooohomfkcaaWTab
import Derived.Test.YthaoooohomfkcaaWQPut
import Derived.Test.YthaoooohomfkcaaWApart
import Derived.Test.YthaoooohomfkcaaWArr
import Derived.Test.YthaoooohomfkcaaWZeros
import Derived.Test.YthaoooohomfkcaaWFoot
import Derived.Test.YthaoooohomfkcaaWKept
import Derived.Test.YthaoooohomfkcaaWShare
import Derived.Test.YthaoooohomfkcaaWN
import Derived.Test.YthaoooohomfkcaaWGuard
import Derived.Test.YthaoooohomfkcaaWNEv
import Derived.Test.YthaoooohomfkcaaWMore
namespace Go.Proofs.Ythaoooohomfkcaa.AA
open Go.RowKit Go.Proofs.YthaoooohomfkcaaW.PrintWords Go.Proofs.YthaoooohomfkcaaW.PrintLast Go.Proofs.YthaoooohomfkcaaW.PrintMore
open Go.Proofs.Ythaoooohomfkcaa.A
attribute [local go_sem] max2_int min2_int max_two min_two max_three min_three max_four min_four   -- for this text's walks alone
set_option linter.unusedVariables false
set_option linter.unusedSimpArgs false



theorem info9 : (Try.prog.info? 9).map (fun i => (i.zero, i.size, i.bytes)) = some (some (.string ⟨#[]⟩), 1, 16) := by kernel_rfl
-- the values' own types

end Go.Proofs.Ythaoooohomfkcaa.AA
