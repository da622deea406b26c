-- Written by wip/xprint.py (the session's program over the kit's print).
import Derived.Test.YtimgfgambeffeaaDoorEb
import Derived.Test.YtimgfgambeffeaaDoorProg
import Derived.Below
import Derived.Deep.Draws
import Derived.Deep.AppendLies
import Derived.Maps.AppendAt
import Derived.OwnWalk
import Derived.Laws.BytesArg
import Derived.Laws.MakeOwn
import Derived.Laws.OwnMore
import Derived.Deep.OwnRows
import Derived.Tactics
import Derived.Lib.ConvBytes
import Derived.Laws.Slices
import Derived.WalkKit
import Derived.KernelRfl
import Derived.RowKit3
import Derived.Deep.LoopGhost
import Derived.Deep.QuietTactic
import Derived.BigQuiet
import Derived.WideLaws
import Derived.Deep.DeepCutAuto
import Derived.Deep.CutBlock
import Derived.Deep.RegionHeld3
import Derived.Laws.Rows
import Derived.Lib.AppendStr
import Derived.ArgAppend
import Derived.Laws.IdiomCopy
import Derived.OrdersHeld
import Derived.Laws.BitsLemmas
import Derived.RowKit
import Derived.Test.YtimgfgambeffeaaDoorWWords
import Derived.Test.YtimgfgambeffeaaDoorWLast
import Derived.Test.YtimgfgambeffeaaDoorWTab
import Derived.Test.YtimgfgambeffeaaDoorWFour
import Derived.Test.YtimgfgambeffeaaDoorWQPut
import Derived.Test.YtimgfgambeffeaaDoorWApart
import Derived.Test.YtimgfgambeffeaaDoorWArr
import Derived.Test.YtimgfgambeffeaaDoorWZeros
import Derived.Test.YtimgfgambeffeaaDoorWFoot
import Derived.Test.YtimgfgambeffeaaDoorWKept
import Derived.Test.YtimgfgambeffeaaDoorWShare
import Derived.Test.YtimgfgambeffeaaDoorWN
import Derived.Test.YtimgfgambeffeaaDoorWFootNe
import Derived.Test.YtimgfgambeffeaaDoorWAt
import Derived.Test.YtimgfgambeffeaaDoorWEqStruct
import Derived.Test.YtimgfgambeffeaaDoorWRepsOne
import Derived.Test.YtimgfgambeffeaaDoorWInv
import Derived.Test.YtimgfgambeffeaaDoorWInvWords
import Derived.Test.YtimgfgambeffeaaDoorWGuard
import Derived.Test.YtimgfgambeffeaaDoorWNEv
import Derived.Test.YtimgfgambeffeaaDoorWMore
namespace Go.Proofs.YtimgfgambeffeaaDoor.J
open Go.RowKit Go.Proofs.YtimgfgambeffeaaDoorW.PrintWords Go.Proofs.YtimgfgambeffeaaDoorW.PrintLast Go.Proofs.YtimgfgambeffeaaDoorW.PrintMore Go.Proofs.Rcg
attribute [local go_sem] max2_int min2_int max_two min_two max_three min_three max_four min_four   -- for this text's walks alone
set_option linter.unusedVariables false
set_option linter.unusedSimpArgs false




theorem info3 : (Tryd.prog.info? 3).map (fun i => (i.zero, i.size, i.bytes)) = some (some (.int .i64 0), 1, 8) := by kernel_rfl
-- the values' own types

end Go.Proofs.YtimgfgambeffeaaDoor.J
