-- PRINTED BY print.sh 35421559b90ae4d0a3588c463048766b98c2df88dd9212a6774a882060cdf62d: not written by this session
import Derived.Test.YtjfjkgjaibnjeaaDoorProg
import Derived.Below
import Derived.Deep.Draws
import Derived.Deep.AppendLies
import Derived.Maps.AppendAt
import Derived.OwnWalk
import Derived.Laws.BytesArg
import Derived.Laws.MakeOwn
import Derived.Laws.OwnMore
import Derived.Deep.OwnRows
import Derived.Tactics
import Derived.Lib.ConvBytes
import Derived.Laws.Slices
import Derived.WalkKit
import Derived.KernelRfl
import Derived.RowKit3
import Derived.Deep.LoopGhost
import Derived.Deep.QuietTactic
import Derived.BigQuiet
import Derived.WideLaws
import Derived.Deep.DeepCutAuto
import Derived.Deep.CutBlock
import Derived.Deep.RegionHeld3
import Derived.Laws.Rows
import Derived.Lib.AppendStr
import Derived.ArgAppend
import Derived.Laws.IdiomCopy
import Derived.OrdersHeld
import Derived.Laws.BitsLemmas
import Derived.RowKit
import Derived.Test.YtjfjkgjaibnjeaaDoorWWords
import Derived.Test.YtjfjkgjaibnjeaaDoorWLast
import Derived.Test.YtjfjkgjaibnjeaaDoorWTab
import Derived.Test.YtjfjkgjaibnjeaaDoorWFour
import Derived.Test.YtjfjkgjaibnjeaaDoorWQPut
import Derived.Test.YtjfjkgjaibnjeaaDoorWApart
import Derived.Test.YtjfjkgjaibnjeaaDoorWArr
import Derived.Test.YtjfjkgjaibnjeaaDoorWZeros
import Derived.Test.YtjfjkgjaibnjeaaDoorWFoot
import Derived.Test.YtjfjkgjaibnjeaaDoorWKept
import Derived.Test.YtjfjkgjaibnjeaaDoorWShare
import Derived.Test.YtjfjkgjaibnjeaaDoorWN
import Derived.Test.YtjfjkgjaibnjeaaDoorWFootNe
import Derived.Test.YtjfjkgjaibnjeaaDoorWAt
import Derived.Test.YtjfjkgjaibnjeaaDoorWEqStruct
import Derived.Test.YtjfjkgjaibnjeaaDoorWRepsOne
import Derived.Test.YtjfjkgjaibnjeaaDoorWInv
import Derived.Test.YtjfjkgjaibnjeaaDoorWInvWords
import Derived.Test.YtjfjkgjaibnjeaaDoorWGuard
import Derived.Test.YtjfjkgjaibnjeaaDoorWNEv
import Derived.Test.YtjfjkgjaibnjeaaDoorWMore
namespace Go.Proofs.YtjfjkgjaibnjeaaDoor.PConnSays
open Go.RowKit Go.Proofs.YtjfjkgjaibnjeaaDoorW.PrintWords Go.Proofs.YtjfjkgjaibnjeaaDoorW.PrintLast Go.Proofs.YtjfjkgjaibnjeaaDoorW.PrintMore
attribute [local go_sem] max2_int min2_int max_two min_two max_three min_three max_four min_four   -- for this text's walks alone
set_option linter.unusedVariables false
set_option linter.unusedSimpArgs false



def errW : Option Int → Value
  | none => .nilIface
  | some c => .iface 0 (.int .i64 c)
theorem errW_none : errW none = .nilIface := rfl
theorem errW_some (c : Int) : errW (some c) = .iface 0 (.int .i64 c) := rfl

-- the values' own types

end Go.Proofs.YtjfjkgjaibnjeaaDoor.PConnSays
