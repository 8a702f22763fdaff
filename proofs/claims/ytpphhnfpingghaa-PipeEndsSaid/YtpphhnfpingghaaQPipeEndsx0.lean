-- printed for this claim by the kit's print, turned by a program of this session (texts of its own are taken for some functions); not trusted: Lean checks it
import Derived.Test.YtpphhnfpingghaaProg
import Derived.Below
import Derived.Deep.Draws
import Derived.Deep.AppendLies
import Derived.Maps.AppendAt
import Derived.OwnWalk
import Derived.Laws.BytesArg
import Derived.Laws.MakeOwn
import Derived.Laws.OwnMore
import Derived.Deep.OwnRows
import Derived.Tactics
import Derived.Lib.ConvBytes
import Derived.Laws.Slices
import Derived.WalkKit
import Derived.KernelRfl
import Derived.RowKit3
import Derived.Deep.LoopGhost
import Derived.Deep.QuietTactic
import Derived.BigQuiet
import Derived.WideLaws
import Derived.Deep.DeepCutAuto
import Derived.Deep.CutBlock
import Derived.Deep.RegionHeld3
import Derived.Laws.Rows
import Derived.Lib.AppendStr
import Derived.ArgAppend
import Derived.Laws.IdiomCopy
import Derived.OrdersHeld
import Derived.Laws.BitsLemmas
import Derived.RowKit
import Derived.Test.YtpphhnfpingghaaPipeAwake
import Derived.Test.YtpphhnfpingghaaWWords
import Derived.Test.YtpphhnfpingghaaWLast
import Derived.Test.YtpphhnfpingghaaWTab
import Derived.Test.YtpphhnfpingghaaWFour
import Derived.Test.YtpphhnfpingghaaWQPut
import Derived.Test.YtpphhnfpingghaaWApart
import Derived.Test.YtpphhnfpingghaaWArr
import Derived.Test.YtpphhnfpingghaaWZeros
import Derived.Test.YtpphhnfpingghaaWFoot
import Derived.Test.YtpphhnfpingghaaWKept
import Derived.Test.YtpphhnfpingghaaWShare
import Derived.Test.YtpphhnfpingghaaWN
import Derived.Test.YtpphhnfpingghaaWFootNe
import Derived.Test.YtpphhnfpingghaaWAt
import Derived.Test.YtpphhnfpingghaaWEqStruct
import Derived.Test.YtpphhnfpingghaaWRepsOne
import Derived.Test.YtpphhnfpingghaaWInv
import Derived.Test.YtpphhnfpingghaaWInvWords
import Derived.Test.YtpphhnfpingghaaWGuard
import Derived.Test.YtpphhnfpingghaaWNEv
import Derived.Test.YtpphhnfpingghaaWMore
namespace Go.Proofs.Ytpphhnfpingghaa.QPipeEnds
open Go.RowKit Go.Proofs.YtpphhnfpingghaaW.PrintWords Go.Proofs.YtpphhnfpingghaaW.PrintLast Go.Proofs.YtpphhnfpingghaaW.PrintMore
attribute [local go_sem] max2_int min2_int max_two min_two max_three min_three max_four min_four   -- for this text's walks alone
set_option linter.unusedVariables false
set_option linter.unusedSimpArgs false



def errW : Option Int → Value
  | none => .nilIface
  | some c => .iface 0 (.int .i64 c)
theorem errW_none : errW none = .nilIface := rfl
theorem errW_some (c : Int) : errW (some c) = .iface 0 (.int .i64 c) := rfl

-- the values' own types

end Go.Proofs.Ytpphhnfpingghaa.QPipeEnds
