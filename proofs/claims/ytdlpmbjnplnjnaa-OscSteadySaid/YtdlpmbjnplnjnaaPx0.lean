/- What is proved here: each Go function that this text names answers as the Lean function of its name says, whenever that one answers; and a law's row follows from its plain statement. Laid by a program of the session over the kit's print. -/
import Derived.Test.YtdlpmbjnplnjnaaProg
import Derived.Below
import Derived.Deep.Draws
import Derived.Deep.AppendLies
import Derived.Maps.AppendAt
import Derived.OwnWalk
import Derived.Laws.BytesArg
import Derived.Laws.MakeOwn
import Derived.Laws.OwnMore
import Derived.Deep.OwnRows
import Derived.Tactics
import Derived.Lib.ConvBytes
import Derived.Laws.Slices
import Derived.WalkKit
import Derived.KernelRfl
import Derived.RowKit3
import Derived.Deep.LoopGhost
import Derived.Deep.QuietTactic
import Derived.BigQuiet
import Derived.WideLaws
import Derived.Deep.DeepCutAuto
import Derived.Deep.CutBlock
import Derived.Deep.RegionHeld3
import Derived.Laws.Rows
import Derived.Lib.AppendStr
import Derived.ArgAppend
import Derived.Laws.IdiomCopy
import Derived.OrdersHeld
import Derived.Laws.BitsLemmas
import Derived.RowKit
import Derived.Test.YtdlpmbjnplnjnaaWWords
import Derived.Test.YtdlpmbjnplnjnaaWLast
import Derived.Test.YtdlpmbjnplnjnaaWTab
import Derived.Test.YtdlpmbjnplnjnaaWFour
import Derived.Test.YtdlpmbjnplnjnaaWQPut
import Derived.Test.YtdlpmbjnplnjnaaWApart
import Derived.Test.YtdlpmbjnplnjnaaWArr
import Derived.Test.YtdlpmbjnplnjnaaWZeros
import Derived.Test.YtdlpmbjnplnjnaaWFoot
import Derived.Test.YtdlpmbjnplnjnaaWKept
import Derived.Test.YtdlpmbjnplnjnaaWShare
import Derived.Test.YtdlpmbjnplnjnaaWN
import Derived.Test.YtdlpmbjnplnjnaaWFootNe
import Derived.Test.YtdlpmbjnplnjnaaWAt
import Derived.Test.YtdlpmbjnplnjnaaWEqStruct
import Derived.Test.YtdlpmbjnplnjnaaWRepsOne
import Derived.Test.YtdlpmbjnplnjnaaWInv
import Derived.Test.YtdlpmbjnplnjnaaWInvWords
import Derived.Test.YtdlpmbjnplnjnaaWGuard
import Derived.Test.YtdlpmbjnplnjnaaWNEv
import Derived.Test.YtdlpmbjnplnjnaaWMore
namespace Go.Proofs.Ytdlpmbjnplnjnaa.P
open Go.RowKit Go.Proofs.YtdlpmbjnplnjnaaW.PrintWords Go.Proofs.YtdlpmbjnplnjnaaW.PrintLast Go.Proofs.YtdlpmbjnplnjnaaW.PrintMore
attribute [local go_sem] max2_int min2_int max_two min_two max_three min_three max_four min_four   -- for this text's walks alone
set_option linter.unusedVariables false
set_option linter.unusedSimpArgs false



def errW : Option Int → Value
  | none => .nilIface
  | some c => .iface 0 (.int .i64 c)
theorem errW_none : errW none = .nilIface := rfl
theorem errW_some (c : Int) : errW (some c) = .iface 0 (.int .i64 c) := rfl

-- the values' own types

end Go.Proofs.Ytdlpmbjnplnjnaa.P
