-- Written by this session's own program (wip/tools/mkprint.py) over the kit's printer, with overrides.
import Derived.Test.YtmebebpnogemdaaProg
import Derived.Below
import Derived.Deep.Draws
import Derived.Deep.AppendLies
import Derived.Maps.AppendAt
import Derived.OwnWalk
import Derived.Laws.BytesArg
import Derived.Laws.MakeOwn
import Derived.Laws.OwnMore
import Derived.Deep.OwnRows
import Derived.Tactics
import Derived.Lib.ConvBytes
import Derived.Laws.Slices
import Derived.WalkKit
import Derived.KernelRfl
import Derived.RowKit3
import Derived.Deep.LoopGhost
import Derived.Deep.QuietTactic
import Derived.BigQuiet
import Derived.WideLaws
import Derived.Deep.DeepCutAuto
import Derived.Deep.CutBlock
import Derived.Deep.RegionHeld3
import Derived.Laws.Rows
import Derived.Lib.AppendStr
import Derived.ArgAppend
import Derived.Laws.IdiomCopy
import Derived.OrdersHeld
import Derived.Laws.BitsLemmas
import Derived.RowKit
import Derived.RegionTactic
import Derived.ChangeAlike
import Derived.Lib.Hide
import Derived.Lib.Walk
import Derived.Shelf.Abstract
import Derived.Laws.Externs
import Derived.ScopeJumps
import Derived.WalkMore
import Derived.Test.YtmebebpnogemdaaMine
import Derived.Test.YtmebebpnogemdaaStr
import Derived.Test.YtmebebpnogemdaaWr
import Derived.Test.YtmebebpnogemdaaWWords
import Derived.Test.YtmebebpnogemdaaWLast
import Derived.Test.YtmebebpnogemdaaWTab
import Derived.Test.YtmebebpnogemdaaWFour
import Derived.Test.YtmebebpnogemdaaWQPut
import Derived.Test.YtmebebpnogemdaaWApart
import Derived.Test.YtmebebpnogemdaaWArr
import Derived.Test.YtmebebpnogemdaaWZeros
import Derived.Test.YtmebebpnogemdaaWFoot
import Derived.Test.YtmebebpnogemdaaWKept
import Derived.Test.YtmebebpnogemdaaWShare
import Derived.Test.YtmebebpnogemdaaWN
import Derived.Test.YtmebebpnogemdaaWFootNe
import Derived.Test.YtmebebpnogemdaaWAt
import Derived.Test.YtmebebpnogemdaaWEqStruct
import Derived.Test.YtmebebpnogemdaaWRepsOne
import Derived.Test.YtmebebpnogemdaaWInv
import Derived.Test.YtmebebpnogemdaaWInvWords
import Derived.Test.YtmebebpnogemdaaWGuard
import Derived.Test.YtmebebpnogemdaaWNEv
import Derived.Test.YtmebebpnogemdaaWMore
namespace Go.Proofs.Ytmebebpnogemdaa.POctLong
open Go.RowKit Go.Mine Go.Proofs.YtmebebpnogemdaaW.PrintWords Go.Proofs.YtmebebpnogemdaaW.PrintLast Go.Proofs.YtmebebpnogemdaaW.PrintMore
attribute [local go_sem] max2_int min2_int max_two min_two max_three min_three max_four min_four   -- for this text's walks alone
set_option linter.unusedVariables false
set_option linter.unusedSimpArgs false



def errW : Option Int → Value
  | none => .nilIface
  | some c => .iface 0 (.int .i64 c)
theorem errW_none : errW none = .nilIface := rfl
theorem errW_some (c : Int) : errW (some c) = .iface 0 (.int .i64 c) := rfl

theorem info5 : (Try.prog.info? 5).map (fun i => (i.zero, i.size, i.bytes)) = some (some (.int .u8 0), 1, 1) := by kernel_rfl
-- the values' own types

end Go.Proofs.Ytmebebpnogemdaa.POctLong
