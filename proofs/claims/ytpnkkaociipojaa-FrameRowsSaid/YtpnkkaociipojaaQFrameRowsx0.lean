-- Written by a program of this session (wip/myprint.py), over the words of the print
import Derived.Test.YtpnkkaociipojaaProg
import Derived.Below
import Derived.Deep.Draws
import Derived.Deep.AppendLies
import Derived.Maps.AppendAt
import Derived.OwnWalk
import Derived.Laws.BytesArg
import Derived.Laws.MakeOwn
import Derived.Laws.OwnMore
import Derived.Deep.OwnRows
import Derived.Tactics
import Derived.Lib.ConvBytes
import Derived.Laws.Slices
import Derived.WalkKit
import Derived.KernelRfl
import Derived.RowKit3
import Derived.Deep.LoopGhost
import Derived.Deep.QuietTactic
import Derived.BigQuiet
import Derived.WideLaws
import Derived.Deep.DeepCutAuto
import Derived.Deep.CutBlock
import Derived.Deep.RegionHeld3
import Derived.Laws.Rows
import Derived.Lib.AppendStr
import Derived.ArgAppend
import Derived.Laws.IdiomCopy
import Derived.OrdersHeld
import Derived.Laws.BitsLemmas
import Derived.RowKit
import Derived.Test.YtpnkkaociipojaaWWords
import Derived.Test.YtpnkkaociipojaaWLast
import Derived.Test.YtpnkkaociipojaaWTab
import Derived.Test.YtpnkkaociipojaaWFour
import Derived.Test.YtpnkkaociipojaaWQPut
import Derived.Test.YtpnkkaociipojaaWApart
import Derived.Test.YtpnkkaociipojaaWArr
import Derived.Test.YtpnkkaociipojaaWZeros
import Derived.Test.YtpnkkaociipojaaWFoot
import Derived.Test.YtpnkkaociipojaaWKept
import Derived.Test.YtpnkkaociipojaaWShare
import Derived.Test.YtpnkkaociipojaaWN
import Derived.Test.YtpnkkaociipojaaWFootNe
import Derived.Test.YtpnkkaociipojaaWAt
import Derived.Test.YtpnkkaociipojaaWEqStruct
import Derived.Test.YtpnkkaociipojaaWRepsOne
import Derived.Test.YtpnkkaociipojaaWInv
import Derived.Test.YtpnkkaociipojaaWInvWords
import Derived.Test.YtpnkkaociipojaaWGuard
import Derived.Test.YtpnkkaociipojaaWNEv
import Derived.Test.YtpnkkaociipojaaWMore
namespace Go.Proofs.Ytpnkkaociipojaa.QFrameRows
open Go.RowKit Go.Proofs.YtpnkkaociipojaaW.PrintWords Go.Proofs.YtpnkkaociipojaaW.PrintLast Go.Proofs.YtpnkkaociipojaaW.PrintMore
attribute [local go_sem] max2_int min2_int max_two min_two max_three min_three max_four min_four   -- for this text's walks alone
set_option linter.unusedVariables false
set_option linter.unusedSimpArgs false



def errW : Option Int → Value
  | none => .nilIface
  | some c => .iface 0 (.int .i64 c)
theorem errW_none : errW none = .nilIface := rfl
theorem errW_some (c : Int) : errW (some c) = .iface 0 (.int .i64 c) := rfl

theorem info5 : (Try.prog.info? 5).map (fun i => (i.zero, i.size, i.bytes)) = some (some (.int .u8 0), 1, 1) := by kernel_rfl
theorem info9 : (Try.prog.info? 9).map (fun i => (i.zero, i.size, i.bytes)) = some (some (.string ⟨#[]⟩), 1, 16) := by kernel_rfl
-- the values' own types

end Go.Proofs.Ytpnkkaociipojaa.QFrameRows
