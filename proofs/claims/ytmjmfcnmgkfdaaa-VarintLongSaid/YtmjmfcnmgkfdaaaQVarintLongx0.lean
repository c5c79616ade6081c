-- Written by a program of this session (wip/myprint.py), over the words of the print
import Derived.Test.YtmjmfcnmgkfdaaaProg
import Derived.Below
import Derived.Deep.Draws
import Derived.Deep.AppendLies
import Derived.Maps.AppendAt
import Derived.OwnWalk
import Derived.Laws.BytesArg
import Derived.Laws.MakeOwn
import Derived.Laws.OwnMore
import Derived.Deep.OwnRows
import Derived.Tactics
import Derived.Lib.ConvBytes
import Derived.Laws.Slices
import Derived.WalkKit
import Derived.KernelRfl
import Derived.RowKit3
import Derived.Deep.LoopGhost
import Derived.Deep.QuietTactic
import Derived.BigQuiet
import Derived.WideLaws
import Derived.Deep.DeepCutAuto
import Derived.Deep.CutBlock
import Derived.Deep.RegionHeld3
import Derived.Laws.Rows
import Derived.Lib.AppendStr
import Derived.ArgAppend
import Derived.Laws.IdiomCopy
import Derived.OrdersHeld
import Derived.Laws.BitsLemmas
import Derived.RowKit
import Derived.Test.YtmjmfcnmgkfdaaaWWords
import Derived.Test.YtmjmfcnmgkfdaaaWLast
import Derived.Test.YtmjmfcnmgkfdaaaWTab
import Derived.Test.YtmjmfcnmgkfdaaaWFour
import Derived.Test.YtmjmfcnmgkfdaaaWQPut
import Derived.Test.YtmjmfcnmgkfdaaaWApart
import Derived.Test.YtmjmfcnmgkfdaaaWArr
import Derived.Test.YtmjmfcnmgkfdaaaWZeros
import Derived.Test.YtmjmfcnmgkfdaaaWFoot
import Derived.Test.YtmjmfcnmgkfdaaaWKept
import Derived.Test.YtmjmfcnmgkfdaaaWShare
import Derived.Test.YtmjmfcnmgkfdaaaWN
import Derived.Test.YtmjmfcnmgkfdaaaWFootNe
import Derived.Test.YtmjmfcnmgkfdaaaWAt
import Derived.Test.YtmjmfcnmgkfdaaaWEqStruct
import Derived.Test.YtmjmfcnmgkfdaaaWRepsOne
import Derived.Test.YtmjmfcnmgkfdaaaWInv
import Derived.Test.YtmjmfcnmgkfdaaaWInvWords
import Derived.Test.YtmjmfcnmgkfdaaaWGuard
import Derived.Test.YtmjmfcnmgkfdaaaWNEv
import Derived.Test.YtmjmfcnmgkfdaaaWMore
namespace Go.Proofs.Ytmjmfcnmgkfdaaa.QVarintLong
open Go.RowKit Go.Proofs.YtmjmfcnmgkfdaaaW.PrintWords Go.Proofs.YtmjmfcnmgkfdaaaW.PrintLast Go.Proofs.YtmjmfcnmgkfdaaaW.PrintMore
attribute [local go_sem] max2_int min2_int max_two min_two max_three min_three max_four min_four   -- for this text's walks alone
set_option linter.unusedVariables false
set_option linter.unusedSimpArgs false



def errW : Option Int → Value
  | none => .nilIface
  | some c => .iface 0 (.int .i64 c)
theorem errW_none : errW none = .nilIface := rfl
theorem errW_some (c : Int) : errW (some c) = .iface 0 (.int .i64 c) := rfl

theorem info5 : (Try.prog.info? 5).map (fun i => (i.zero, i.size, i.bytes)) = some (some (.int .u8 0), 1, 1) := by kernel_rfl
-- the values' own types

end Go.Proofs.Ytmjmfcnmgkfdaaa.QVarintLong
