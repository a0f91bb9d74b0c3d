-- Written by a program of this proof's author (wip/myprint.py, over the translation): group S.
import Derived.Test.YtcjedinpiedhcaaProg
import Derived.Below
import Derived.Deep.Draws
import Derived.Deep.AppendLies
import Derived.Maps.AppendAt
import Derived.OwnWalk
import Derived.Laws.BytesArg
import Derived.Laws.MakeOwn
import Derived.Laws.OwnMore
import Derived.Deep.OwnRows
import Derived.Tactics
import Derived.Lib.ConvBytes
import Derived.Laws.Slices
import Derived.WalkKit
import Derived.KernelRfl
import Derived.RowKit3
import Derived.Deep.LoopGhost
import Derived.Deep.QuietTactic
import Derived.BigQuiet
import Derived.WideLaws
import Derived.Deep.DeepCutAuto
import Derived.Deep.CutBlock
import Derived.Deep.RegionHeld3
import Derived.Laws.Rows
import Derived.Lib.AppendStr
import Derived.ArgAppend
import Derived.Laws.IdiomCopy
import Derived.OrdersHeld
import Derived.Laws.BitsLemmas
import Derived.RowKit
import Derived.Test.YtcjedinpiedhcaaB
import Derived.Test.YtcjedinpiedhcaaWWords
import Derived.Test.YtcjedinpiedhcaaWLast
import Derived.Test.YtcjedinpiedhcaaWTab
import Derived.Test.YtcjedinpiedhcaaWFour
import Derived.Test.YtcjedinpiedhcaaWQPut
import Derived.Test.YtcjedinpiedhcaaWApart
import Derived.Test.YtcjedinpiedhcaaWArr
import Derived.Test.YtcjedinpiedhcaaWZeros
import Derived.Test.YtcjedinpiedhcaaWFoot
import Derived.Test.YtcjedinpiedhcaaWKept
import Derived.Test.YtcjedinpiedhcaaWShare
import Derived.Test.YtcjedinpiedhcaaWN
import Derived.Test.YtcjedinpiedhcaaWFootNe
import Derived.Test.YtcjedinpiedhcaaWAt
import Derived.Test.YtcjedinpiedhcaaWEqStruct
import Derived.Test.YtcjedinpiedhcaaWRepsOne
import Derived.Test.YtcjedinpiedhcaaWInv
import Derived.Test.YtcjedinpiedhcaaWInvWords
import Derived.Test.YtcjedinpiedhcaaWGuard
import Derived.Test.YtcjedinpiedhcaaWNEv
import Derived.Test.YtcjedinpiedhcaaWMore
namespace Go.Proofs.Ytcjedinpiedhcaa.PS
open Go.RowKit Go.Proofs.YtcjedinpiedhcaaW.PrintWords Go.Proofs.YtcjedinpiedhcaaW.PrintLast Go.Proofs.YtcjedinpiedhcaaW.PrintMore Go.Proofs.YtcjedinpiedhcaaB
attribute [local go_sem] max2_int min2_int max_two min_two max_three min_three max_four min_four   -- for this text's walks alone
set_option linter.unusedVariables false
set_option linter.unusedSimpArgs false



def errW : Option Int → Value
  | none => .nilIface
  | some c => .iface 0 (.int .i64 c)
theorem errW_none : errW none = .nilIface := rfl
theorem errW_some (c : Int) : errW (some c) = .iface 0 (.int .i64 c) := rfl

theorem info5 : (Try.prog.info? 5).map (fun i => (i.zero, i.size, i.bytes)) = some (some (.int .u8 0), 1, 1) := by kernel_rfl
theorem info9 : (Try.prog.info? 9).map (fun i => (i.zero, i.size, i.bytes)) = some (some (.string ⟨#[]⟩), 1, 16) := by kernel_rfl
-- the values' own types

end Go.Proofs.Ytcjedinpiedhcaa.PS
