-- Written by a program of this proof's author (wip/myprint.py, over the translation): group E.
import Derived.Test.YtcjedinpiedhcaaDoorProg
import Derived.Below
import Derived.Deep.Draws
import Derived.Deep.AppendLies
import Derived.Maps.AppendAt
import Derived.OwnWalk
import Derived.Laws.BytesArg
import Derived.Laws.MakeOwn
import Derived.Laws.OwnMore
import Derived.Deep.OwnRows
import Derived.Tactics
import Derived.Lib.ConvBytes
import Derived.Laws.Slices
import Derived.WalkKit
import Derived.KernelRfl
import Derived.RowKit3
import Derived.Deep.LoopGhost
import Derived.Deep.QuietTactic
import Derived.BigQuiet
import Derived.WideLaws
import Derived.Deep.DeepCutAuto
import Derived.Deep.CutBlock
import Derived.Deep.RegionHeld3
import Derived.Laws.Rows
import Derived.Lib.AppendStr
import Derived.ArgAppend
import Derived.Laws.IdiomCopy
import Derived.OrdersHeld
import Derived.Laws.BitsLemmas
import Derived.RowKit
import Derived.Test.YtcjedinpiedhcaaDoorX
import Derived.Test.YtcjedinpiedhcaaDoorPq
import Derived.Test.YtcjedinpiedhcaaDoorShelf
import Derived.Test.YtcjedinpiedhcaaDoorWWords
import Derived.Test.YtcjedinpiedhcaaDoorWLast
import Derived.Test.YtcjedinpiedhcaaDoorWTab
import Derived.Test.YtcjedinpiedhcaaDoorWFour
import Derived.Test.YtcjedinpiedhcaaDoorWQPut
import Derived.Test.YtcjedinpiedhcaaDoorWApart
import Derived.Test.YtcjedinpiedhcaaDoorWArr
import Derived.Test.YtcjedinpiedhcaaDoorWZeros
import Derived.Test.YtcjedinpiedhcaaDoorWFoot
import Derived.Test.YtcjedinpiedhcaaDoorWKept
import Derived.Test.YtcjedinpiedhcaaDoorWShare
import Derived.Test.YtcjedinpiedhcaaDoorWN
import Derived.Test.YtcjedinpiedhcaaDoorWFootNe
import Derived.Test.YtcjedinpiedhcaaDoorWAt
import Derived.Test.YtcjedinpiedhcaaDoorWEqStruct
import Derived.Test.YtcjedinpiedhcaaDoorWRepsOne
import Derived.Test.YtcjedinpiedhcaaDoorWInv
import Derived.Test.YtcjedinpiedhcaaDoorWInvWords
import Derived.Test.YtcjedinpiedhcaaDoorWGuard
import Derived.Test.YtcjedinpiedhcaaDoorWNEv
import Derived.Test.YtcjedinpiedhcaaDoorWMore
namespace Go.Proofs.YtcjedinpiedhcaaDoor.PE
open Go.RowKit Go.Proofs.YtcjedinpiedhcaaDoorW.PrintWords Go.Proofs.YtcjedinpiedhcaaDoorW.PrintLast Go.Proofs.YtcjedinpiedhcaaDoorW.PrintMore Go.Proofs.YtcjedinpiedhcaaDoorX Go.Proofs.YtcjedinpiedhcaaDoorPq
attribute [local go_sem] max2_int min2_int max_two min_two max_three min_three max_four min_four   -- for this text's walks alone
set_option linter.unusedVariables false
set_option linter.unusedSimpArgs false



def errW : Option Int → Value
  | none => .nilIface
  | some c => .iface 0 (.int .i64 c)
theorem errW_none : errW none = .nilIface := rfl
theorem errW_some (c : Int) : errW (some c) = .iface 0 (.int .i64 c) := rfl

theorem info3 : (Tryd.prog.info? 3).map (fun i => (i.zero, i.size, i.bytes)) = some (some (.int .i64 0), 1, 8) := by kernel_rfl
theorem info9 : (Tryd.prog.info? 9).map (fun i => (i.zero, i.size, i.bytes)) = some (some (.string ⟨#[]⟩), 1, 16) := by kernel_rfl
theorem info21 : (Tryd.prog.info? 21).map (fun i => (i.zero, i.size, i.bytes)) = some (some (.int .i32 0), 1, 4) := by kernel_rfl
-- the values' own types

def b4_0 : Array Bool := #[false, false, false, false, false, false, false, false, false, false, false, false, false, false, false, false, false, false]
def b4_1 : Array Bool := #[true, false, false, false, false, false, false, false, false, false, false, false, false, false, false, false, false, false]
def b4_2 : Array Bool := #[true, true, false, false, false, false, false, false, false, false, false, false, false, false, false, false, false, false]
def b4_3 : Array Bool := #[true, true, true, false, false, false, false, false, false, false, false, false, false, false, false, false, false, false]
def b4_4 : Array Bool := #[true, true, true, false, true, false, false, false, false, false, false, false, false, false, false, false, false, false]
def b4_5 : Array Bool := #[true, true, true, false, true, true, false, false, false, false, false, false, false, false, false, false, false, false]
def b4_6 : Array Bool := #[true, true, true, false, true, true, true, false, false, false, false, false, false, false, false, false, false, false]
def b4_7 : Array Bool := #[true, true, true, false, true, true, true, false, true, false, false, false, false, false, false, false, false, false]
def b4_8 : Array Bool := #[true, true, true, false, true, true, true, false, true, true, false, false, false, false, false, false, false, false]
def b4_9 : Array Bool := #[true, true, true, false, true, true, true, false, true, true, true, false, false, false, false, false, false, false]
def b4_10 : Array Bool := #[true, true, true, true, true, true, true, false, true, true, true, false, false, false, false, false, false, false]
def b4_11 : Array Bool := #[true, true, true, true, true, true, true, true, true, true, true, false, false, false, false, false, false, false]
def b4_12 : Array Bool := #[true, true, true, true, true, true, true, true, true, true, true, true, false, false, false, false, false, false]
def b4_13 : Array Bool := #[true, true, true, true, true, true, true, true, true, true, true, true, true, false, false, false, false, false]
def b4_14 : Array Bool := #[true, true, true, true, true, true, true, true, true, true, true, true, true, true, false, false, false, false]
def b4_15 : Array Bool := #[true, true, true, true, true, true, true, true, true, true, true, true, true, true, true, false, false, false]
def b4_16 : Array Bool := #[true, true, true, true, true, true, true, true, true, true, true, true, true, true, true, true, false, false]
def b4_17 : Array Bool := #[true, true, true, true, true, true, true, true, true, true, true, true, true, true, true, true, true, false]
def b4_18 : Array Bool := #[true, true, true, true, true, true, true, true, true, true, true, true, true, true, true, true, true, true]
def b4_19 : Array Bool := #[false, false, false, false, false, false, false, false, false, false, false, false, false, false, false, false, false, false, false, false, false, false, false, false, false]
def b4_20 : Array Bool := #[true, false, false, false, false, false, false, false, false, false, false, false, false, false, false, false, false, false, false, false, false, false, false, false, false]
def b4_21 : Array Bool := #[true, true, false, false, false, false, false, false, false, false, false, false, false, false, false, false, false, false, false, false, false, false, false, false, false]
def b4_22 : Array Bool := #[true, true, true, false, false, false, false, false, false, false, false, false, false, false, false, false, false, false, false, false, false, false, false, false, false]
def b4_23 : Array Bool := #[true, true, true, true, false, false, false, false, false, false, false, false, false, false, false, false, false, false, false, false, false, false, false, false, false]
def b4_24 : Array Bool := #[true, true, true, true, true, false, false, false, false, false, false, false, false, false, false, false, false, false, false, false, false, false, false, false, false]
def b4_25 : Array Bool := #[true, true, true, true, true, true, false, false, false, false, false, false, false, false, false, false, false, false, false, false, false, false, false, false, false]
def b4_26 : Array Bool := #[true, true, true, true, true, true, true, false, false, false, false, false, false, false, false, false, false, false, false, false, false, false, false, false, false]
def b4_27 : Array Bool := #[true, true, true, true, true, true, true, true, false, false, false, false, false, false, false, false, false, false, false, false, false, false, false, false, false]
def b4_28 : Array Bool := #[true, true, true, true, true, true, true, true, true, false, false, false, false, false, false, false, false, false, false, false, false, false, false, false, false]
def b4_29 : Array Bool := #[true, true, true, true, true, true, true, true, true, false, true, false, false, false, false, false, false, false, false, false, false, false, false, false, false]
def b4_30 : Array Bool := #[true, true, true, true, true, true, true, true, true, false, true, true, false, false, false, false, false, false, false, false, false, false, false, false, false]
def b4_31 : Array Bool := #[true, true, true, true, true, true, true, true, true, false, true, true, true, false, false, false, false, false, false, false, false, false, false, false, false]
def b4_32 : Array Bool := #[true, true, true, true, true, true, true, true, true, true, true, true, true, false, false, false, false, false, false, false, false, false, false, false, false]
def b4_33 : Array Bool := #[true, true, true, true, true, true, true, true, true, true, true, true, true, true, false, false, false, false, false, false, false, false, false, false, false]
def b4_34 : Array Bool := #[true, true, true, true, true, true, true, true, true, true, true, true, true, true, true, false, false, false, false, false, false, false, false, false, false]
def b4_35 : Array Bool := #[true, true, true, true, true, true, true, true, true, true, true, true, true, true, true, true, false, false, false, false, false, false, false, false, false]
def b4_36 : Array Bool := #[true, true, true, true, true, true, true, true, true, true, true, true, true, true, true, true, true, false, false, false, false, false, false, false, false]
def b4_37 : Array Bool := #[true, true, true, true, true, true, true, true, true, true, true, true, true, true, true, true, true, true, false, false, false, false, false, false, false]
def b4_38 : Array Bool := #[true, true, true, true, true, true, true, true, true, true, true, true, true, true, true, true, true, true, true, false, false, false, false, false, false]
def b4_39 : Array Bool := #[true, true, true, true, true, true, true, true, true, true, true, true, true, true, true, true, true, true, true, true, false, false, false, false, false]
def b4_40 : Array Bool := #[true, true, true, true, true, true, true, true, true, true, true, true, true, true, true, true, true, true, true, true, false, true, false, false, false]
def b4_41 : Array Bool := #[true, true, true, true, true, true, true, true, true, true, true, true, true, true, true, true, true, true, true, true, false, true, true, false, false]
def b4_42 : Array Bool := #[true, true, true, true, true, true, true, true, true, true, true, true, true, true, true, true, true, true, true, true, true, true, true, false, false]
def b4_43 : Array Bool := #[true, true, true, true, true, true, true, true, true, true, true, true, true, true, true, true, true, true, true, true, true, true, true, true, false]
def b4_44 : Array Bool := #[true, true, true, true, true, true, true, true, true, true, true, true, true, true, true, true, true, true, true, true, true, true, true, true, true]
def b4_45 : Array Bool := #[true, true, true, true, true, true, true, true, true, true, true, true, true, true, true, true, true, true, true, true, true, false, false, false, false]
def b4_46 : Array Bool := #[true, true, true, true, true, true, true, true, true, true, true, true, true, true, true, true, true, true, true, true, true, true, false, false, false]
def b4_47 : Array Bool := #[true, true, true, true, true, true, true, true, true, true, false, false, false, false, false, false, false, false, false, false, false, false, false, false, false]
def b4_48 : Array Bool := #[true, true, true, true, true, true, true, true, true, true, true, false, false, false, false, false, false, false, false, false, false, false, false, false, false]
def b4_49 : Array Bool := #[true, true, true, true, true, true, true, true, true, true, true, true, false, false, false, false, false, false, false, false, false, false, false, false, false]
def b4_50 : Array Bool := #[false, false, false, false, false, false, false, false, false, false, false, false, false]
def b4_51 : Array Bool := #[true, false, false, false, false, false, false, false, false, false, false, false, false]
def b4_52 : Array Bool := #[true, true, false, false, false, false, false, false, false, false, false, false, false]
def b4_53 : Array Bool := #[true, true, true, false, false, false, false, false, false, false, false, false, false]
def b4_54 : Array Bool := #[true, true, true, true, false, false, false, false, false, false, false, false, false]
def b4_55 : Array Bool := #[true, true, true, true, false, true, false, false, false, false, false, false, false]
def b4_56 : Array Bool := #[true, true, true, true, false, true, true, false, false, false, false, false, false]
def b4_57 : Array Bool := #[true, true, true, true, false, true, true, true, false, false, false, false, false]
def b4_58 : Array Bool := #[true, true, true, true, true, true, true, true, false, false, false, false, false]
def b4_59 : Array Bool := #[true, true, true, true, true, true, true, true, true, false, false, false, false]
def b4_60 : Array Bool := #[true, true, true, true, true, true, true, true, true, true, false, false, false]
def b4_61 : Array Bool := #[true, true, true, true, true, true, true, true, true, true, true, false, false]
def b4_62 : Array Bool := #[true, true, true, true, true, true, true, true, true, true, true, true, false]
def b4_63 : Array Bool := #[true, true, true, true, true, true, true, true, true, true, true, true, true]
def b4_64 : Array Bool := #[true, true, true, false, false, false, false, true, false, false, false, false, false]
def b4_65 : Array Bool := #[true, true, true, false, false, false, false, true, true, false, false, false, false]
def b4_66 : Array Bool := #[true, true, true, false, false, false, false, true, true, true, false, false, false]
def b4_67 : Array Bool := #[true, true, true, true, false, false, false, true, true, true, false, false, false]
def b4_68 : Array Bool := #[true, true, true, true, false, false, false, true, true, true, true, false, false]
def b4_69 : Array Bool := #[true, true, true, true, true, false, false, true, true, true, true, false, false]
def b4_70 : Array Bool := #[true, true, true, true, true, true, false, true, true, true, true, false, false]
def b4_71 : Array Bool := #[false, false, false, false, false, false, false, false, false, false, false, false, false, false, false, false, false, false, false]
def b4_72 : Array Bool := #[true, false, false, false, false, false, false, false, false, false, false, false, false, false, false, false, false, false, false]
def b4_73 : Array Bool := #[true, true, false, false, false, false, false, false, false, false, false, false, false, false, false, false, false, false, false]
def b4_74 : Array Bool := #[true, true, true, false, false, false, false, false, false, false, false, false, false, false, false, false, false, false, false]
def b4_75 : Array Bool := #[true, true, true, false, true, false, false, false, false, false, false, false, false, false, false, false, false, false, false]
def b4_76 : Array Bool := #[true, true, true, false, true, true, false, false, false, false, false, false, false, false, false, false, false, false, false]
def b4_77 : Array Bool := #[true, true, true, false, true, true, true, false, false, false, false, false, false, false, false, false, false, false, false]
def b4_78 : Array Bool := #[true, true, true, false, true, true, true, true, false, false, false, false, false, false, false, false, false, false, false]
def b4_79 : Array Bool := #[true, true, true, false, true, true, true, true, true, false, false, false, false, false, false, false, false, false, false]
def b4_80 : Array Bool := #[true, true, true, false, true, true, true, true, true, true, false, false, false, false, false, false, false, false, false]
def b4_81 : Array Bool := #[true, true, true, false, true, true, true, true, true, true, true, false, false, false, false, false, false, false, false]
def b4_82 : Array Bool := #[true, true, true, true, true, true, true, true, true, true, true, false, false, false, false, false, false, false, false]
def b4_83 : Array Bool := #[true, true, true, true, true, true, true, true, true, true, true, true, false, false, false, false, false, false, false]
def b4_84 : Array Bool := #[true, true, true, true, true, true, true, true, true, true, true, true, true, false, false, false, false, false, false]
def b4_85 : Array Bool := #[true, true, true, true, true, true, true, true, true, true, true, true, true, true, false, false, false, false, false]
def b4_86 : Array Bool := #[true, true, true, true, true, true, true, true, true, true, true, true, true, true, true, false, false, false, false]
def b4_87 : Array Bool := #[true, true, true, true, true, true, true, true, true, true, true, true, true, true, true, true, false, false, false]
def b4_88 : Array Bool := #[true, true, true, true, true, true, true, true, true, true, true, true, true, true, true, true, true, false, false]
def b4_89 : Array Bool := #[true, true, true, true, true, true, true, true, true, true, true, true, true, true, true, true, true, true, false]
def b4_90 : Array Bool := #[true, true, true, true, true, true, true, true, true, true, true, true, true, true, true, true, true, true, true]
def b4_91 : Array Bool := #[false, false, false, false, false, false, false, false, false, false, false, false, false, false]
def b4_92 : Array Bool := #[true, false, false, false, false, false, false, false, false, false, false, false, false, false]
def b4_93 : Array Bool := #[true, true, false, false, false, false, false, false, false, false, false, false, false, false]
def b4_94 : Array Bool := #[true, true, true, false, false, false, false, false, false, false, false, false, false, false]
def b4_95 : Array Bool := #[true, true, true, false, true, false, false, false, false, false, false, false, false, false]
def b4_96 : Array Bool := #[true, true, true, false, true, true, false, false, false, false, false, false, false, false]
def b4_97 : Array Bool := #[true, true, true, false, true, true, true, false, false, false, false, false, false, false]
def b4_98 : Array Bool := #[true, true, true, false, true, true, true, true, false, false, false, false, false, false]
def b4_99 : Array Bool := #[true, true, true, false, true, true, true, true, true, false, false, false, false, false]
def b4_100 : Array Bool := #[true, true, true, false, true, true, true, true, true, true, false, false, false, false]
def b4_101 : Array Bool := #[true, true, true, false, true, true, true, true, true, true, true, false, false, false]
def b4_102 : Array Bool := #[true, true, true, true, true, true, true, true, true, true, true, false, false, false]
def b4_103 : Array Bool := #[true, true, true, true, true, true, true, true, true, true, true, true, false, false]
def b4_104 : Array Bool := #[true, true, true, true, true, true, true, true, true, true, true, true, true, false]
def b4_105 : Array Bool := #[true, true, true, true, true, true, true, true, true, true, true, true, true, true]
end Go.Proofs.YtcjedinpiedhcaaDoor.PE
