/- Contracts of the functions that the statement reaches, each with the plain function that it computes, written by a program out of the translation: whatever Lean takes of it stands proved. -/
import Derived.Test.YtpldpnkjmdlcdaaDoorProg
import Derived.Below
import Derived.Deep.Draws
import Derived.Deep.AppendLies
import Derived.Maps.AppendAt
import Derived.OwnWalk
import Derived.Laws.BytesArg
import Derived.Laws.MakeOwn
import Derived.Laws.OwnMore
import Derived.Deep.OwnRows
import Derived.Tactics
import Derived.Lib.ConvBytes
import Derived.Laws.Slices
import Derived.WalkKit
import Derived.KernelRfl
import Derived.RowKit3
import Derived.Deep.LoopGhost
import Derived.Deep.QuietTactic
import Derived.BigQuiet
import Derived.WideLaws
import Derived.Deep.DeepCutAuto
import Derived.Deep.CutBlock
import Derived.Deep.RegionHeld3
import Derived.Laws.Rows
import Derived.Lib.AppendStr
import Derived.ArgAppend
import Derived.Laws.IdiomCopy
import Derived.OrdersHeld
import Derived.Laws.BitsLemmas
import Derived.RowKit
import Derived.Test.YtpldpnkjmdlcdaaDoorUW3
import Derived.Test.YtpldpnkjmdlcdaaDoorWWords
import Derived.Test.YtpldpnkjmdlcdaaDoorWLast
import Derived.Test.YtpldpnkjmdlcdaaDoorWTab
import Derived.Test.YtpldpnkjmdlcdaaDoorWFour
import Derived.Test.YtpldpnkjmdlcdaaDoorWQPut
import Derived.Test.YtpldpnkjmdlcdaaDoorWApart
import Derived.Test.YtpldpnkjmdlcdaaDoorWArr
import Derived.Test.YtpldpnkjmdlcdaaDoorWZeros
import Derived.Test.YtpldpnkjmdlcdaaDoorWFoot
import Derived.Test.YtpldpnkjmdlcdaaDoorWKept
import Derived.Test.YtpldpnkjmdlcdaaDoorWShare
import Derived.Test.YtpldpnkjmdlcdaaDoorWN
import Derived.Test.YtpldpnkjmdlcdaaDoorWFootNe
import Derived.Test.YtpldpnkjmdlcdaaDoorWAt
import Derived.Test.YtpldpnkjmdlcdaaDoorWEqStruct
import Derived.Test.YtpldpnkjmdlcdaaDoorWRepsOne
import Derived.Test.YtpldpnkjmdlcdaaDoorWInv
import Derived.Test.YtpldpnkjmdlcdaaDoorWInvWords
import Derived.Test.YtpldpnkjmdlcdaaDoorWGuard
import Derived.Test.YtpldpnkjmdlcdaaDoorWNEv
import Derived.Test.YtpldpnkjmdlcdaaDoorWMore
namespace Go.Proofs.YtpldpnkjmdlcdaaDoor.PU
open Go.RowKit Go.Proofs.YtpldpnkjmdlcdaaDoorW.PrintWords Go.Proofs.YtpldpnkjmdlcdaaDoorW.PrintLast Go.Proofs.YtpldpnkjmdlcdaaDoorW.PrintMore
attribute [local go_sem] max2_int min2_int max_two min_two max_three min_three max_four min_four   -- for this text's walks alone
set_option linter.unusedVariables false
set_option linter.unusedSimpArgs false



def errW : Option Int → Value
  | none => .nilIface
  | some c => .iface 0 (.int .i64 c)
theorem errW_none : errW none = .nilIface := rfl
theorem errW_some (c : Int) : errW (some c) = .iface 0 (.int .i64 c) := rfl

theorem info3 : (Tryd.prog.info? 3).map (fun i => (i.zero, i.size, i.bytes)) = some (some (.int .i64 0), 1, 8) := by kernel_rfl
theorem info5 : (Tryd.prog.info? 5).map (fun i => (i.zero, i.size, i.bytes)) = some (some (.int .u8 0), 1, 1) := by kernel_rfl
theorem info21 : (Tryd.prog.info? 21).map (fun i => (i.zero, i.size, i.bytes)) = some (some (.int .i32 0), 1, 4) := by kernel_rfl
-- the values' own types

end Go.Proofs.YtpldpnkjmdlcdaaDoor.PU
