/- Contracts of the functions that the statement reaches, each with the plain function that it computes, written by a program out of the translation: whatever Lean takes of it stands proved. -/
import Derived.Test.YtpldpnkjmdlcdaaProg
import Derived.Below
import Derived.Deep.Draws
import Derived.Deep.AppendLies
import Derived.Maps.AppendAt
import Derived.OwnWalk
import Derived.Laws.BytesArg
import Derived.Laws.MakeOwn
import Derived.Laws.OwnMore
import Derived.Deep.OwnRows
import Derived.Tactics
import Derived.Lib.ConvBytes
import Derived.Laws.Slices
import Derived.WalkKit
import Derived.KernelRfl
import Derived.RowKit3
import Derived.Deep.LoopGhost
import Derived.Deep.QuietTactic
import Derived.BigQuiet
import Derived.WideLaws
import Derived.Deep.DeepCutAuto
import Derived.Deep.CutBlock
import Derived.Deep.RegionHeld3
import Derived.Laws.Rows
import Derived.Lib.AppendStr
import Derived.ArgAppend
import Derived.Laws.IdiomCopy
import Derived.OrdersHeld
import Derived.Laws.BitsLemmas
import Derived.RowKit
import Derived.Test.YtpldpnkjmdlcdaaSC
import Derived.Test.YtpldpnkjmdlcdaaWWords
import Derived.Test.YtpldpnkjmdlcdaaWLast
import Derived.Test.YtpldpnkjmdlcdaaWTab
import Derived.Test.YtpldpnkjmdlcdaaWFour
import Derived.Test.YtpldpnkjmdlcdaaWQPut
import Derived.Test.YtpldpnkjmdlcdaaWApart
import Derived.Test.YtpldpnkjmdlcdaaWArr
import Derived.Test.YtpldpnkjmdlcdaaWZeros
import Derived.Test.YtpldpnkjmdlcdaaWFoot
import Derived.Test.YtpldpnkjmdlcdaaWKept
import Derived.Test.YtpldpnkjmdlcdaaWShare
import Derived.Test.YtpldpnkjmdlcdaaWN
import Derived.Test.YtpldpnkjmdlcdaaWFootNe
import Derived.Test.YtpldpnkjmdlcdaaWAt
import Derived.Test.YtpldpnkjmdlcdaaWEqStruct
import Derived.Test.YtpldpnkjmdlcdaaWRepsOne
import Derived.Test.YtpldpnkjmdlcdaaWInv
import Derived.Test.YtpldpnkjmdlcdaaWInvWords
import Derived.Test.YtpldpnkjmdlcdaaWGuard
import Derived.Test.YtpldpnkjmdlcdaaWNEv
import Derived.Test.YtpldpnkjmdlcdaaWMore
namespace Go.Proofs.Ytpldpnkjmdlcdaa.PL
open Go.RowKit Go.Proofs.YtpldpnkjmdlcdaaW.PrintWords Go.Proofs.YtpldpnkjmdlcdaaW.PrintLast Go.Proofs.YtpldpnkjmdlcdaaW.PrintMore
attribute [local go_sem] max2_int min2_int max_two min_two max_three min_three max_four min_four   -- for this text's walks alone
set_option linter.unusedVariables false
set_option linter.unusedSimpArgs false



def errW : Option Int → Value
  | none => .nilIface
  | some c => .iface 0 (.int .i64 c)
theorem errW_none : errW none = .nilIface := rfl
theorem errW_some (c : Int) : errW (some c) = .iface 0 (.int .i64 c) := rfl

-- the values' own types

end Go.Proofs.Ytpldpnkjmdlcdaa.PL
