/- A text of the claim, with what no other text of it needs taken out. -/
import Derived.Test.YtjciehecedepeaaDoorUG
import Derived.Test.YtjciehecedepeaaDoorWMore
import Derived.WalkKit
import Derived.KernelRfl
import Derived.LoopTactic
import Derived.OwnWalk
import Derived.Deep.QuietTactic
import Derived.BigQuiet
import Derived.Outline
namespace Go.Proofs.YtjciehecedepeaaDoor.X
open Go.RowKit Go.Proofs.YtjciehecedepeaaDoorW.PrintWords
set_option linter.unusedVariables false
set_option linter.unusedSimpArgs false
def isI (c : Int) : Bool := decide (9 ≤ c ∧ c ≤ 10) || decide (c = 13) || decide (32 ≤ c ∧ c ≤ 55295) || decide (57344 ≤ c ∧ c ≤ 65533) || decide (65536 ≤ c ∧ c ≤ 1114111)
end Go.Proofs.YtjciehecedepeaaDoor.X
