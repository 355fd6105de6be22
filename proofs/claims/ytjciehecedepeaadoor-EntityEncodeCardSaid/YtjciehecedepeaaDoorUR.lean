/- A text of the claim, with what no other text of it needs taken out. -/
import Derived.Test.YtjciehecedepeaaDoorU1
import Derived.Laws.Strings
import Derived.Laws.Strings2
namespace Go.Proofs.YtjciehecedepeaaDoor.U
open Go
set_option linter.unusedVariables false
set_option linter.unusedSimpArgs false
def runs : Nat → List UInt8 → Nat × Nat
  | 0, _ => (0, 0)
  | k + 1, l => if (nx l).2 = 0 then (0, 0) else ((runs k (l.drop (nx l).2)).1 + 1, (runs k (l.drop (nx l).2)).2 + (nx l).2)
def R (l : List UInt8) : Nat × Nat := runs l.length l
end Go.Proofs.YtjciehecedepeaaDoor.U
