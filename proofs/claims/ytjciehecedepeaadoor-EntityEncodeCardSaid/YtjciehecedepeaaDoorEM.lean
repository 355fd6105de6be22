/- A text of the claim, with what no other text of it needs taken out. -/
import Derived.MapKept
import Derived.StringKeys
import Derived.ChangeMaps4
import Derived.Carry
import Derived.Below
import Derived.Maps.RangeRun
namespace Go.Proofs.YtjciehecedepeaaDoor.MapS
open Go Go.RowKit Go.MapKept
open Go.ChangeMaps (setBlock)
variable {P : Program} {t k e : TypeId}
set_option linter.unusedVariables false
set_option linter.unusedSimpArgs false
def Strs (es : Array MapEntry) : Prop := ∀ x ∈ es.toList, IsKey .string x.key
variable {w : World} {b clock : Nat} {es : Array MapEntry}
end Go.Proofs.YtjciehecedepeaaDoor.MapS
