/- A text of the claim, with what no other text of it needs taken out. -/
import Derived.Test.YtjciehecedepeaaDoorPE0
import Derived.Test.YtjciehecedepeaaDoorPE1
namespace Go.Proofs.YtjciehecedepeaaDoor.PE
open Go.RowKit Go.Proofs.YtjciehecedepeaaDoorW.PrintWords Go.Proofs.YtjciehecedepeaaDoorW.PrintLast Go.Proofs.YtjciehecedepeaaDoorW.PrintMore
attribute [local go_sem] max2_int min2_int max_two min_two max_three min_three max_four min_four
set_option linter.unusedVariables false
set_option linter.unusedSimpArgs false
end Go.Proofs.YtjciehecedepeaaDoor.PE
