/- A text of the claim, with what no other text of it needs taken out. -/
import Derived.Test.YtebekjenmoijhaaDoorM1
import Derived.Test.YtebekjenmoijhaaDoorPM2
namespace Go.Proofs.YtebekjenmoijhaaDoor.M
open Go Go.RowKit Go.Proofs.YtebekjenmoijhaaDoorW.PrintWords Go.Proofs.YtebekjenmoijhaaDoorW.PrintMore Go.Proofs.YtebekjenmoijhaaDoor.PM
set_option linter.unusedVariables false
set_option linter.unusedSimpArgs false
def toldR (x : Int) : Int × Int := if -9223372036854775808 ≤ x ∧ x ≤ 9223372036854775807 then (x, 0) else (0, 60)
def sg (v : Int) (below : Bool) : Int := if below = true then -v else v
end Go.Proofs.YtebekjenmoijhaaDoor.M
