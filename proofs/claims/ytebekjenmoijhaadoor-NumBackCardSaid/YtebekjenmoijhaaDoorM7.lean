/- A text of the claim, with what no other text of it needs taken out. -/
import Derived.Test.YtebekjenmoijhaaDoorM6
import Derived.Test.YtebekjenmoijhaaDoorPM4
namespace Go.Proofs.YtebekjenmoijhaaDoor.M
open Go Go.RowKit Go.Proofs.YtebekjenmoijhaaDoorW.PrintWords Go.Proofs.YtebekjenmoijhaaDoorW.PrintMore Go.Proofs.YtebekjenmoijhaaDoor.PM
set_option linter.unusedVariables false
set_option linter.unusedSimpArgs false
theorem works_40 : hopscotchlaw06_works.f 40 = some true := by decide +kernel
theorem works_ev : Ev (fun k => hopscotchlaw06_works.f k) true := Ev.of hopscotchlaw06_works.mono works_40
theorem works_some : Ev (fun k => (hopscotchlaw06_works.f k).bind fun t => some t) true := Ev.bind works_ev (Ev.now _)
end Go.Proofs.YtebekjenmoijhaaDoor.M
