/- A text of the claim, with what no other text of it needs taken out. -/
import Derived.Test.YtebekjenmoijhaaDoorWInv
import Derived.Test.YtebekjenmoijhaaDoorWFootNe
namespace Go.Proofs.YtebekjenmoijhaaDoorW.PrintWords
open Go.RowKit
end Go.Proofs.YtebekjenmoijhaaDoorW.PrintWords
namespace Go.Proofs.YtebekjenmoijhaaDoorW.PrintLast
section
variable {ops : Array Oper} {a : Act} {o og : Oper} {g : Nat} {t : Tmp} {u : Bool}
end
end Go.Proofs.YtebekjenmoijhaaDoorW.PrintLast
