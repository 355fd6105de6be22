/- A text of the claim, with what no other text of it needs taken out. -/
import Derived.Test.YtebekjenmoijhaaDoorWWords
namespace Go.Proofs.YtebekjenmoijhaaDoorW.PrintWords
open Go.RowKit
section
variable {P : Program} {ops : Array Oper} {rest : List Oper} {o : Oper} {a : Act} {Q : Exit → Act → World → Prop} {W : World}
end
end Go.Proofs.YtebekjenmoijhaaDoorW.PrintWords
