/- A text of the claim, with what no other text of it needs taken out. -/
import Derived.Test.YtebekjenmoijhaaDoorWLast
import Derived.Test.YtebekjenmoijhaaDoorWWords
namespace Go.Proofs.YtebekjenmoijhaaDoorW.PrintLast
open Go.Proofs.YtebekjenmoijhaaDoorW.PrintWords (Aside0)
section
variable {md : Region.Mode} {ops : Array Oper} {T : Bool × List (List Nat × List Nat)} {l l' li lj lk : Array Bool} {ds : List Nat} {i j k : Nat}
end
end Go.Proofs.YtebekjenmoijhaaDoorW.PrintLast
