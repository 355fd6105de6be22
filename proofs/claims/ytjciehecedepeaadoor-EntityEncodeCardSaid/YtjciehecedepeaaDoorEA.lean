/- A text of the claim, with what no other text of it needs taken out. -/
import Derived.Test.YtjciehecedepeaaDoorUR
namespace Go.Proofs.YtjciehecedepeaaDoor.E
open Go Go.Proofs.YtjciehecedepeaaDoor.U
set_option linter.unusedVariables false
set_option linter.unusedSimpArgs false
def put (n : Nat) : List UInt8 := if isx n = true then enc n else []
def Ok (l : List UInt8) : Prop := (R l).2 = l.length
theorem Ok.nil : Ok [] := rfl
end Go.Proofs.YtjciehecedepeaaDoor.E
