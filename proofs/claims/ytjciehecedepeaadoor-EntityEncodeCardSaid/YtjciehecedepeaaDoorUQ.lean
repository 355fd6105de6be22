/- A text of the claim, with what no other text of it needs taken out. -/
import Derived.Test.YtjciehecedepeaaDoorUR
import Derived.Test.YtjciehecedepeaaDoorPU2
namespace Go.Proofs.YtjciehecedepeaaDoor.U
open Go Go.RowKit Go.Proofs.YtjciehecedepeaaDoorW.PrintWords Go.Proofs.YtjciehecedepeaaDoor.PU
set_option linter.unusedVariables false
set_option linter.unusedSimpArgs false
def P (l : List UInt8) (n : Nat) : Prop := X.isI (number l n) = true ∧ enc (number l n).toNat = l.take n
instance (l : List UInt8) (n : Nat) : Decidable (P l n) := by unfold P; infer_instance
end Go.Proofs.YtjciehecedepeaaDoor.U
