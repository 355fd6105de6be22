/- A text of the claim, with what no other text of it needs taken out. -/
import Derived.Test.YtpknhgejnfmijaaDoorTL
namespace Go.Proofs.YtpknhgejnfmijaaDoor.X
open Go.RowKit Go.Proofs.YtpknhgejnfmijaaDoorW.PrintWords Go.Proofs.YtpknhgejnfmijaaDoor
set_option linter.unusedVariables false
set_option linter.unusedSimpArgs false
def order.f (a0 : ByteArray) : Option Bool := some true
theorem order.calls (a0 : ByteArray) (r : Bool) (w : World) (hG : Glob w) (h : order.f a0 = some r) :
    Calls Tryd.prog 3 #[.string a0] w fun e w' => e = .returned (.bool r) ∧ Below w.heap.size w w' := by
  obtain rfl := Option.some.inj h
  exact order_calls a0 w hG
end Go.Proofs.YtpknhgejnfmijaaDoor.X
