/- A text of the claim, with what no other text of it needs taken out. -/
import Derived.Test.YtebekjenmoijhaaDoorMD
import Derived.Test.YtebekjenmoijhaaDoorPM4
import Derived.Test.YtebekjenmoijhaaDoorPM5
import Derived.Test.YtebekjenmoijhaaDoorPM7
import Derived.Test.YtebekjenmoijhaaDoorPM8
namespace Go.Proofs.YtebekjenmoijhaaDoor.X
open Go Go.RowKit Go.Proofs.YtebekjenmoijhaaDoorW.PrintWords Go.Proofs.YtebekjenmoijhaaDoorW.PrintMore
set_option linter.unusedVariables false
set_option linter.unusedSimpArgs false
def NumBack.f (a0 a1 : Int) (a2 : ByteArray) : Option Bool := if M.I a0 ∧ M.I a1 then some true else none
theorem NumBack.calls (a0 a1 : Int) (a2 : ByteArray) (r : Bool) (w : World) (hG : Glob w) (h : NumBack.f a0 a1 a2 = some r) :
    Calls Tryd.prog 6 #[.int .i64 a0, .int .i64 a1, .string a2] w fun e w' => e = .returned (.bool r) ∧ Below w.heap.size w w' := by
  unfold NumBack.f at h
  split at h
  · rename_i hi
    obtain rfl := Option.some.inj h
    obtain ⟨k, hk⟩ := (M.law_NumBack a0 a1 a2 hi.1 hi.2).rounds
    exact PM.hopscotchlaw06_NumBack.calls k a0 a1 a2 true w hG ⟨rfl⟩ ⟨hi⟩ hk
  · cases h
end Go.Proofs.YtebekjenmoijhaaDoor.X
