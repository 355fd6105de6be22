/- A text of the claim, with what no other text of it needs taken out. -/
import Derived.Test.YtpknhgejnfmijaaDoorUW1
import Derived.Test.YtpknhgejnfmijaaDoorU1
import Derived.Lib.OthersKept
import Derived.Laws.Cover4
import Derived.Lib.Hide
namespace Go.Proofs.YtpknhgejnfmijaaDoor.X
open Go.RowKit Go.Proofs.YtpknhgejnfmijaaDoorW.PrintWords
set_option linter.unusedVariables false
set_option linter.unusedSimpArgs false
def utf_Put.f (a0 : Int) : Option ByteArray := some (if isI a0 = true then Utf8.encode a0 else ⟨#[]⟩)
set_option maxHeartbeats 1000000 in
set_option maxRecDepth 100000 in
theorem utf_Put.calls (a0 : Int) (r : ByteArray) (w : World) (hG : Glob w) (h : utf_Put.f a0 = some r) :
    Calls Tryd.prog 26 #[.int .i32 a0] w fun e w' => e = .returned (.string r) ∧ Below w.heap.size w w' := by
  obtain rfl := Option.some.inj h
  clear h
  have ci := utf_is.calls a0 (isI a0) w hG rfl
  have CI := Lib.hid ci
  clear ci
  by_cases hi : isI a0 = true
  · have hi2 : isI a0 = true := hi
    go_enter Tryd.func26, Tryd.ntmps26
    go_wp2_with (go_at_call 42; refine CI.out.mono ?_; rintro e w' ⟨rfl, hb⟩)
    go_ret
    exact ⟨by simp [hi], hb⟩
  · have hi2 : isI a0 = false := by simpa using hi
    go_enter Tryd.func26, Tryd.ntmps26
    go_wp2_with (go_at_call 42; refine CI.out.mono ?_; rintro e w' ⟨rfl, hb⟩)
    go_ret
    exact ⟨by simp [hi2], hb⟩
end Go.Proofs.YtpknhgejnfmijaaDoor.X
