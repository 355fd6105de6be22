/- A text of the claim, with what no other text of it needs taken out. -/
import Derived.Test.YtebekjenmoijhaaDoorMD
import Derived.Test.YtebekjenmoijhaaDoorPM4
import Derived.Test.YtebekjenmoijhaaDoorPM5
import Derived.Test.YtebekjenmoijhaaDoorPM7
import Derived.Test.YtebekjenmoijhaaDoorPM8
namespace Go.Proofs.YtebekjenmoijhaaDoor.X
open Go Go.RowKit Go.Proofs.YtebekjenmoijhaaDoorW.PrintWords Go.Proofs.YtebekjenmoijhaaDoorW.PrintMore
set_option linter.unusedVariables false
set_option linter.unusedSimpArgs false
def NumReckons.f (a0 a1 : Int) : Option Bool := if M.I a0 ∧ M.I a1 then some true else none
theorem NumReckons.calls (a0 a1 : Int) (r : Bool) (w : World) (hG : Glob w) (h : NumReckons.f a0 a1 = some r) :
    Calls Tryd.prog 5 #[.int .i64 a0, .int .i64 a1] w fun e w' => e = .returned (.bool r) ∧ Below w.heap.size w w' := by
  unfold NumReckons.f at h
  split at h
  · rename_i hi
    obtain rfl := Option.some.inj h
    obtain ⟨k, hk⟩ := (M.law_NumReckons a0 a1 hi.1 hi.2).rounds
    exact PM.hopscotchlaw06_NumReckons.calls k a0 a1 true w hG hk
  · cases h
theorem NumReckons.not {a0 a1 : Int} (h : NumReckons.f a0 a1 = some false) : False := by
  unfold NumReckons.f at h
  split at h <;> simp at h
def NumBack.f (a0 a1 : Int) (a2 : ByteArray) : Option Bool := if M.I a0 ∧ M.I a1 then some true else none
theorem NumBack.calls (a0 a1 : Int) (a2 : ByteArray) (r : Bool) (w : World) (hG : Glob w) (h : NumBack.f a0 a1 a2 = some r) :
    Calls Tryd.prog 6 #[.int .i64 a0, .int .i64 a1, .string a2] w fun e w' => e = .returned (.bool r) ∧ Below w.heap.size w w' := by
  unfold NumBack.f at h
  split at h
  · rename_i hi
    obtain rfl := Option.some.inj h
    obtain ⟨k, hk⟩ := (M.law_NumBack a0 a1 a2 hi.1 hi.2).rounds
    exact PM.hopscotchlaw06_NumBack.calls k a0 a1 a2 true w hG ⟨rfl⟩ ⟨hi⟩ hk
  · cases h
theorem NumBack.not {a0 a1 : Int} {a2 : ByteArray} (h : NumBack.f a0 a1 a2 = some false) : False := by
  unfold NumBack.f at h
  split at h <;> simp at h
def NumTexts.f (a0 : ByteArray) (a1 : Int) : Option Bool := if M.I a1 then some true else none
theorem NumTexts.calls (a0 : ByteArray) (a1 : Int) (r : Bool) (w : World) (hG : Glob w) (h : NumTexts.f a0 a1 = some r) :
    Calls Tryd.prog 4 #[.string a0, .int .i64 a1] w fun e w' => e = .returned (.bool r) ∧ Below w.heap.size w w' := by
  unfold NumTexts.f at h
  split at h
  · rename_i hi
    obtain rfl := Option.some.inj h
    obtain ⟨k, hk⟩ := (M.law_NumTexts a0 a1 hi).rounds
    exact PM.hopscotchlaw06_NumTexts.calls k a0 a1 true w hG hk
  · cases h
theorem NumTexts.not {a0 : ByteArray} {a1 : Int} (h : NumTexts.f a0 a1 = some false) : False := by
  unfold NumTexts.f at h
  split at h <;> simp at h
def NumSums.f (l0 : List Int) : Option Bool := if ∀ x ∈ l0, M.I x then some true else none
theorem NumSums.calls (A0 : Option Addr) (c0 : Nat) (l0 : List Int) (r : Bool) (w : World) (hr0 : Kd.C (Kd.int .i64) w A0 l0.length l0) (hc0 : l0.length ≤ c0) (hG : Glob w) (h : NumSums.f l0 = some r) :
    Calls Tryd.prog 3 #[.slice A0 l0.length c0] w fun e w' => e = .returned (.bool r) ∧ Below w.heap.size w w' := by
  unfold NumSums.f at h
  split at h
  · rename_i hi
    obtain rfl := Option.some.inj h
    obtain ⟨k, hk⟩ := (M.law_NumSums l0 hi).rounds
    exact PM.hopscotchlaw06_NumSums.calls k A0 c0 l0 true w hr0 hc0 hG hk
  · cases h
theorem NumSums.not {l0 : List Int} (h : NumSums.f l0 = some false) : False := by
  unfold NumSums.f at h
  split at h <;> simp at h
end Go.Proofs.YtebekjenmoijhaaDoor.X
