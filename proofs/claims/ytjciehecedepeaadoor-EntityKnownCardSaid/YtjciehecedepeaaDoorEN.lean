/- A text of the claim, with what no other text of it needs taken out. -/
import Derived.Test.YtjciehecedepeaaDoorEK
namespace Go.Proofs.YtjciehecedepeaaDoor.X
open Go Go.RowKit Go.Proofs.YtjciehecedepeaaDoorW.PrintWords
set_option linter.unusedVariables false
set_option linter.unusedSimpArgs false
def EntityDecode.f (a0 : ByteArray) : Option Bool := some true
theorem EntityDecode.calls (a0 : ByteArray) (r : Bool) (w : World) (hG : Glob w) (h : EntityDecode.f a0 = some r) :
    Calls Tryd.prog 3 #[.string a0] w fun e w' => e = .returned (.bool r) ∧ Below w.heap.size w w' := by
  obtain rfl := Option.some.inj h
  obtain ⟨k, hk⟩ := (E.law_EntityDecode a0).rounds
  exact PE.hopscotchlaw03_EntityDecode.calls k a0 true w hG hk
theorem EntityDecode.not {a0 : ByteArray} (h : EntityDecode.f a0 = some false) : False := by
  unfold EntityDecode.f at h
  simp at h
def EntityEncode.f (a0 : ByteArray) (a1 : Bool) : Option Bool := some true
theorem EntityEncode.calls (a0 : ByteArray) (a1 : Bool) (r : Bool) (w : World) (hG : Glob w) (h : EntityEncode.f a0 a1 = some r) :
    Calls Tryd.prog 4 #[.string a0, .bool a1] w fun e w' => e = .returned (.bool r) ∧ Below w.heap.size w w' := by
  obtain rfl := Option.some.inj h
  obtain ⟨k, hk⟩ := (E.law_EntityEncode a0 a1).rounds
  exact PE.hopscotchlaw03_EntityEncode.calls k a0 a1 true w hG hk
theorem EntityEncode.not {a0 : ByteArray} {a1 : Bool} (h : EntityEncode.f a0 a1 = some false) : False := by
  unfold EntityEncode.f at h
  simp at h
def EntityBack.f (a0 : ByteArray) (a1 : Bool) : Option Bool := some true
theorem EntityBack.calls (a0 : ByteArray) (a1 : Bool) (r : Bool) (w : World) (hG : Glob w) (h : EntityBack.f a0 a1 = some r) :
    Calls Tryd.prog 5 #[.string a0, .bool a1] w fun e w' => e = .returned (.bool r) ∧ Below w.heap.size w w' := by
  obtain rfl := Option.some.inj h
  obtain ⟨k, hk⟩ := (E.law_EntityBack a0 a1).rounds
  exact PE.hopscotchlaw03_EntityBack.calls k a0 a1 true w hG hk
theorem EntityBack.not {a0 : ByteArray} {a1 : Bool} (h : EntityBack.f a0 a1 = some false) : False := by
  unfold EntityBack.f at h
  simp at h
def EntityPieces.f (a0 a1 : ByteArray) (a2 : Bool) : Option Bool := some true
theorem EntityPieces.calls (a0 a1 : ByteArray) (a2 : Bool) (r : Bool) (w : World) (hG : Glob w) (h : EntityPieces.f a0 a1 a2 = some r) :
    Calls Tryd.prog 6 #[.string a0, .string a1, .bool a2] w fun e w' => e = .returned (.bool r) ∧ Below w.heap.size w w' := by
  obtain rfl := Option.some.inj h
  obtain ⟨k, hk⟩ := (E.law_EntityPieces a0 a1 a2).rounds
  exact PE.hopscotchlaw03_EntityPieces.calls k a0 a1 a2 true w hG hk
theorem EntityPieces.not {a0 a1 : ByteArray} {a2 : Bool} (h : EntityPieces.f a0 a1 a2 = some false) : False := by
  unfold EntityPieces.f at h
  simp at h
end Go.Proofs.YtjciehecedepeaaDoor.X
