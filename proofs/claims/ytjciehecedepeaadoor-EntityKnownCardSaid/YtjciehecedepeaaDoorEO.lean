/- A text of the claim, with what no other text of it needs taken out. -/
import Derived.Test.YtjciehecedepeaaDoorEN
import Derived.Test.YtjciehecedepeaaDoorPN1
namespace Go.Proofs.YtjciehecedepeaaDoor.E
open Go Go.RowKit Go.Proofs.YtjciehecedepeaaDoorW.PrintWords Go.Proofs.YtjciehecedepeaaDoor.U Go.Proofs.YtjciehecedepeaaDoor.PE Go.Proofs.YtjciehecedepeaaDoor.PN
set_option linter.unusedVariables false
set_option linter.unusedSimpArgs false
theorem known_l1 (l : List ByteArray) (hs : ∀ x ∈ l, x.size ≤ 100) (hl : l.length ≤ 1000) : ∀ (d i : Nat), i + d = l.length → Ev (fun k => hopscotchlaw03_EntityKnown.l1 k l (l.length : Int) (i : Int)) true := by
  intro d
  induction d with
  | zero =>
    intro i hi
    refine Ev.step (f := fun _ => some true) (fun k => ?_) (Ev.now _)
    simp only [hopscotchlaw03_EntityKnown.l1]
    rw [if_neg (by omega), works]
    rfl
  | succ d ih =>
    intro i hi
    have hx : (rdOf ByteArray.empty l (i : Int)).size ≤ 100 := by
      unfold rdOf
      rw [Int.toNat_natCast, List.getD, List.getElem?_eq_getElem (show i < l.length by omega)]
      exact hs _ (List.getElem_mem _)
    refine Ev.step (f := fun k => hopscotchlaw03_EntityKnown.l1 k l (l.length : Int) ((i + 1 : Nat) : Int)) (fun k => ?_) (ih (i + 1) (by omega))
    generalize hq : rdOf ByteArray.empty l (i : Int) = q at hx
    simp only [hopscotchlaw03_EntityKnown.l1]
    rw [if_pos (by omega), if_pos (by omega), if_pos (by omega), hq, i_next i (by omega)]
    simp only [X.EntityDecode.f, X.EntityBack.f, X.EntityPieces.f, Option.bind_some, if_true]
    rw [if_pos (by omega)]
theorem known_l0 : ∀ (d i : Nat), i + d = 256 → Ev (fun k => hopscotchlaw03_EntityKnown.l0 k (i : Int)) true := by
  intro d
  induction d with
  | zero =>
    intro i hi
    obtain rfl : i = 256 := by omega
    obtain ⟨l, hl⟩ : ∃ l : List ByteArray, l = [(⟨#[38, 35, 48, 48, 48, 48, 48, 54, 53, 59]⟩ : ByteArray), (⟨#[38, 35, 48, 48, 48, 48, 48, 48, 54, 53, 59]⟩ : ByteArray), (⟨#[38, 35, 120, 48, 48, 48, 52, 49, 59]⟩ : ByteArray), (⟨#[38, 35, 120, 48, 48, 48, 48, 52, 49, 59]⟩ : ByteArray), (⟨#[38, 35, 120, 48, 48, 48, 48, 48, 52, 49, 59]⟩ : ByteArray), (⟨#[38, 35, 49, 49, 49, 52, 49, 49, 49, 59]⟩ : ByteArray), (⟨#[38, 35, 49, 49, 49, 52, 49, 49, 50, 59]⟩ : ByteArray), (⟨#[38, 35, 120, 49, 48, 70, 70, 70, 70, 59]⟩ : ByteArray), (⟨#[38, 35, 120, 49, 49, 48, 48, 48, 48, 59]⟩ : ByteArray), (⟨#[38, 35, 120, 100, 56, 48, 48, 59]⟩ : ByteArray), (⟨#[38, 35, 59]⟩ : ByteArray), (⟨#[38, 35, 120, 59]⟩ : ByteArray), (⟨#[38, 59]⟩ : ByteArray), (⟨#[38, 35, 43, 53, 59]⟩ : ByteArray), (⟨#[38, 35, 43, 54, 53, 59]⟩ : ByteArray), (⟨#[38, 35, 120, 43, 52, 49, 59]⟩ : ByteArray), (⟨#[38, 35, 120, 95, 49, 59]⟩ : ByteArray), (⟨#[38, 35, 49, 95, 48, 59]⟩ : ByteArray), (⟨#[38, 65, 77, 80, 59]⟩ : ByteArray), (⟨#[38, 97, 109, 112]⟩ : ByteArray), (⟨#[38, 35, 54, 53]⟩ : ByteArray), (⟨#[38, 97, 112, 111, 115, 59, 38, 113, 117, 111, 116, 59, 38, 103, 116, 59]⟩ : ByteArray), (⟨#[38, 38, 108, 116, 59]⟩ : ByteArray), (⟨#[]⟩ : ByteArray), (⟨#[97, 59, 98, 38, 99]⟩ : ByteArray), (⟨#[38, 35, 88, 52, 49, 59]⟩ : ByteArray), (⟨#[38, 32, 108, 116, 59]⟩ : ByteArray)] := ⟨_, rfl⟩
    have hs : ∀ x ∈ l, x.size ≤ 100 := by rw [hl]; decide
    have hlen : l.length ≤ 1000 := by rw [hl]; decide
    refine Ev.step (f := fun k => hopscotchlaw03_EntityKnown.l1 k l (l.length : Int) ((0 : Nat) : Int)) (fun k => ?_) (known_l1 l hs hlen l.length 0 (by omega))
    simp only [hopscotchlaw03_EntityKnown.l0]
    rw [if_neg (by omega), ← hl]
    rfl
  | succ d ih =>
    intro i hi
    have hz : (strOfNums ([((i : Int)) % 256] : List Int)).size = 1 := by rfl
    generalize hq : strOfNums ([((i : Int)) % 256] : List Int) = q at hz
    have a1 : ((⟨#[38]⟩ : ByteArray) ++ q).size = 2 := by rw [ByteArray.size_append, hz]; rfl
    have a2 : ((⟨#[38, 35]⟩ : ByteArray) ++ q).size = 3 := by rw [ByteArray.size_append, hz]; rfl
    have a3 : ((⟨#[38, 35, 120, 52]⟩ : ByteArray) ++ q).size = 5 := by rw [ByteArray.size_append, hz]; rfl
    have a4 : ((⟨#[38, 35, 54]⟩ : ByteArray) ++ q).size = 4 := by rw [ByteArray.size_append, hz]; rfl
    have a5 : (q ++ (⟨#[38]⟩ : ByteArray)).size = 2 := by rw [ByteArray.size_append, hz]; rfl
    refine Ev.step (f := fun k => hopscotchlaw03_EntityKnown.l0 k ((i + 1 : Nat) : Int)) (fun k => ?_) (ih (i + 1) (by omega))
    simp only [hopscotchlaw03_EntityKnown.l0]
    rw [if_pos (by omega)]
    simp only [Option.bind_some, hq, i_next i (by omega), X.EntityDecode.f, X.EntityEncode.f, X.EntityBack.f, if_true, a1, a2, a3, a4, a5, hz]
    simp
theorem law_EntityKnown : Ev (fun k => hopscotchlaw03_EntityKnown.f k) true := known_l0 256 0 (by omega)
end Go.Proofs.YtjciehecedepeaaDoor.E
