/- A text of the claim, with what no other text of it needs taken out. -/
import Derived.Test.YtebekjenmoijhaaDoorM4
import Derived.Test.YtebekjenmoijhaaDoorPM7
import Derived.Test.YtebekjenmoijhaaDoorPM6
namespace Go.Proofs.YtebekjenmoijhaaDoor.M
open Go Go.RowKit Go.Proofs.YtebekjenmoijhaaDoorW.PrintWords Go.Proofs.YtebekjenmoijhaaDoorW.PrintMore Go.Proofs.YtebekjenmoijhaaDoor.PM
set_option linter.unusedVariables false
set_option linter.unusedSimpArgs false
theorem sg_div (a b : Int) : sg ((a.natAbs / b.natAbs : Nat) : Int) (decide (a < 0) != decide (b < 0)) = a.tdiv b := by
  by_cases h : a < 0 <;> by_cases h' : b < 0
  · rw [decide_eq_true h, decide_eq_true h']
    obtain ⟨n, rfl⟩ : ∃ n : Nat, a = -(n : Int) := ⟨a.natAbs, by omega⟩
    obtain ⟨m, rfl⟩ : ∃ m : Nat, b = -(m : Int) := ⟨b.natAbs, by omega⟩
    simp [sg, Int.neg_tdiv, Int.tdiv_neg, Int.ofNat_tdiv]
  · rw [decide_eq_true h, decide_eq_false h']
    obtain ⟨n, rfl⟩ : ∃ n : Nat, a = -(n : Int) := ⟨a.natAbs, by omega⟩
    obtain ⟨m, rfl⟩ : ∃ m : Nat, b = (m : Int) := ⟨b.natAbs, by omega⟩
    simp [sg, Int.neg_tdiv, Int.tdiv_neg, Int.ofNat_tdiv]
  · rw [decide_eq_false h, decide_eq_true h']
    obtain ⟨n, rfl⟩ : ∃ n : Nat, a = (n : Int) := ⟨a.natAbs, by omega⟩
    obtain ⟨m, rfl⟩ : ∃ m : Nat, b = -(m : Int) := ⟨b.natAbs, by omega⟩
    simp [sg, Int.neg_tdiv, Int.tdiv_neg, Int.ofNat_tdiv]
  · rw [decide_eq_false h, decide_eq_false h']
    obtain ⟨n, rfl⟩ : ∃ n : Nat, a = (n : Int) := ⟨a.natAbs, by omega⟩
    obtain ⟨m, rfl⟩ : ∃ m : Nat, b = (m : Int) := ⟨b.natAbs, by omega⟩
    simp [sg, Int.neg_tdiv, Int.tdiv_neg, Int.ofNat_tdiv]
theorem sg_mod (a b : Int) : sg ((a.natAbs % b.natAbs : Nat) : Int) (decide (a < 0)) = a.tmod b := by
  obtain ⟨m, hm⟩ : ∃ m : Nat, m = b.natAbs := ⟨_, rfl⟩
  have hb : a.tmod b = a.tmod (m : Int) := by
    rcases Int.natAbs_eq b with h | h
    · rw [hm, ← h]
    · rw [hm]; conv => lhs; rw [h, Int.tmod_neg]
  rw [hb, ← hm]
  by_cases h : a < 0
  · rw [decide_eq_true h]
    obtain ⟨n, rfl⟩ : ∃ n : Nat, a = -(n : Int) := ⟨a.natAbs, by omega⟩
    simp only [sg, if_true, Int.neg_tmod, Int.natAbs_neg, Int.natAbs_natCast, Int.ofNat_tmod]
  · rw [decide_eq_false h]
    obtain ⟨n, rfl⟩ : ∃ n : Nat, a = (n : Int) := ⟨a.natAbs, by omega⟩
    simp only [sg, Bool.false_eq_true, if_false, Int.natAbs_natCast, Int.ofNat_tmod]
def divR (a b : Int) : Int × Int := if b = 0 then (0, 61) else toldR (a.tdiv b)
def modR (a b : Int) : Int × Int := if b = 0 then (0, 61) else toldR (a.tmod b)
end Go.Proofs.YtebekjenmoijhaaDoor.M
