/- A text of the claim, with what no other text of it needs taken out. -/
import Derived.Test.YtebekjenmoijhaaDoorM3
import Derived.Test.YtebekjenmoijhaaDoorPM6
namespace Go.Proofs.YtebekjenmoijhaaDoor.M
open Go Go.RowKit Go.Proofs.YtebekjenmoijhaaDoorW.PrintWords Go.Proofs.YtebekjenmoijhaaDoorW.PrintMore Go.Proofs.YtebekjenmoijhaaDoor.PM
set_option linter.unusedVariables false
set_option linter.unusedSimpArgs false
theorem sg_mul (a b : Int) : sg ((a.natAbs * b.natAbs : Nat) : Int) (decide (a < 0) != decide (b < 0)) = a * b := by
  rw [Int.natCast_mul]
  by_cases h : a < 0 <;> by_cases h' : b < 0
  · rw [show (a.natAbs : Int) = -a by omega, show (b.natAbs : Int) = -b by omega, decide_eq_true h, decide_eq_true h']
    simp [sg, Int.neg_mul, Int.mul_neg]
  · rw [show (a.natAbs : Int) = -a by omega, show (b.natAbs : Int) = b by omega, decide_eq_true h, decide_eq_false h']
    simp [sg, Int.neg_mul, Int.mul_neg]
  · rw [show (a.natAbs : Int) = a by omega, show (b.natAbs : Int) = -b by omega, decide_eq_false h, decide_eq_true h']
    simp [sg, Int.neg_mul, Int.mul_neg]
  · rw [show (a.natAbs : Int) = a by omega, show (b.natAbs : Int) = b by omega, decide_eq_false h, decide_eq_false h']
    simp [sg, Int.neg_mul, Int.mul_neg]
end Go.Proofs.YtebekjenmoijhaaDoor.M
