/- A text of the claim, with what no other text of it needs taken out. -/
import Derived.Test.YtebekjenmoijhaaDoorPM0
import Derived.Test.YtebekjenmoijhaaDoorPM1
import Derived.Test.YtebekjenmoijhaaDoorPM3
namespace Go.Proofs.YtebekjenmoijhaaDoor.PM
open Go.RowKit Go.Proofs.YtebekjenmoijhaaDoorW.PrintWords Go.Proofs.YtebekjenmoijhaaDoorW.PrintLast Go.Proofs.YtebekjenmoijhaaDoorW.PrintMore
attribute [local go_sem] max2_int min2_int max_two min_two max_three min_three max_four min_four
set_option linter.unusedVariables false
set_option linter.unusedSimpArgs false
def hopscotchref06_Sum.l0 : Nat → List Int → Int → Int → Option (Int × Int)
  | 0, _, _, _ => none
  | k + 1, x0, x4, x5 => if x5 < (x0.length : Int) then (if 0 ≤ x5 then ((hopscotchref06_Add.f k x4 (rd x0 x5)).bind fun bt205 => (if bt205.2 = 0 then (hopscotchref06_Sum.l0 k x0 bt205.1 (wrap64 (x5 + 1))) else (some (0, bt205.2)))) else (none)) else (some (x4, 0))
def hopscotchref06_Sum.f (k : Nat) (l0 : List Int) : Option (Int × Int) := hopscotchref06_Sum.l0 k l0 0 0
theorem hopscotchref06_Sum.mono_l : ∀ k, (∀ y0 y1 y2, LeO (hopscotchref06_Sum.l0 k y0 y1 y2) (hopscotchref06_Sum.l0 (k + 1) y0 y1 y2))
  | 0 => fun _ _ _ r h => by simp [hopscotchref06_Sum.l0] at h
  | k + 1 => by
    have ih0 := hopscotchref06_Sum.mono_l k
    · intro y0 y1 y2
      unfold hopscotchref06_Sum.l0
      repeat' first
      | (with_reducible exact ih0 _ _ _)
      | (with_reducible exact hopscotchref06_Add.mono _ _ _)
      | (with_reducible exact LeO.refl _)
      | (with_reducible exact LeO.none _)
      | (with_reducible refine LeO.ite ?_ ?_)
      | (with_reducible refine LeO.bind ?_ (fun _ => ?_))
      | exact ih0 _ _ _
      | exact hopscotchref06_Add.mono _ _ _
      | exact LeO.none _
      | refine LeO.ite ?_ ?_
      | refine LeO.bind ?_ (fun _ => ?_)
theorem hopscotchref06_Sum.mono : ∀ a0 k, LeO (hopscotchref06_Sum.f k a0) (hopscotchref06_Sum.f (k + 1) a0) := by
  intro a0 k
  have ih0 := hopscotchref06_Sum.mono_l k
  unfold hopscotchref06_Sum.f
  repeat' first
      | (with_reducible exact ih0 _ _ _)
      | (with_reducible exact hopscotchref06_Add.mono _ _ _)
      | (with_reducible exact LeO.refl _)
      | (with_reducible exact LeO.none _)
      | (with_reducible refine LeO.ite ?_ ?_)
      | (with_reducible refine LeO.bind ?_ (fun _ => ?_))
      | exact ih0 _ _ _
      | exact hopscotchref06_Add.mono _ _ _
      | exact LeO.none _
      | refine LeO.ite ?_ ?_
      | refine LeO.bind ?_ (fun _ => ?_)
def hopscotchlaw06_NumSums.l0 : Nat → List Int → List Int → Int → Int → Int → Int → Int → Option (Bool)
  | 0, _, _, _, _, _, _, _ => none
  | k + 1, x0, x3, x4, x5, x6, x7, x8 => if x8 < (x0.length : Int) then (if 0 ≤ x8 then (if x8 < (x3.length : Int) then (if (rd x3 x8) = (rd x0 x8) then (hopscotchlaw06_NumSums.l0 k x0 x3 x4 x5 x6 x7 (wrap64 (x8 + 1))) else (some false)) else (none)) else (none)) else (if x4 = x6 then (if x5 = x7 then ((hopscotchlaw06_works.f k).bind fun t217 => (some t217)) else (some false)) else (some false))
theorem hopscotchlaw06_NumSums.mono_l : ∀ k, (∀ y0 y1 y2 y3 y4 y5 y6, LeO (hopscotchlaw06_NumSums.l0 k y0 y1 y2 y3 y4 y5 y6) (hopscotchlaw06_NumSums.l0 (k + 1) y0 y1 y2 y3 y4 y5 y6))
  | 0 => fun _ _ _ _ _ _ _ r h => by simp [hopscotchlaw06_NumSums.l0] at h
  | k + 1 => by
    have ih0 := hopscotchlaw06_NumSums.mono_l k
    · intro y0 y1 y2 y3 y4 y5 y6
      unfold hopscotchlaw06_NumSums.l0
      repeat' first
      | (with_reducible exact ih0 _ _ _ _ _ _ _)
      | (with_reducible exact hopscotchlaw06_works.mono _)
      | (with_reducible exact hopscotchref06_Sum.mono _ _)
      | (with_reducible exact num_Sum.mono _ _)
      | (with_reducible exact LeO.refl _)
      | (with_reducible exact LeO.none _)
      | (with_reducible refine LeO.ite ?_ ?_)
      | (with_reducible refine LeO.bind ?_ (fun _ => ?_))
      | exact ih0 _ _ _ _ _ _ _
      | exact hopscotchlaw06_works.mono _
      | exact hopscotchref06_Sum.mono _ _
      | exact num_Sum.mono _ _
      | exact LeO.none _
      | refine LeO.ite ?_ ?_
      | refine LeO.bind ?_ (fun _ => ?_)
end Go.Proofs.YtebekjenmoijhaaDoor.PM
