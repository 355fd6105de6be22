/- A text of the claim, with what no other text of it needs taken out. -/
import Derived.Test.YtebekjenmoijhaaDoorPM0
import Derived.Test.YtebekjenmoijhaaDoorPM2
namespace Go.Proofs.YtebekjenmoijhaaDoor.PM
open Go.RowKit Go.Proofs.YtebekjenmoijhaaDoorW.PrintWords Go.Proofs.YtebekjenmoijhaaDoorW.PrintLast Go.Proofs.YtebekjenmoijhaaDoorW.PrintMore
attribute [local go_sem] max2_int min2_int max_two min_two max_three min_three max_four min_four
set_option linter.unusedVariables false
set_option linter.unusedSimpArgs false
def hopscotchref06_less.l0 : Nat → List Int → List Int → Int → Option (Bool)
  | 0, _, _, _ => none
  | k + 1, x0, x1, x5 => if x5 ≥ 0 then (if 0 ≤ x5 then (if x5 < (x0.length : Int) then (if x5 < (x1.length : Int) then (if (rd x0 x5) = (rd x1 x5) then (hopscotchref06_less.l0 k x0 x1 (wrap64 (x5 - 1))) else (some (decide ((rd x0 x5) < (rd x1 x5))))) else (none)) else (none)) else (none)) else (some false)
def hopscotchref06_less.f (k : Nat) (l0 : List Int) (l1 : List Int) : Option (Bool) := if (l0.length : Int) = (l1.length : Int) then (hopscotchref06_less.l0 k l0 l1 (wrap64 ((l0.length : Int) - 1))) else (some (decide ((l0.length : Int) < (l1.length : Int))))
theorem hopscotchref06_less.mono_l : ∀ k, (∀ y0 y1 y2, LeO (hopscotchref06_less.l0 k y0 y1 y2) (hopscotchref06_less.l0 (k + 1) y0 y1 y2))
  | 0 => fun _ _ _ r h => by simp [hopscotchref06_less.l0] at h
  | k + 1 => by
    have ih0 := hopscotchref06_less.mono_l k
    · intro y0 y1 y2
      unfold hopscotchref06_less.l0
      repeat' first
      | (with_reducible exact ih0 _ _ _)
      | (with_reducible exact LeO.refl _)
      | (with_reducible exact LeO.none _)
      | (with_reducible refine LeO.ite ?_ ?_)
      | (with_reducible refine LeO.bind ?_ (fun _ => ?_))
      | exact ih0 _ _ _
      | exact LeO.none _
      | refine LeO.ite ?_ ?_
      | refine LeO.bind ?_ (fun _ => ?_)
theorem hopscotchref06_less.mono : ∀ a0 a1 k, LeO (hopscotchref06_less.f k a0 a1) (hopscotchref06_less.f (k + 1) a0 a1) := by
  intro a0 a1 k
  have ih0 := hopscotchref06_less.mono_l k
  unfold hopscotchref06_less.f
  repeat' first
      | (with_reducible exact ih0 _ _ _)
      | (with_reducible exact LeO.refl _)
      | (with_reducible exact LeO.none _)
      | (with_reducible refine LeO.ite ?_ ?_)
      | (with_reducible refine LeO.bind ?_ (fun _ => ?_))
      | exact ih0 _ _ _
      | exact LeO.none _
      | refine LeO.ite ?_ ?_
      | refine LeO.bind ?_ (fun _ => ?_)
def hopscotchref06_take.l0 : Nat → List Int → List Int → List Int → Int → Int → Option (List Int)
  | 0, _, _, _, _, _ => none
  | k + 1, x0, x1, x5, x6, x7 => if x7 < (x0.length : Int) then (if 0 ≤ x7 then ((hopscotchref06_digit.f x1 x7).bind fun t167 => (if (wrap64 ((wrap64 ((rd x0 x7) - t167)) - x6)) < 0 then (if x5.length < 17592186044416 then (hopscotchref06_take.l0 k x0 x1 (x5 ++ [wrap64 ((wrap64 ((wrap64 ((rd x0 x7) - t167)) - x6)) + 10)]) 1 (wrap64 (x7 + 1))) else (none)) else (if x5.length < 17592186044416 then (hopscotchref06_take.l0 k x0 x1 (x5 ++ [wrap64 ((wrap64 ((rd x0 x7) - t167)) - x6)]) 0 (wrap64 (x7 + 1))) else (none)))) else (none)) else ((hopscotchref06_trim.f k x5).bind fun t174 => (some t174))
def hopscotchref06_take.f (k : Nat) (l0 : List Int) (l1 : List Int) : Option (List Int) := hopscotchref06_take.l0 k l0 l1 ([] : List Int) 0 0
theorem hopscotchref06_take.mono_l : ∀ k, (∀ y0 y1 y2 y3 y4, LeO (hopscotchref06_take.l0 k y0 y1 y2 y3 y4) (hopscotchref06_take.l0 (k + 1) y0 y1 y2 y3 y4))
  | 0 => fun _ _ _ _ _ r h => by simp [hopscotchref06_take.l0] at h
  | k + 1 => by
    have ih0 := hopscotchref06_take.mono_l k
    · intro y0 y1 y2 y3 y4
      unfold hopscotchref06_take.l0
      repeat' first
      | (with_reducible exact ih0 _ _ _ _ _)
      | (with_reducible exact hopscotchref06_trim.mono _ _)
      | (with_reducible exact LeO.refl _)
      | (with_reducible exact LeO.none _)
      | (with_reducible refine LeO.ite ?_ ?_)
      | (with_reducible refine LeO.bind ?_ (fun _ => ?_))
      | exact ih0 _ _ _ _ _
      | exact hopscotchref06_trim.mono _ _
      | exact LeO.none _
      | refine LeO.ite ?_ ?_
      | refine LeO.bind ?_ (fun _ => ?_)
theorem hopscotchref06_take.mono : ∀ a0 a1 k, LeO (hopscotchref06_take.f k a0 a1) (hopscotchref06_take.f (k + 1) a0 a1) := by
  intro a0 a1 k
  have ih0 := hopscotchref06_take.mono_l k
  unfold hopscotchref06_take.f
  repeat' first
      | (with_reducible exact ih0 _ _ _ _ _)
      | (with_reducible exact hopscotchref06_trim.mono _ _)
      | (with_reducible exact LeO.refl _)
      | (with_reducible exact LeO.none _)
      | (with_reducible refine LeO.ite ?_ ?_)
      | (with_reducible refine LeO.bind ?_ (fun _ => ?_))
      | exact ih0 _ _ _ _ _
      | exact hopscotchref06_trim.mono _ _
      | exact LeO.none _
      | refine LeO.ite ?_ ?_
      | refine LeO.bind ?_ (fun _ => ?_)
def hopscotchref06_Plus.f (k : Nat) (l0_0 : List Int) (a0_1 : Bool) (l1_0 : List Int) (a1_1 : Bool) : Option (List Int × Bool) := if (a0_1 == a1_1) = true then ((hopscotchref06_add.f k l0_0 l1_0).bind fun t180 => (some (t180, a0_1))) else ((hopscotchref06_less.f k l0_0 l1_0).bind fun t183 => (if t183 = true then ((hopscotchref06_take.f k l1_0 l0_0).bind fun t184 => (some (t184, a1_1))) else ((hopscotchref06_take.f k l0_0 l1_0).bind fun t187 => (some (t187, a0_1)))))
theorem hopscotchref06_Plus.mono : ∀ a0 a1 a2 a3 k, LeO (hopscotchref06_Plus.f k a0 a1 a2 a3) (hopscotchref06_Plus.f (k + 1) a0 a1 a2 a3) := by
  intro a0 a1 a2 a3 k
  unfold hopscotchref06_Plus.f
  repeat' first
      | (with_reducible exact hopscotchref06_add.mono _ _ _)
      | (with_reducible exact hopscotchref06_less.mono _ _ _)
      | (with_reducible exact hopscotchref06_take.mono _ _ _)
      | (with_reducible exact LeO.refl _)
      | (with_reducible exact LeO.none _)
      | (with_reducible refine LeO.ite ?_ ?_)
      | (with_reducible refine LeO.bind ?_ (fun _ => ?_))
      | exact hopscotchref06_add.mono _ _ _
      | exact hopscotchref06_less.mono _ _ _
      | exact hopscotchref06_take.mono _ _ _
      | exact LeO.none _
      | refine LeO.ite ?_ ?_
      | refine LeO.bind ?_ (fun _ => ?_)
def hopscotchref06_Add.f (k : Nat) (a0 : Int) (a1 : Int) : Option (Int × Int) := (hopscotchref06_Of.f k a0).bind fun bt190 => ((hopscotchref06_Of.f k a1).bind fun bt194 => ((hopscotchref06_Plus.f k bt190.1 bt190.2 bt194.1 bt194.2).bind fun bt198 => ((hopscotchref06_told.f k bt198.1 bt198.2).bind fun bt202 => (some (bt202.1, bt202.2)))))
theorem hopscotchref06_Add.mono : ∀ a0 a1 k, LeO (hopscotchref06_Add.f k a0 a1) (hopscotchref06_Add.f (k + 1) a0 a1) := by
  intro a0 a1 k
  unfold hopscotchref06_Add.f
  repeat' first
      | (with_reducible exact hopscotchref06_Of.mono _ _)
      | (with_reducible exact hopscotchref06_Plus.mono _ _ _ _ _)
      | (with_reducible exact hopscotchref06_told.mono _ _ _)
      | (with_reducible exact LeO.refl _)
      | (with_reducible exact LeO.none _)
      | (with_reducible refine LeO.ite ?_ ?_)
      | (with_reducible refine LeO.bind ?_ (fun _ => ?_))
      | exact hopscotchref06_Of.mono _ _
      | exact hopscotchref06_Plus.mono _ _ _ _ _
      | exact hopscotchref06_told.mono _ _ _
      | exact LeO.none _
      | refine LeO.ite ?_ ?_
      | refine LeO.bind ?_ (fun _ => ?_)
end Go.Proofs.YtebekjenmoijhaaDoor.PM
