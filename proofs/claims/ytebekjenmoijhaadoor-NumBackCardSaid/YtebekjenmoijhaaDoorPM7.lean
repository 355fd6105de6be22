/- A text of the claim, with what no other text of it needs taken out. -/
import Derived.Test.YtebekjenmoijhaaDoorPM0
import Derived.Test.YtebekjenmoijhaaDoorPM1
import Derived.Test.YtebekjenmoijhaaDoorPM2
import Derived.Test.YtebekjenmoijhaaDoorPM3
import Derived.Test.YtebekjenmoijhaaDoorPM6
namespace Go.Proofs.YtebekjenmoijhaaDoor.PM
open Go.RowKit Go.Proofs.YtebekjenmoijhaaDoorW.PrintWords Go.Proofs.YtebekjenmoijhaaDoorW.PrintLast Go.Proofs.YtebekjenmoijhaaDoorW.PrintMore
attribute [local go_sem] max2_int min2_int max_two min_two max_three min_three max_four min_four
set_option linter.unusedVariables false
set_option linter.unusedSimpArgs false
def hopscotchref06_Div.f (k : Nat) (a0 : Int) (a1 : Int) : Option (Int × Int) := if a1 = 0 then (some (0, 61)) else ((hopscotchref06_Of.f k a0).bind fun bt322 => ((hopscotchref06_Of.f k a1).bind fun bt326 => ((hopscotchref06_parts.f k bt322.1 bt326.1).bind fun bt330 => ((hopscotchref06_told.f k bt330.1 ((decide (a0 < 0)) != (decide (a1 < 0)))).bind fun bt336 => (some (bt336.1, bt336.2))))))
theorem hopscotchref06_Div.mono : ∀ a0 a1 k, LeO (hopscotchref06_Div.f k a0 a1) (hopscotchref06_Div.f (k + 1) a0 a1) := by
  intro a0 a1 k
  unfold hopscotchref06_Div.f
  repeat' first
      | (with_reducible exact hopscotchref06_Of.mono _ _)
      | (with_reducible exact hopscotchref06_parts.mono _ _ _)
      | (with_reducible exact hopscotchref06_told.mono _ _ _)
      | (with_reducible exact LeO.refl _)
      | (with_reducible exact LeO.none _)
      | (with_reducible refine LeO.ite ?_ ?_)
      | (with_reducible refine LeO.bind ?_ (fun _ => ?_))
      | exact hopscotchref06_Of.mono _ _
      | exact hopscotchref06_parts.mono _ _ _
      | exact hopscotchref06_told.mono _ _ _
      | exact LeO.none _
      | refine LeO.ite ?_ ?_
      | refine LeO.bind ?_ (fun _ => ?_)
def hopscotchref06_Mod.f (k : Nat) (a0 : Int) (a1 : Int) : Option (Int × Int) := if a1 = 0 then (some (0, 61)) else ((hopscotchref06_Of.f k a0).bind fun bt338 => ((hopscotchref06_Of.f k a1).bind fun bt342 => ((hopscotchref06_parts.f k bt338.1 bt342.1).bind fun bt346 => ((hopscotchref06_told.f k bt346.2 (decide (a0 < 0))).bind fun bt352 => (some (bt352.1, bt352.2))))))
theorem hopscotchref06_Mod.mono : ∀ a0 a1 k, LeO (hopscotchref06_Mod.f k a0 a1) (hopscotchref06_Mod.f (k + 1) a0 a1) := by
  intro a0 a1 k
  unfold hopscotchref06_Mod.f
  repeat' first
      | (with_reducible exact hopscotchref06_Of.mono _ _)
      | (with_reducible exact hopscotchref06_parts.mono _ _ _)
      | (with_reducible exact hopscotchref06_told.mono _ _ _)
      | (with_reducible exact LeO.refl _)
      | (with_reducible exact LeO.none _)
      | (with_reducible refine LeO.ite ?_ ?_)
      | (with_reducible refine LeO.bind ?_ (fun _ => ?_))
      | exact hopscotchref06_Of.mono _ _
      | exact hopscotchref06_parts.mono _ _ _
      | exact hopscotchref06_told.mono _ _ _
      | exact LeO.none _
      | refine LeO.ite ?_ ?_
      | refine LeO.bind ?_ (fun _ => ?_)
def hopscotchref06_Neg.f (k : Nat) (a0 : Int) : Option (Int × Int) := (hopscotchref06_Of.f k a0).bind fun bt354 => ((hopscotchref06_Minus.f bt354.1 bt354.2).bind fun bt358 => ((hopscotchref06_told.f k bt358.1 bt358.2).bind fun bt362 => (some (bt362.1, bt362.2))))
theorem hopscotchref06_Neg.mono : ∀ a0 k, LeO (hopscotchref06_Neg.f k a0) (hopscotchref06_Neg.f (k + 1) a0) := by
  intro a0 k
  unfold hopscotchref06_Neg.f
  repeat' first
      | (with_reducible exact hopscotchref06_Of.mono _ _)
      | (with_reducible exact hopscotchref06_told.mono _ _ _)
      | (with_reducible exact LeO.refl _)
      | (with_reducible exact LeO.none _)
      | (with_reducible refine LeO.ite ?_ ?_)
      | (with_reducible refine LeO.bind ?_ (fun _ => ?_))
      | exact hopscotchref06_Of.mono _ _
      | exact hopscotchref06_told.mono _ _ _
      | exact LeO.none _
      | refine LeO.ite ?_ ?_
      | refine LeO.bind ?_ (fun _ => ?_)
def hopscotchlaw06_NumReckons.l0 : Nat → Int → Int → Int → Option (Bool)
  | 0, _, _, _ => none
  | k + 1, x0, x1, x5 => if x5 < 6 then (if x5 = 0 then ((num_Add.f x0 x1).bind fun bt365 => ((hopscotchref06_Add.f k x0 x1).bind fun bt367 => (if bt365.1 = bt367.1 then (if bt365.2 = bt367.2 then (hopscotchlaw06_NumReckons.l0 k x0 x1 (wrap64 (x5 + 1))) else (some false)) else (some false)))) else (if x5 = 1 then ((num_Sub.f x0 x1).bind fun bt369 => ((hopscotchref06_Sub.f k x0 x1).bind fun bt371 => (if bt369.1 = bt371.1 then (if bt369.2 = bt371.2 then (hopscotchlaw06_NumReckons.l0 k x0 x1 (wrap64 (x5 + 1))) else (some false)) else (some false)))) else (if x5 = 2 then ((num_Mul.f k x0 x1).bind fun bt373 => ((hopscotchref06_Mul.f k x0 x1).bind fun bt375 => (if bt373.1 = bt375.1 then (if bt373.2 = bt375.2 then (hopscotchlaw06_NumReckons.l0 k x0 x1 (wrap64 (x5 + 1))) else (some false)) else (some false)))) else (if x5 = 3 then ((num_Div.f k x0 x1).bind fun bt377 => ((hopscotchref06_Div.f k x0 x1).bind fun bt379 => (if bt377.1 = bt379.1 then (if bt377.2 = bt379.2 then (hopscotchlaw06_NumReckons.l0 k x0 x1 (wrap64 (x5 + 1))) else (some false)) else (some false)))) else (if x5 = 4 then ((num_Mod.f k x0 x1).bind fun bt381 => ((hopscotchref06_Mod.f k x0 x1).bind fun bt383 => (if bt381.1 = bt383.1 then (if bt381.2 = bt383.2 then (hopscotchlaw06_NumReckons.l0 k x0 x1 (wrap64 (x5 + 1))) else (some false)) else (some false)))) else ((num_Neg.f x0).bind fun bt385 => ((hopscotchref06_Neg.f k x0).bind fun bt387 => (if bt385.1 = bt387.1 then (if bt385.2 = bt387.2 then (hopscotchlaw06_NumReckons.l0 k x0 x1 (wrap64 (x5 + 1))) else (some false)) else (some false))))))))) else ((hopscotchlaw06_works.f k).bind fun t364 => (some t364))
theorem hopscotchlaw06_NumReckons.mono_l : ∀ k, (∀ y0 y1 y2, LeO (hopscotchlaw06_NumReckons.l0 k y0 y1 y2) (hopscotchlaw06_NumReckons.l0 (k + 1) y0 y1 y2))
  | 0 => fun _ _ _ r h => by simp [hopscotchlaw06_NumReckons.l0] at h
  | k + 1 => by
    have ih0 := hopscotchlaw06_NumReckons.mono_l k
    · intro y0 y1 y2
      unfold hopscotchlaw06_NumReckons.l0
      repeat' first
      | (with_reducible exact ih0 _ _ _)
      | (with_reducible exact hopscotchlaw06_works.mono _)
      | (with_reducible exact hopscotchref06_Add.mono _ _ _)
      | (with_reducible exact hopscotchref06_Div.mono _ _ _)
      | (with_reducible exact hopscotchref06_Mod.mono _ _ _)
      | (with_reducible exact hopscotchref06_Mul.mono _ _ _)
      | (with_reducible exact hopscotchref06_Neg.mono _ _)
      | (with_reducible exact hopscotchref06_Sub.mono _ _ _)
      | (with_reducible exact num_Div.mono _ _ _)
      | (with_reducible exact num_Mod.mono _ _ _)
      | (with_reducible exact num_Mul.mono _ _ _)
      | (with_reducible exact LeO.refl _)
      | (with_reducible exact LeO.none _)
      | (with_reducible refine LeO.ite ?_ ?_)
      | (with_reducible refine LeO.bind ?_ (fun _ => ?_))
      | exact ih0 _ _ _
      | exact hopscotchlaw06_works.mono _
      | exact hopscotchref06_Add.mono _ _ _
      | exact hopscotchref06_Div.mono _ _ _
      | exact hopscotchref06_Mod.mono _ _ _
      | exact hopscotchref06_Mul.mono _ _ _
      | exact hopscotchref06_Neg.mono _ _
      | exact hopscotchref06_Sub.mono _ _ _
      | exact num_Div.mono _ _ _
      | exact num_Mod.mono _ _ _
      | exact num_Mul.mono _ _ _
      | exact LeO.none _
      | refine LeO.ite ?_ ?_
      | refine LeO.bind ?_ (fun _ => ?_)
end Go.Proofs.YtebekjenmoijhaaDoor.PM
