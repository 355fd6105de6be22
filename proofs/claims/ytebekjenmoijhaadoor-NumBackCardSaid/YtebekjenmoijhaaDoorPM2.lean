/- A text of the claim, with what no other text of it needs taken out. -/
import Derived.Test.YtebekjenmoijhaaDoorPM0
namespace Go.Proofs.YtebekjenmoijhaaDoor.PM
open Go.RowKit Go.Proofs.YtebekjenmoijhaaDoorW.PrintWords Go.Proofs.YtebekjenmoijhaaDoorW.PrintLast Go.Proofs.YtebekjenmoijhaaDoorW.PrintMore
attribute [local go_sem] max2_int min2_int max_two min_two max_three min_three max_four min_four
set_option linter.unusedVariables false
set_option linter.unusedSimpArgs false
mutual
def hopscotchref06_Fits.l0 : Nat → Int → Int → List Int → Bool → Option (Int × Bool)
  | 0, _, _, _, _ => none
  | k + 1, x4, x5, x138000, x138001 => if x5 ≥ 0 then (if 0 ≤ x5 then (if x5 < (x138000.length : Int) then (if x4 < (wrap64 (Int.tdiv (wrap64 ((-9223372036854775808) + (rd x138000 x5))) 10)) then (some (0, false)) else (hopscotchref06_Fits.l0 k (wrap64 ((wrap64 (10 * x4)) - (rd x138000 x5))) (wrap64 (x5 - 1)) x138000 x138001)) else (none)) else (none)) else (if x138001 = true then (hopscotchref06_Fits.j1 k x4 true) else (hopscotchref06_Fits.j1 k x4 (x4 == 0)))
def hopscotchref06_Fits.j1 : Nat → Int → Bool → Option (Int × Bool)
  | 0, _, _ => none
  | k + 1, x4, x34 => if x34 = true then (some (x4, true)) else (if x4 = (-9223372036854775808) then (some (0, false)) else (some (wrap64 (-x4), true)))
end
def hopscotchref06_Fits.f (k : Nat) (l0_0 : List Int) (a0_1 : Bool) : Option (Int × Bool) := hopscotchref06_Fits.l0 k 0 (wrap64 ((l0_0.length : Int) - 1)) l0_0 a0_1
theorem hopscotchref06_Fits.mono_l : ∀ k, (∀ y0 y1 y2 y3, LeO (hopscotchref06_Fits.l0 k y0 y1 y2 y3) (hopscotchref06_Fits.l0 (k + 1) y0 y1 y2 y3)) ∧ (∀ y0 y1, LeO (hopscotchref06_Fits.j1 k y0 y1) (hopscotchref06_Fits.j1 (k + 1) y0 y1))
  | 0 => ⟨fun _ _ _ _ r h => by simp [hopscotchref06_Fits.l0] at h, fun _ _ r h => by simp [hopscotchref06_Fits.j1] at h⟩
  | k + 1 => by
    obtain ⟨ih0, ih1⟩ := hopscotchref06_Fits.mono_l k
    refine ⟨?_, ?_⟩
    · intro y0 y1 y2 y3
      unfold hopscotchref06_Fits.l0
      repeat' first
      | (with_reducible exact ih0 _ _ _ _)
      | (with_reducible exact ih1 _ _)
      | (with_reducible exact LeO.refl _)
      | (with_reducible exact LeO.none _)
      | (with_reducible refine LeO.ite ?_ ?_)
      | (with_reducible refine LeO.bind ?_ (fun _ => ?_))
      | exact ih0 _ _ _ _
      | exact ih1 _ _
      | exact LeO.none _
      | refine LeO.ite ?_ ?_
      | refine LeO.bind ?_ (fun _ => ?_)
    · intro y0 y1
      unfold hopscotchref06_Fits.j1
      repeat' first
      | (with_reducible exact ih0 _ _ _ _)
      | (with_reducible exact ih1 _ _)
      | (with_reducible exact LeO.refl _)
      | (with_reducible exact LeO.none _)
      | (with_reducible refine LeO.ite ?_ ?_)
      | (with_reducible refine LeO.bind ?_ (fun _ => ?_))
      | exact ih0 _ _ _ _
      | exact ih1 _ _
      | exact LeO.none _
      | refine LeO.ite ?_ ?_
      | refine LeO.bind ?_ (fun _ => ?_)
theorem hopscotchref06_Fits.mono : ∀ a0 a1 k, LeO (hopscotchref06_Fits.f k a0 a1) (hopscotchref06_Fits.f (k + 1) a0 a1) := by
  intro a0 a1 k
  obtain ⟨ih0, ih1⟩ := hopscotchref06_Fits.mono_l k
  unfold hopscotchref06_Fits.f
  repeat' first
      | (with_reducible exact ih0 _ _ _ _)
      | (with_reducible exact ih1 _ _)
      | (with_reducible exact LeO.refl _)
      | (with_reducible exact LeO.none _)
      | (with_reducible refine LeO.ite ?_ ?_)
      | (with_reducible refine LeO.bind ?_ (fun _ => ?_))
      | exact ih0 _ _ _ _
      | exact ih1 _ _
      | exact LeO.none _
      | refine LeO.ite ?_ ?_
      | refine LeO.bind ?_ (fun _ => ?_)
def hopscotchref06_told.f (k : Nat) (l0_0 : List Int) (a0_1 : Bool) : Option (Int × Int) := (hopscotchref06_Fits.f k l0_0 a0_1).bind fun bt140 => (if bt140.2 = true then (some (bt140.1, 0)) else (some (0, 60)))
theorem hopscotchref06_told.mono : ∀ a0 a1 k, LeO (hopscotchref06_told.f k a0 a1) (hopscotchref06_told.f (k + 1) a0 a1) := by
  intro a0 a1 k
  unfold hopscotchref06_told.f
  repeat' first
      | (with_reducible exact hopscotchref06_Fits.mono _ _ _)
      | (with_reducible exact LeO.refl _)
      | (with_reducible exact LeO.none _)
      | (with_reducible refine LeO.ite ?_ ?_)
      | (with_reducible refine LeO.bind ?_ (fun _ => ?_))
      | exact hopscotchref06_Fits.mono _ _ _
      | exact LeO.none _
      | refine LeO.ite ?_ ?_
      | refine LeO.bind ?_ (fun _ => ?_)
def hopscotchref06_Of.l0 : Nat → Int → List Int → Bool → Option (List Int × Bool)
  | 0, _, _, _ => none
  | k + 1, x0, x144000, x144001 => if x0 = 0 then (some (x144000, x144001)) else (if x144000.length < 17592186044416 then (hopscotchref06_Of.l0 k (wrap64 (Int.tdiv x0 10)) (x144000 ++ [mx (Int.tmod x0 10) (wrap64 (-(Int.tmod x0 10)))]) x144001) else (none))
def hopscotchref06_Of.f (k : Nat) (a0 : Int) : Option (List Int × Bool) := hopscotchref06_Of.l0 k a0 ([] : List Int) (decide (a0 < 0))
theorem hopscotchref06_Of.mono_l : ∀ k, (∀ y0 y1 y2, LeO (hopscotchref06_Of.l0 k y0 y1 y2) (hopscotchref06_Of.l0 (k + 1) y0 y1 y2))
  | 0 => fun _ _ _ r h => by simp [hopscotchref06_Of.l0] at h
  | k + 1 => by
    have ih0 := hopscotchref06_Of.mono_l k
    · intro y0 y1 y2
      unfold hopscotchref06_Of.l0
      repeat' first
      | (with_reducible exact ih0 _ _ _)
      | (with_reducible exact LeO.refl _)
      | (with_reducible exact LeO.none _)
      | (with_reducible refine LeO.ite ?_ ?_)
      | (with_reducible refine LeO.bind ?_ (fun _ => ?_))
      | exact ih0 _ _ _
      | exact LeO.none _
      | refine LeO.ite ?_ ?_
      | refine LeO.bind ?_ (fun _ => ?_)
theorem hopscotchref06_Of.mono : ∀ a0 k, LeO (hopscotchref06_Of.f k a0) (hopscotchref06_Of.f (k + 1) a0) := by
  intro a0 k
  have ih0 := hopscotchref06_Of.mono_l k
  unfold hopscotchref06_Of.f
  repeat' first
      | (with_reducible exact ih0 _ _ _)
      | (with_reducible exact LeO.refl _)
      | (with_reducible exact LeO.none _)
      | (with_reducible refine LeO.ite ?_ ?_)
      | (with_reducible refine LeO.bind ?_ (fun _ => ?_))
      | exact ih0 _ _ _
      | exact LeO.none _
      | refine LeO.ite ?_ ?_
      | refine LeO.bind ?_ (fun _ => ?_)
def hopscotchref06_trim.l0 : Nat → List Int → Option (List Int)
  | 0, _ => none
  | k + 1, x0 => if (x0.length : Int) > 0 then (if 0 ≤ (wrap64 ((x0.length : Int) - 1)) then (if (wrap64 ((x0.length : Int) - 1)) < (x0.length : Int) then (if (rd x0 (wrap64 ((x0.length : Int) - 1))) = 0 then (if (wrap64 ((x0.length : Int) - 1)) ≤ (x0.length : Int) then (hopscotchref06_trim.l0 k (x0.take ((wrap64 ((x0.length : Int) - 1)) : Int).toNat)) else (none)) else (some x0)) else (none)) else (none)) else (some x0)
def hopscotchref06_trim.f (k : Nat) (l0 : List Int) : Option (List Int) := hopscotchref06_trim.l0 k l0
theorem hopscotchref06_trim.mono_l : ∀ k, (∀ y0, LeO (hopscotchref06_trim.l0 k y0) (hopscotchref06_trim.l0 (k + 1) y0))
  | 0 => fun _ r h => by simp [hopscotchref06_trim.l0] at h
  | k + 1 => by
    have ih0 := hopscotchref06_trim.mono_l k
    · intro y0
      unfold hopscotchref06_trim.l0
      repeat' first
      | (with_reducible exact ih0 _)
      | (with_reducible exact LeO.refl _)
      | (with_reducible exact LeO.none _)
      | (with_reducible refine LeO.ite ?_ ?_)
      | (with_reducible refine LeO.bind ?_ (fun _ => ?_))
      | exact ih0 _
      | exact LeO.none _
      | refine LeO.ite ?_ ?_
      | refine LeO.bind ?_ (fun _ => ?_)
theorem hopscotchref06_trim.mono : ∀ a0 k, LeO (hopscotchref06_trim.f k a0) (hopscotchref06_trim.f (k + 1) a0) := by
  intro a0 k
  have ih0 := hopscotchref06_trim.mono_l k
  unfold hopscotchref06_trim.f
  repeat' first
      | (with_reducible exact ih0 _)
      | (with_reducible exact LeO.refl _)
      | (with_reducible exact LeO.none _)
      | (with_reducible refine LeO.ite ?_ ?_)
      | (with_reducible refine LeO.bind ?_ (fun _ => ?_))
      | exact ih0 _
      | exact LeO.none _
      | refine LeO.ite ?_ ?_
      | refine LeO.bind ?_ (fun _ => ?_)
def hopscotchref06_digit.f (l0 : List Int) (a1 : Int) : Option (Int) := if a1 < (l0.length : Int) then (if 0 ≤ a1 then (some (rd l0 a1)) else (none)) else (some 0)
mutual
def hopscotchref06_add.l0 : Nat → List Int → List Int → List Int → Int → Int → Option (List Int)
  | 0, _, _, _, _, _ => none
  | k + 1, x0, x1, x5, x6, x7 => if x7 < (mx (x0.length : Int) (x1.length : Int)) then (hopscotchref06_add.j1 k x0 x1 x5 x6 x7 true) else (hopscotchref06_add.j1 k x0 x1 x5 x6 x7 (decide (x6 > 0)))
def hopscotchref06_add.j1 : Nat → List Int → List Int → List Int → Int → Int → Bool → Option (List Int)
  | 0, _, _, _, _, _, _ => none
  | k + 1, x0, x1, x5, x6, x7, x19 => if x19 = true then ((hopscotchref06_digit.f x0 x7).bind fun t154 => ((hopscotchref06_digit.f x1 x7).bind fun t155 => (if x5.length < 17592186044416 then (hopscotchref06_add.l0 k x0 x1 (x5 ++ [Int.tmod (wrap64 ((wrap64 (t154 + t155)) + x6)) 10]) (wrap64 (Int.tdiv (wrap64 ((wrap64 (t154 + t155)) + x6)) 10)) (wrap64 (x7 + 1))) else (none)))) else ((hopscotchref06_trim.f k x5).bind fun t159 => (some t159))
end
def hopscotchref06_add.f (k : Nat) (l0 : List Int) (l1 : List Int) : Option (List Int) := hopscotchref06_add.l0 k l0 l1 ([] : List Int) 0 0
theorem hopscotchref06_add.mono_l : ∀ k, (∀ y0 y1 y2 y3 y4, LeO (hopscotchref06_add.l0 k y0 y1 y2 y3 y4) (hopscotchref06_add.l0 (k + 1) y0 y1 y2 y3 y4)) ∧ (∀ y0 y1 y2 y3 y4 y5, LeO (hopscotchref06_add.j1 k y0 y1 y2 y3 y4 y5) (hopscotchref06_add.j1 (k + 1) y0 y1 y2 y3 y4 y5))
  | 0 => ⟨fun _ _ _ _ _ r h => by simp [hopscotchref06_add.l0] at h, fun _ _ _ _ _ _ r h => by simp [hopscotchref06_add.j1] at h⟩
  | k + 1 => by
    obtain ⟨ih0, ih1⟩ := hopscotchref06_add.mono_l k
    refine ⟨?_, ?_⟩
    · intro y0 y1 y2 y3 y4
      unfold hopscotchref06_add.l0
      repeat' first
      | (with_reducible exact ih0 _ _ _ _ _)
      | (with_reducible exact ih1 _ _ _ _ _ _)
      | (with_reducible exact hopscotchref06_trim.mono _ _)
      | (with_reducible exact LeO.refl _)
      | (with_reducible exact LeO.none _)
      | (with_reducible refine LeO.ite ?_ ?_)
      | (with_reducible refine LeO.bind ?_ (fun _ => ?_))
      | exact ih0 _ _ _ _ _
      | exact ih1 _ _ _ _ _ _
      | exact hopscotchref06_trim.mono _ _
      | exact LeO.none _
      | refine LeO.ite ?_ ?_
      | refine LeO.bind ?_ (fun _ => ?_)
    · intro y0 y1 y2 y3 y4 y5
      unfold hopscotchref06_add.j1
      repeat' first
      | (with_reducible exact ih0 _ _ _ _ _)
      | (with_reducible exact ih1 _ _ _ _ _ _)
      | (with_reducible exact hopscotchref06_trim.mono _ _)
      | (with_reducible exact LeO.refl _)
      | (with_reducible exact LeO.none _)
      | (with_reducible refine LeO.ite ?_ ?_)
      | (with_reducible refine LeO.bind ?_ (fun _ => ?_))
      | exact ih0 _ _ _ _ _
      | exact ih1 _ _ _ _ _ _
      | exact hopscotchref06_trim.mono _ _
      | exact LeO.none _
      | refine LeO.ite ?_ ?_
      | refine LeO.bind ?_ (fun _ => ?_)
theorem hopscotchref06_add.mono : ∀ a0 a1 k, LeO (hopscotchref06_add.f k a0 a1) (hopscotchref06_add.f (k + 1) a0 a1) := by
  intro a0 a1 k
  obtain ⟨ih0, ih1⟩ := hopscotchref06_add.mono_l k
  unfold hopscotchref06_add.f
  repeat' first
      | (with_reducible exact ih0 _ _ _ _ _)
      | (with_reducible exact ih1 _ _ _ _ _ _)
      | (with_reducible exact hopscotchref06_trim.mono _ _)
      | (with_reducible exact LeO.refl _)
      | (with_reducible exact LeO.none _)
      | (with_reducible refine LeO.ite ?_ ?_)
      | (with_reducible refine LeO.bind ?_ (fun _ => ?_))
      | exact ih0 _ _ _ _ _
      | exact ih1 _ _ _ _ _ _
      | exact hopscotchref06_trim.mono _ _
      | exact LeO.none _
      | refine LeO.ite ?_ ?_
      | refine LeO.bind ?_ (fun _ => ?_)
end Go.Proofs.YtebekjenmoijhaaDoor.PM
