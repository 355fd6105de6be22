/- A text of the claim, with what no other text of it needs taken out. -/
import Derived.Test.YtpknhgejnfmijaaGreatDoorPC0
import Derived.Test.YtpknhgejnfmijaaGreatDoorPC3
import Derived.Test.YtpknhgejnfmijaaGreatDoorPC4
namespace Go.Proofs.YtpknhgejnfmijaaGreatDoor.PC
open Go.Proofs.YtpknhgejnfmijaaGreatDoor.K
open Go.RowKit Go.Proofs.YtpknhgejnfmijaaGreatDoorW.PrintWords Go.Proofs.YtpknhgejnfmijaaGreatDoorW.PrintLast Go.Proofs.YtpknhgejnfmijaaGreatDoorW.PrintMore
attribute [local go_sem] max2_int min2_int max_two min_two max_three min_three max_four min_four
set_option linter.unusedVariables false
set_option linter.unusedSimpArgs false
mutual
def r3_digit.j0 : Nat → Int → Bool → Option (Int)
 | 0, _, _ => none
 | k + 1, x0, x3 => if x3 = true then (some ((x0 - 48) % 256)) else (if x0 ≥ 97 then (r3_digit.j1 k x0 (decide (x0 ≤ 102))) else (r3_digit.j1 k x0 false))
def r3_digit.j1 : Nat → Int → Bool → Option (Int)
 | 0, _, _ => none
 | k + 1, x0, x13 => if x13 = true then (some (((x0 - 97) % 256) + 10)) else (if x0 ≥ 65 then (if x0 ≤ 70 then (some (((x0 - 65) % 256) + 10)) else (some (-1))) else (some (-1)))
end
def r3_digit.f (k : Nat) (a0 : Int) : Option (Int) := if a0 ≥ 48 then (r3_digit.j0 k a0 (decide (a0 ≤ 57))) else (r3_digit.j0 k a0 false)
theorem r3_digit.mono_l : ∀ k, (∀ y0 y1, LeO (r3_digit.j0 k y0 y1) (r3_digit.j0 (k + 1) y0 y1)) ∧ (∀ y0 y1, LeO (r3_digit.j1 k y0 y1) (r3_digit.j1 (k + 1) y0 y1))
 | 0 => ⟨fun _ _ r h => by simp [r3_digit.j0] at h, fun _ _ r h => by simp [r3_digit.j1] at h⟩
 | k + 1 => by
  obtain ⟨ih0, ih1⟩ := r3_digit.mono_l k
  refine ⟨?_, ?_⟩
  ·intro y0 y1
   unfold r3_digit.j0
   repeat' first
   | (with_reducible exact ih0 _ _)
   | (with_reducible exact ih1 _ _)
   | (with_reducible exact LeO.refl _)
   | (with_reducible exact LeO.none _)
   | (with_reducible refine LeO.ite ?_ ?_)
   | (with_reducible refine LeO.bind ?_ (fun _ => ?_))
   | exact ih0 _ _
   | exact ih1 _ _
   | exact LeO.none _
   | refine LeO.ite ?_ ?_
   | refine LeO.bind ?_ (fun _ => ?_)
  ·intro y0 y1
   unfold r3_digit.j1
   repeat' first
   | (with_reducible exact ih0 _ _)
   | (with_reducible exact ih1 _ _)
   | (with_reducible exact LeO.refl _)
   | (with_reducible exact LeO.none _)
   | (with_reducible refine LeO.ite ?_ ?_)
   | (with_reducible refine LeO.bind ?_ (fun _ => ?_))
   | exact ih0 _ _
   | exact ih1 _ _
   | exact LeO.none _
   | refine LeO.ite ?_ ?_
   | refine LeO.bind ?_ (fun _ => ?_)
theorem r3_digit.mono : ∀ a0 k, LeO (r3_digit.f k a0) (r3_digit.f (k + 1) a0) := by
 intro a0 k
 obtain ⟨ih0, ih1⟩ := r3_digit.mono_l k
 unfold r3_digit.f
 repeat' first
   | (with_reducible exact ih0 _ _)
   | (with_reducible exact ih1 _ _)
   | (with_reducible exact LeO.refl _)
   | (with_reducible exact LeO.none _)
   | (with_reducible refine LeO.ite ?_ ?_)
   | (with_reducible refine LeO.bind ?_ (fun _ => ?_))
   | exact ih0 _ _
   | exact ih1 _ _
   | exact LeO.none _
   | refine LeO.ite ?_ ?_
   | refine LeO.bind ?_ (fun _ => ?_)
def r3_number.l0 : Nat → ByteArray → Int → Int → Int → Int → Option (ByteArray × Int)
 | 0, _, _, _, _, _ => none
 | k + 1, x0, x1, x2, x8, x9 => if x9 < (x0.size : Int) then (if x9 < x2 then (if 0 ≤ x9 then ((r3_digit.f k (bt x0 x9)).bind fun t158 => (if t158 ≥ 0 then ((r3_digit.f k (bt x0 x9)).bind fun t159 => (if t159 < x1 then ((r3_digit.f k (bt x0 x9)).bind fun t160 => (r3_number.l0 k x0 x1 x2 (wrap64 ((wrap64 (x8 * x1)) + t160)) (wrap64 (x9 + 1)))) else (if x9 = 0 then (some ((⟨#[]⟩ : ByteArray), 0)) else (if x9 ≥ (x0.size : Int) then (some ((⟨#[]⟩ : ByteArray), 0)) else (if (bt x0 x9) = 59 then ((r1_Put.f x8).bind fun t161 => (some (t161, x9))) else (some ((⟨#[]⟩ : ByteArray), 0))))))) else (if x9 = 0 then (some ((⟨#[]⟩ : ByteArray), 0)) else (if x9 ≥ (x0.size : Int) then (some ((⟨#[]⟩ : ByteArray), 0)) else (if (bt x0 x9) = 59 then ((r1_Put.f x8).bind fun t162 => (some (t162, x9))) else (some ((⟨#[]⟩ : ByteArray), 0))))))) else (none)) else (if x9 = 0 then (some ((⟨#[]⟩ : ByteArray), 0)) else (if x9 ≥ (x0.size : Int) then (some ((⟨#[]⟩ : ByteArray), 0)) else (if 0 ≤ x9 then (if (bt x0 x9) = 59 then ((r1_Put.f x8).bind fun t163 => (some (t163, x9))) else (some ((⟨#[]⟩ : ByteArray), 0))) else (none))))) else (if x9 = 0 then (some ((⟨#[]⟩ : ByteArray), 0)) else (if x9 ≥ (x0.size : Int) then (some ((⟨#[]⟩ : ByteArray), 0)) else (if 0 ≤ x9 then (none) else (none))))
def r3_number.f (k : Nat) (a0 : ByteArray) (a1 : Int) (a2 : Int) : Option (ByteArray × Int) := r3_number.l0 k a0 a1 a2 0 0
theorem r3_number.mono_l : ∀ k, (∀ y0 y1 y2 y3 y4, LeO (r3_number.l0 k y0 y1 y2 y3 y4) (r3_number.l0 (k + 1) y0 y1 y2 y3 y4))
 | 0 => fun _ _ _ _ _ r h => by simp [r3_number.l0] at h
 | k + 1 => by
  have ih0 := r3_number.mono_l k
  ·intro y0 y1 y2 y3 y4
   unfold r3_number.l0
   repeat' first
   | (with_reducible exact ih0 _ _ _ _ _)
   | (with_reducible exact r3_digit.mono _ _)
   | (with_reducible exact LeO.refl _)
   | (with_reducible exact LeO.none _)
   | (with_reducible refine LeO.ite ?_ ?_)
   | (with_reducible refine LeO.bind ?_ (fun _ => ?_))
   | exact ih0 _ _ _ _ _
   | exact r3_digit.mono _ _
   | exact LeO.none _
   | refine LeO.ite ?_ ?_
   | refine LeO.bind ?_ (fun _ => ?_)
theorem r3_number.mono : ∀ a0 a1 a2 k, LeO (r3_number.f k a0 a1 a2) (r3_number.f (k + 1) a0 a1 a2) := by
 intro a0 a1 a2 k
 have ih0 := r3_number.mono_l k
 unfold r3_number.f
 repeat' first
   | (with_reducible exact ih0 _ _ _ _ _)
   | (with_reducible exact r3_digit.mono _ _)
   | (with_reducible exact LeO.refl _)
   | (with_reducible exact LeO.none _)
   | (with_reducible refine LeO.ite ?_ ?_)
   | (with_reducible refine LeO.bind ?_ (fun _ => ?_))
   | exact ih0 _ _ _ _ _
   | exact r3_digit.mono _ _
   | exact LeO.none _
   | refine LeO.ite ?_ ?_
   | refine LeO.bind ?_ (fun _ => ?_)
def r3_Reference.l0 : Nat → ByteArray → List ByteArray → Int → Option (ByteArray × Int)
 | 0, _, _, _ => none
 | k + 1, x0, x4, x5 => if x5 < (x4.length : Int) then (if 0 ≤ x5 then ((r3_begins.f x0 (rdOf ByteArray.empty x4 x5)).bind fun t168 => (if t168 = true then (if x5 ≤ (wrap64 (x5 + 1)) then (if (wrap64 (x5 + 1)) ≤ 5 then (some ((⟨#[38, 60, 62, 34, 39]⟩ : ByteArray).extract (x5 : Int).toNat ((wrap64 (x5 + 1)) : Int).toNat, ((rdOf ByteArray.empty x4 x5).size : Int))) else (none)) else (none)) else (r3_Reference.l0 k x0 x4 (wrap64 (x5 + 1))))) else (none)) else ((r3_begins.f x0 (⟨#[38, 35, 120]⟩ : ByteArray)).bind fun t170 => (if t170 = true then (if 3 ≤ (x0.size : Int) then ((r3_number.f k (x0.extract 3 x0.size) 16 6).bind fun bt171 => (if bt171.1.toList = ([] : List UInt8) then (some ((⟨#[]⟩ : ByteArray), 0)) else (some (bt171.1, wrap64 ((wrap64 (3 + bt171.2)) + 1))))) else (none)) else ((r3_begins.f x0 (⟨#[38, 35]⟩ : ByteArray)).bind fun t173 => (if t173 = true then (if 2 ≤ (x0.size : Int) then ((r3_number.f k (x0.extract 2 x0.size) 10 7).bind fun bt174 => (if bt174.1.toList = ([] : List UInt8) then (some ((⟨#[]⟩ : ByteArray), 0)) else (some (bt174.1, wrap64 ((wrap64 (2 + bt174.2)) + 1))))) else (none)) else (if ([] : List UInt8) = ([] : List UInt8) then (some ((⟨#[]⟩ : ByteArray), 0)) else (some ((⟨#[]⟩ : ByteArray), (0 + 0) + 1)))))))
def r3_Reference.f (k : Nat) (a0 : ByteArray) : Option (ByteArray × Int) := r3_Reference.l0 k a0 (([(⟨#[38, 97, 109, 112, 59]⟩ : ByteArray), (⟨#[38, 108, 116, 59]⟩ : ByteArray), (⟨#[38, 103, 116, 59]⟩ : ByteArray), (⟨#[38, 113, 117, 111, 116, 59]⟩ : ByteArray), (⟨#[38, 97, 112, 111, 115, 59]⟩ : ByteArray)] : List ByteArray)) 0
theorem r3_Reference.mono_l : ∀ k, (∀ y0 y1 y2, LeO (r3_Reference.l0 k y0 y1 y2) (r3_Reference.l0 (k + 1) y0 y1 y2))
 | 0 => fun _ _ _ r h => by simp [r3_Reference.l0] at h
 | k + 1 => by
  have ih0 := r3_Reference.mono_l k
  ·intro y0 y1 y2
   unfold r3_Reference.l0
   repeat' first
   | (with_reducible exact ih0 _ _ _)
   | (with_reducible exact r3_number.mono _ _ _ _)
   | (with_reducible exact LeO.refl _)
   | (with_reducible exact LeO.none _)
   | (with_reducible refine LeO.ite ?_ ?_)
   | (with_reducible refine LeO.bind ?_ (fun _ => ?_))
   | exact ih0 _ _ _
   | exact r3_number.mono _ _ _ _
   | exact LeO.none _
   | refine LeO.ite ?_ ?_
   | refine LeO.bind ?_ (fun _ => ?_)
theorem r3_Reference.mono : ∀ a0 k, LeO (r3_Reference.f k a0) (r3_Reference.f (k + 1) a0) := by
 intro a0 k
 have ih0 := r3_Reference.mono_l k
 unfold r3_Reference.f
 repeat' first
   | (with_reducible exact ih0 _ _ _)
   | (with_reducible exact r3_number.mono _ _ _ _)
   | (with_reducible exact LeO.refl _)
   | (with_reducible exact LeO.none _)
   | (with_reducible refine LeO.ite ?_ ?_)
   | (with_reducible refine LeO.bind ?_ (fun _ => ?_))
   | exact ih0 _ _ _
   | exact r3_number.mono _ _ _ _
   | exact LeO.none _
   | refine LeO.ite ?_ ?_
   | refine LeO.bind ?_ (fun _ => ?_)
end Go.Proofs.YtpknhgejnfmijaaGreatDoor.PC
