/- A text of the claim, with what no other text of it needs taken out. -/
import Derived.Test.YtpknhgejnfmijaaGreatDoorPC0
import Derived.Test.YtpknhgejnfmijaaGreatDoorPC6
namespace Go.Proofs.YtpknhgejnfmijaaGreatDoor.PC
open Go.Proofs.YtpknhgejnfmijaaGreatDoor.K
open Go.RowKit Go.Proofs.YtpknhgejnfmijaaGreatDoorW.PrintWords Go.Proofs.YtpknhgejnfmijaaGreatDoorW.PrintLast Go.Proofs.YtpknhgejnfmijaaGreatDoorW.PrintMore
attribute [local go_sem] max2_int min2_int max_two min_two max_three min_three max_four min_four
set_option linter.unusedVariables false
set_option linter.unusedSimpArgs false
def r2_Split.l0 : Nat → ByteArray → Int → Option (ByteArray × ByteArray × Bool)
 | 0, _, _ => none
 | k + 1, x0, x5 => if x5 < (x0.size : Int) then (if 0 ≤ x5 then (if (bt x0 x5) = 58 then (if x5 ≤ (x0.size : Int) then ((r2_Plain.f k (x0.extract 0 (x5 : Int).toNat)).bind fun t189 => (if t189 = true then (if 0 ≤ (wrap64 (x5 + 1)) then (if (wrap64 (x5 + 1)) ≤ (x0.size : Int) then ((r2_Plain.f k (x0.extract ((wrap64 (x5 + 1)) : Int).toNat x0.size)).bind fun t190 => (if t190 = true then (some (x0.extract 0 (x5 : Int).toNat, x0.extract ((wrap64 (x5 + 1)) : Int).toNat x0.size, true)) else (r2_Split.l0 k x0 (wrap64 (x5 + 1))))) else (none)) else (none)) else (r2_Split.l0 k x0 (wrap64 (x5 + 1))))) else (none)) else (r2_Split.l0 k x0 (wrap64 (x5 + 1)))) else (none)) else (some ((⟨#[]⟩ : ByteArray), (⟨#[]⟩ : ByteArray), false))
def r2_Split.f (k : Nat) (a0 : ByteArray) : Option (ByteArray × ByteArray × Bool) := (r2_Plain.f k a0).bind fun t188 => (if t188 = true then (some ((⟨#[]⟩ : ByteArray), a0, true)) else (if (a0.size : Int) > 64 then (some ((⟨#[]⟩ : ByteArray), (⟨#[]⟩ : ByteArray), false)) else (r2_Split.l0 k a0 0)))
theorem r2_Split.mono_l : ∀ k, (∀ y0 y1, LeO (r2_Split.l0 k y0 y1) (r2_Split.l0 (k + 1) y0 y1))
 | 0 => fun _ _ r h => by simp [r2_Split.l0] at h
 | k + 1 => by
  have ih0 := r2_Split.mono_l k
  ·intro y0 y1
   unfold r2_Split.l0
   repeat' first
   | (with_reducible exact ih0 _ _)
   | (with_reducible exact r2_Plain.mono _ _)
   | (with_reducible exact LeO.refl _)
   | (with_reducible exact LeO.none _)
   | (with_reducible refine LeO.ite ?_ ?_)
   | (with_reducible refine LeO.bind ?_ (fun _ => ?_))
   | exact ih0 _ _
   | exact r2_Plain.mono _ _
   | exact LeO.none _
   | refine LeO.ite ?_ ?_
   | refine LeO.bind ?_ (fun _ => ?_)
theorem r2_Split.mono : ∀ a0 k, LeO (r2_Split.f k a0) (r2_Split.f (k + 1) a0) := by
 intro a0 k
 have ih0 := r2_Split.mono_l k
 unfold r2_Split.f
 repeat' first
   | (with_reducible exact ih0 _ _)
   | (with_reducible exact r2_Plain.mono _ _)
   | (with_reducible exact LeO.refl _)
   | (with_reducible exact LeO.none _)
   | (with_reducible refine LeO.ite ?_ ?_)
   | (with_reducible refine LeO.bind ?_ (fun _ => ?_))
   | exact ih0 _ _
   | exact r2_Plain.mono _ _
   | exact LeO.none _
   | refine LeO.ite ?_ ?_
   | refine LeO.bind ?_ (fun _ => ?_)
def r2_Begin.l0 : Nat → ByteArray → Int → Option (Int)
 | 0, _, _ => none
 | k + 1, x0, x3 => if x3 > 0 then (if 0 ≤ x3 then (if x3 ≤ (x0.size : Int) then ((r2_Split.f k (x0.extract 0 (x3 : Int).toNat)).bind fun bt191 => (if bt191.2.2 = true then (some x3) else (r2_Begin.l0 k x0 (wrap64 (x3 - 1))))) else (none)) else (none)) else (some 0)
theorem r2_Begin.mono_l : ∀ k, (∀ y0 y1, LeO (r2_Begin.l0 k y0 y1) (r2_Begin.l0 (k + 1) y0 y1))
 | 0 => fun _ _ r h => by simp [r2_Begin.l0] at h
 | k + 1 => by
  have ih0 := r2_Begin.mono_l k
  ·intro y0 y1
   unfold r2_Begin.l0
   repeat' first
   | (with_reducible exact ih0 _ _)
   | (with_reducible exact r2_Split.mono _ _)
   | (with_reducible exact LeO.refl _)
   | (with_reducible exact LeO.none _)
   | (with_reducible refine LeO.ite ?_ ?_)
   | (with_reducible refine LeO.bind ?_ (fun _ => ?_))
   | exact ih0 _ _
   | exact r2_Split.mono _ _
   | exact LeO.none _
   | refine LeO.ite ?_ ?_
   | refine LeO.bind ?_ (fun _ => ?_)
def r4_blank.f (a0 : Int) : Option (Bool) := if a0 = 32 then (some true) else (if a0 = 9 then (some true) else (if a0 = 10 then (some true) else (some (a0 == 13))))
def r4_blanks.l0 : Nat → ByteArray → Int → Int → Option (Int)
 | 0, _, _, _ => none
 | k + 1, x0, x1, x5 => if (wrap64 (x1 + x5)) < (x0.size : Int) then (if 0 ≤ (wrap64 (x1 + x5)) then ((r4_blank.f (bt x0 (wrap64 (x1 + x5)))).bind fun t194 => (if t194 = true then (r4_blanks.l0 k x0 x1 (wrap64 (x5 + 1))) else (some x5))) else (none)) else (some x5)
theorem r4_blanks.mono_l : ∀ k, (∀ y0 y1 y2, LeO (r4_blanks.l0 k y0 y1 y2) (r4_blanks.l0 (k + 1) y0 y1 y2))
 | 0 => fun _ _ _ r h => by simp [r4_blanks.l0] at h
 | k + 1 => by
  have ih0 := r4_blanks.mono_l k
  ·intro y0 y1 y2
   unfold r4_blanks.l0
   repeat' first
   | (with_reducible exact ih0 _ _ _)
   | (with_reducible exact LeO.refl _)
   | (with_reducible exact LeO.none _)
   | (with_reducible refine LeO.ite ?_ ?_)
   | (with_reducible refine LeO.bind ?_ (fun _ => ?_))
   | exact ih0 _ _ _
   | exact LeO.none _
   | refine LeO.ite ?_ ?_
   | refine LeO.bind ?_ (fun _ => ?_)
end Go.Proofs.YtpknhgejnfmijaaGreatDoor.PC
