/- A text of the claim, with what no other text of it needs taken out. -/
import Derived.Test.YtpknhgejnfmijaaGreatDoorPC0
import Derived.Test.YtpknhgejnfmijaaGreatDoorPC4
import Derived.Test.YtpknhgejnfmijaaGreatDoorPC5
namespace Go.Proofs.YtpknhgejnfmijaaGreatDoor.PC
open Go.Proofs.YtpknhgejnfmijaaGreatDoor.K
open Go.RowKit Go.Proofs.YtpknhgejnfmijaaGreatDoorW.PrintWords Go.Proofs.YtpknhgejnfmijaaGreatDoorW.PrintLast Go.Proofs.YtpknhgejnfmijaaGreatDoorW.PrintMore
attribute [local go_sem] max2_int min2_int max_two min_two max_three min_three max_four min_four
set_option linter.unusedVariables false
set_option linter.unusedSimpArgs false
def r3_Decode.l0 : Nat → ByteArray → ByteArray → Int → Option (ByteArray × Int × Int)
 | 0, _, _, _ => none
 | k + 1, x0, x5, x6 => if x6 < (x0.size : Int) then (if 0 ≤ x6 then (if x6 ≤ (x0.size : Int) then ((r3_Reference.f k (x0.extract (x6 : Int).toNat x0.size)).bind fun bt176 => (if bt176.2 > 0 then (if x5.size + bt176.1.size ≤ 9223372036854775807 then (r3_Decode.l0 k x0 (x5 ++ bt176.1) (wrap64 (x6 + bt176.2))) else (none)) else (if (bt x0 x6) = 38 then (some ((⟨#[]⟩ : ByteArray), x6, 30)) else ((r1_Next.f k (x0.extract (x6 : Int).toNat x0.size)).bind fun bt178 => (if bt178.2.2 = 0 then (if x6 ≤ (wrap64 (x6 + bt178.2.1)) then (if (wrap64 (x6 + bt178.2.1)) ≤ (x0.size : Int) then (if x5.size + (x0.extract (x6 : Int).toNat ((wrap64 (x6 + bt178.2.1)) : Int).toNat).size ≤ 9223372036854775807 then (r3_Decode.l0 k x0 (x5 ++ (x0.extract (x6 : Int).toNat ((wrap64 (x6 + bt178.2.1)) : Int).toNat)) (wrap64 (x6 + bt178.2.1))) else (none)) else (none)) else (none)) else (some ((⟨#[]⟩ : ByteArray), x6, bt178.2.2))))))) else (none)) else (none)) else (some (x5, 0, 0))
theorem r3_Decode.mono_l : ∀ k, (∀ y0 y1 y2, LeO (r3_Decode.l0 k y0 y1 y2) (r3_Decode.l0 (k + 1) y0 y1 y2))
 | 0 => fun _ _ _ r h => by simp [r3_Decode.l0] at h
 | k + 1 => by
  have ih0 := r3_Decode.mono_l k
  ·intro y0 y1 y2
   unfold r3_Decode.l0
   repeat' first
   | (with_reducible exact ih0 _ _ _)
   | (with_reducible exact r1_Next.mono _ _)
   | (with_reducible exact r3_Reference.mono _ _)
   | (with_reducible exact LeO.refl _)
   | (with_reducible exact LeO.none _)
   | (with_reducible refine LeO.ite ?_ ?_)
   | (with_reducible refine LeO.bind ?_ (fun _ => ?_))
   | exact ih0 _ _ _
   | exact r1_Next.mono _ _
   | exact r3_Reference.mono _ _
   | exact LeO.none _
   | refine LeO.ite ?_ ?_
   | refine LeO.bind ?_ (fun _ => ?_)
def r4_remark.j0 : Nat → ByteArray → Int → Option (Int)
 | 0, _, _ => none
 | k + 1, x0, x1 => (r4_has.f x0 x1 (⟨#[60, 63]⟩ : ByteArray)).bind fun t183 => (if t183 = true then ((r4_find.f k x0 (wrap64 (x1 + 2)) (⟨#[63, 62]⟩ : ByteArray)).bind fun t184 => (if t184 ≥ 0 then (some (wrap64 ((wrap64 (t184 + 2)) - x1))) else (some 0))) else (some 0))
theorem r4_remark.mono_l : ∀ k, (∀ y0 y1, LeO (r4_remark.j0 k y0 y1) (r4_remark.j0 (k + 1) y0 y1))
 | 0 => fun _ _ r h => by simp [r4_remark.j0] at h
 | k + 1 => by
  have ih0 := r4_remark.mono_l k
  ·intro y0 y1
   unfold r4_remark.j0
   repeat' first
   | (with_reducible exact ih0 _ _)
   | (with_reducible exact r4_find.mono _ _ _ _)
   | (with_reducible exact LeO.refl _)
   | (with_reducible exact LeO.none _)
   | (with_reducible refine LeO.ite ?_ ?_)
   | (with_reducible refine LeO.bind ?_ (fun _ => ?_))
   | exact ih0 _ _
   | exact r4_find.mono _ _ _ _
   | exact LeO.none _
   | refine LeO.ite ?_ ?_
   | refine LeO.bind ?_ (fun _ => ?_)
def r2_letter.f (a0 : Int) : Option (Bool) := if a0 ≥ 65 then (if a0 ≤ 90 then (some true) else (if a0 ≥ 97 then (if a0 ≤ 122 then (some true) else (some (a0 == 95))) else (some (a0 == 95)))) else (if a0 ≥ 97 then (if a0 ≤ 122 then (some true) else (some (a0 == 95))) else (some (a0 == 95)))
def r2_May.f (a0 : Int) : Option (Bool) := (r2_letter.f a0).bind fun t185 => (if t185 = true then (some true) else (if a0 ≥ 48 then (if a0 ≤ 57 then (some true) else (if a0 = 45 then (some true) else (some (a0 == 46)))) else (if a0 = 45 then (some true) else (some (a0 == 46)))))
mutual
def r2_Plain.j0 : Nat → ByteArray → Bool → Option (Bool)
 | 0, _, _ => none
 | k + 1, x0, x17 => if x17 = true then (some false) else (r2_Plain.l0 k x0 0)
def r2_Plain.l0 : Nat → ByteArray → Int → Option (Bool)
 | 0, _, _ => none
 | k + 1, x0, x3 => if x3 < (x0.size : Int) then (if 0 ≤ x3 then ((r2_May.f (bt x0 x3)).bind fun t187 => (if t187 = true then (r2_Plain.l0 k x0 (wrap64 (x3 + 1))) else (some false))) else (none)) else (some true)
end
def r2_Plain.f (k : Nat) (a0 : ByteArray) : Option (Bool) := if (a0.size : Int) = 0 then (r2_Plain.j0 k a0 true) else (if (a0.size : Int) > 64 then (r2_Plain.j0 k a0 true) else (if 0 < (a0.size : Int) then ((r2_letter.f (bt a0 0)).bind fun t186 => (r2_Plain.j0 k a0 (!t186))) else (none)))
theorem r2_Plain.mono_l : ∀ k, (∀ y0 y1, LeO (r2_Plain.j0 k y0 y1) (r2_Plain.j0 (k + 1) y0 y1)) ∧ (∀ y0 y1, LeO (r2_Plain.l0 k y0 y1) (r2_Plain.l0 (k + 1) y0 y1))
 | 0 => ⟨fun _ _ r h => by simp [r2_Plain.j0] at h, fun _ _ r h => by simp [r2_Plain.l0] at h⟩
 | k + 1 => by
  obtain ⟨ih0, ih1⟩ := r2_Plain.mono_l k
  refine ⟨?_, ?_⟩
  ·intro y0 y1
   unfold r2_Plain.j0
   repeat' first
   | (with_reducible exact ih0 _ _)
   | (with_reducible exact ih1 _ _)
   | (with_reducible exact LeO.refl _)
   | (with_reducible exact LeO.none _)
   | (with_reducible refine LeO.ite ?_ ?_)
   | (with_reducible refine LeO.bind ?_ (fun _ => ?_))
   | exact ih0 _ _
   | exact ih1 _ _
   | exact LeO.none _
   | refine LeO.ite ?_ ?_
   | refine LeO.bind ?_ (fun _ => ?_)
  ·intro y0 y1
   unfold r2_Plain.l0
   repeat' first
   | (with_reducible exact ih0 _ _)
   | (with_reducible exact ih1 _ _)
   | (with_reducible exact LeO.refl _)
   | (with_reducible exact LeO.none _)
   | (with_reducible refine LeO.ite ?_ ?_)
   | (with_reducible refine LeO.bind ?_ (fun _ => ?_))
   | exact ih0 _ _
   | exact ih1 _ _
   | exact LeO.none _
   | refine LeO.ite ?_ ?_
   | refine LeO.bind ?_ (fun _ => ?_)
theorem r2_Plain.mono : ∀ a0 k, LeO (r2_Plain.f k a0) (r2_Plain.f (k + 1) a0) := by
 intro a0 k
 obtain ⟨ih0, ih1⟩ := r2_Plain.mono_l k
 unfold r2_Plain.f
 repeat' first
   | (with_reducible exact ih0 _ _)
   | (with_reducible exact ih1 _ _)
   | (with_reducible exact LeO.refl _)
   | (with_reducible exact LeO.none _)
   | (with_reducible refine LeO.ite ?_ ?_)
   | (with_reducible refine LeO.bind ?_ (fun _ => ?_))
   | exact ih0 _ _
   | exact ih1 _ _
   | exact LeO.none _
   | refine LeO.ite ?_ ?_
   | refine LeO.bind ?_ (fun _ => ?_)
end Go.Proofs.YtpknhgejnfmijaaGreatDoor.PC
