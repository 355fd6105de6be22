/- A text of the claim, with what no other text of it needs taken out. -/
import Derived.Test.YtebekjenmoijhaaDoorPM0
import Derived.Test.YtebekjenmoijhaaDoorPM1
import Derived.Test.YtebekjenmoijhaaDoorPM2
namespace Go.Proofs.YtebekjenmoijhaaDoor.PM
open Go.RowKit Go.Proofs.YtebekjenmoijhaaDoorW.PrintWords Go.Proofs.YtebekjenmoijhaaDoorW.PrintLast Go.Proofs.YtebekjenmoijhaaDoorW.PrintMore
attribute [local go_sem] max2_int min2_int max_two min_two max_three min_three max_four min_four
set_option linter.unusedVariables false
set_option linter.unusedSimpArgs false
mutual
def hopscotchref06_Parse.j0 : Nat → ByteArray → Bool → Option (Int × Int)
  | 0, _, _ => none
  | k + 1, x0, x4 => if x4 = true then (if 1 ≤ (x0.size : Int) then (hopscotchref06_Parse.j1 k (x0.extract 1 x0.size) x4) else (none)) else (hopscotchref06_Parse.j1 k x0 x4)
def hopscotchref06_Parse.j1 : Nat → ByteArray → Bool → Option (Int × Int)
  | 0, _, _ => none
  | k + 1, x0, x4 => if x0.toList = ([] : List UInt8) then (hopscotchref06_Parse.j2 k x0 x4 true) else (if 0 < (x0.size : Int) then (if (bt x0 0) = 48 then (if (x0.size : Int) > 1 then (hopscotchref06_Parse.j2 k x0 x4 true) else (hopscotchref06_Parse.j2 k x0 x4 x4)) else (hopscotchref06_Parse.j2 k x0 x4 false)) else (none))
def hopscotchref06_Parse.j2 : Nat → ByteArray → Bool → Bool → Option (Int × Int)
  | 0, _, _, _ => none
  | k + 1, x0, x4, x31 => if x31 = true then (some (0, 2)) else (hopscotchref06_Parse.l0 k x0 x4 ([] : List Int) (wrap64 ((x0.size : Int) - 1)))
def hopscotchref06_Parse.l0 : Nat → ByteArray → Bool → List Int → Int → Option (Int × Int)
  | 0, _, _, _, _ => none
  | k + 1, x0, x4, x5, x6 => if x6 ≥ 0 then (if 0 ≤ x6 then (if x6 < (x0.size : Int) then (if (bt x0 x6) < 48 then (some (0, 2)) else (if (bt x0 x6) > 57 then (some (0, 2)) else (if x5.length < 17592186044416 then (hopscotchref06_Parse.l0 k x0 x4 (x5 ++ [wrap64 ((wrap64 (bt x0 x6)) - 48)]) (wrap64 (x6 - 1))) else (none)))) else (none)) else (none)) else ((hopscotchref06_trim.f k x5).bind fun t221 => ((hopscotchref06_told.f k t221 x4).bind fun bt224 => (some (bt224.1, bt224.2))))
end
theorem hopscotchref06_Parse.mono_l : ∀ k, (∀ y0 y1, LeO (hopscotchref06_Parse.j0 k y0 y1) (hopscotchref06_Parse.j0 (k + 1) y0 y1)) ∧ (∀ y0 y1, LeO (hopscotchref06_Parse.j1 k y0 y1) (hopscotchref06_Parse.j1 (k + 1) y0 y1)) ∧ (∀ y0 y1 y2, LeO (hopscotchref06_Parse.j2 k y0 y1 y2) (hopscotchref06_Parse.j2 (k + 1) y0 y1 y2)) ∧ (∀ y0 y1 y2 y3, LeO (hopscotchref06_Parse.l0 k y0 y1 y2 y3) (hopscotchref06_Parse.l0 (k + 1) y0 y1 y2 y3))
  | 0 => ⟨fun _ _ r h => by simp [hopscotchref06_Parse.j0] at h, fun _ _ r h => by simp [hopscotchref06_Parse.j1] at h, fun _ _ _ r h => by simp [hopscotchref06_Parse.j2] at h, fun _ _ _ _ r h => by simp [hopscotchref06_Parse.l0] at h⟩
  | k + 1 => by
    obtain ⟨ih0, ih1, ih2, ih3⟩ := hopscotchref06_Parse.mono_l k
    refine ⟨?_, ?_, ?_, ?_⟩
    · intro y0 y1
      unfold hopscotchref06_Parse.j0
      repeat' first
      | (with_reducible exact ih0 _ _)
      | (with_reducible exact ih1 _ _)
      | (with_reducible exact ih2 _ _ _)
      | (with_reducible exact ih3 _ _ _ _)
      | (with_reducible exact hopscotchref06_told.mono _ _ _)
      | (with_reducible exact hopscotchref06_trim.mono _ _)
      | (with_reducible exact LeO.refl _)
      | (with_reducible exact LeO.none _)
      | (with_reducible refine LeO.ite ?_ ?_)
      | (with_reducible refine LeO.bind ?_ (fun _ => ?_))
      | exact ih0 _ _
      | exact ih1 _ _
      | exact ih2 _ _ _
      | exact ih3 _ _ _ _
      | exact hopscotchref06_told.mono _ _ _
      | exact hopscotchref06_trim.mono _ _
      | exact LeO.none _
      | refine LeO.ite ?_ ?_
      | refine LeO.bind ?_ (fun _ => ?_)
    · intro y0 y1
      unfold hopscotchref06_Parse.j1
      repeat' first
      | (with_reducible exact ih0 _ _)
      | (with_reducible exact ih1 _ _)
      | (with_reducible exact ih2 _ _ _)
      | (with_reducible exact ih3 _ _ _ _)
      | (with_reducible exact hopscotchref06_told.mono _ _ _)
      | (with_reducible exact hopscotchref06_trim.mono _ _)
      | (with_reducible exact LeO.refl _)
      | (with_reducible exact LeO.none _)
      | (with_reducible refine LeO.ite ?_ ?_)
      | (with_reducible refine LeO.bind ?_ (fun _ => ?_))
      | exact ih0 _ _
      | exact ih1 _ _
      | exact ih2 _ _ _
      | exact ih3 _ _ _ _
      | exact hopscotchref06_told.mono _ _ _
      | exact hopscotchref06_trim.mono _ _
      | exact LeO.none _
      | refine LeO.ite ?_ ?_
      | refine LeO.bind ?_ (fun _ => ?_)
    · intro y0 y1 y2
      unfold hopscotchref06_Parse.j2
      repeat' first
      | (with_reducible exact ih0 _ _)
      | (with_reducible exact ih1 _ _)
      | (with_reducible exact ih2 _ _ _)
      | (with_reducible exact ih3 _ _ _ _)
      | (with_reducible exact hopscotchref06_told.mono _ _ _)
      | (with_reducible exact hopscotchref06_trim.mono _ _)
      | (with_reducible exact LeO.refl _)
      | (with_reducible exact LeO.none _)
      | (with_reducible refine LeO.ite ?_ ?_)
      | (with_reducible refine LeO.bind ?_ (fun _ => ?_))
      | exact ih0 _ _
      | exact ih1 _ _
      | exact ih2 _ _ _
      | exact ih3 _ _ _ _
      | exact hopscotchref06_told.mono _ _ _
      | exact hopscotchref06_trim.mono _ _
      | exact LeO.none _
      | refine LeO.ite ?_ ?_
      | refine LeO.bind ?_ (fun _ => ?_)
    · intro y0 y1 y2 y3
      unfold hopscotchref06_Parse.l0
      repeat' first
      | (with_reducible exact ih0 _ _)
      | (with_reducible exact ih1 _ _)
      | (with_reducible exact ih2 _ _ _)
      | (with_reducible exact ih3 _ _ _ _)
      | (with_reducible exact hopscotchref06_told.mono _ _ _)
      | (with_reducible exact hopscotchref06_trim.mono _ _)
      | (with_reducible exact LeO.refl _)
      | (with_reducible exact LeO.none _)
      | (with_reducible refine LeO.ite ?_ ?_)
      | (with_reducible refine LeO.bind ?_ (fun _ => ?_))
      | exact ih0 _ _
      | exact ih1 _ _
      | exact ih2 _ _ _
      | exact ih3 _ _ _ _
      | exact hopscotchref06_told.mono _ _ _
      | exact hopscotchref06_trim.mono _ _
      | exact LeO.none _
      | refine LeO.ite ?_ ?_
      | refine LeO.bind ?_ (fun _ => ?_)
def num_Put.f (a0 : Int) : Option (ByteArray) := (Go.Proofs.YtebekjenmoijhaaDoor.X.strconv_FormatInt.f a0 10).bind fun t226 => (some t226)
set_option maxHeartbeats 8000000 in
set_option maxRecDepth 100000 in
theorem num_Put.calls (a0 : Int) (r : ByteArray) (w : World) (hG : Glob w) (h : num_Put.f a0 = some r) :
    Calls Tryd.prog 13 #[.int .i64 a0] w fun e w' => e = .returned (.string r) ∧ Below w.heap.size w w' := by
  have HB := Aside0.mk (Below.refl w.heap.size w)
  have H : ((Go.Proofs.YtebekjenmoijhaaDoor.X.strconv_FormatInt.f a0 10).bind fun t226 => (some t226)) = some r := h
  clear h
  replace H := Option.bind_eq_some_iff.mp H
  obtain ⟨t226, A20, H⟩ := H
  replace H : (some t226) = some r := H
  have A2 := Aside0.mk A20
  clear A20
  obtain rfl := Option.some.inj H
  go_enter Tryd.func13, Tryd.ntmps13
  go_wp2_with (first | ((with_reducible refine gate_callee (f := 32) rfl ?_); refine goesL_ (some 4) rfl rfl Tryd.func32 (by kernel_rfl) rfl #[.int .i64 a0, .int .i64 10] rfl (by (try simp only [List.map_toArray, List.map_cons, List.map_nil]); first | done | rfl | (simp only [List.length_drop, List.length_take]; rfl)) ?_; (with_reducible refine (Go.Proofs.YtebekjenmoijhaaDoor.X.strconv_FormatInt.calls a0 10 t226 _ ?side1 A2.out).mono ?_); (case side1 => exact Glob.of_below hG (by repeat (first | (with_reducible first | exact HB.out | apply below_alloc | apply pw_below_drewN | apply below_drew1) | exact HB.out))); rintro e w3 ⟨rfl, hb⟩; refine ⟨_, rfl, ?_⟩; have n0_ := Aside0.mk (below_step (by repeat (first | (with_reducible first | exact HB.out | apply below_alloc | apply pw_below_drewN | apply below_drew1) | exact HB.out)) hb); clear HB; have HB := n0_; clear n0_; (try clear hb); (try clear hb2); (try clear hk); (try clear hi)))
  go_ret
  exact ⟨by first | rfl | (simp [errW_none, errW_some] <;> rfl) | (simp [*, errW_none, errW_some] <;> rfl), by repeat (first | (with_reducible first | exact HB.out | apply below_alloc | apply pw_below_drewN | apply below_drew1) | exact HB.out)⟩
def hopscotchref06_Put.l0 : Nat → ByteArray → Int → List Int → Bool → Option (ByteArray)
  | 0, _, _, _, _ => none
  | k + 1, x4, x5, x232000, x232001 => if x5 < (x232000.length : Int) then (if 0 ≤ x5 then ((some (([(wrap64 (48 + (rd x232000 x5))) % 256] : List Int) : List Int)).bind fun y233 => (if (strOfNums y233).size + x4.size ≤ 9223372036854775807 then (hopscotchref06_Put.l0 k ((strOfNums y233) ++ x4) (wrap64 (x5 + 1)) x232000 x232001) else (none))) else (none)) else (if x4.toList = ([] : List UInt8) then (some (⟨#[48]⟩ : ByteArray)) else (if x232001 = true then (if 1 + x4.size ≤ 9223372036854775807 then (some ((⟨#[45]⟩ : ByteArray) ++ x4)) else (none)) else (some x4)))
theorem hopscotchref06_Put.mono_l : ∀ k, (∀ y0 y1 y2 y3, LeO (hopscotchref06_Put.l0 k y0 y1 y2 y3) (hopscotchref06_Put.l0 (k + 1) y0 y1 y2 y3))
  | 0 => fun _ _ _ _ r h => by simp [hopscotchref06_Put.l0] at h
  | k + 1 => by
    have ih0 := hopscotchref06_Put.mono_l k
    · intro y0 y1 y2 y3
      unfold hopscotchref06_Put.l0
      repeat' first
      | (with_reducible exact ih0 _ _ _ _)
      | (with_reducible exact hopscotchref06_Of.mono _ _)
      | (with_reducible exact LeO.refl _)
      | (with_reducible exact LeO.none _)
      | (with_reducible refine LeO.ite ?_ ?_)
      | (with_reducible refine LeO.bind ?_ (fun _ => ?_))
      | exact ih0 _ _ _ _
      | exact hopscotchref06_Of.mono _ _
      | exact LeO.none _
      | refine LeO.ite ?_ ?_
      | refine LeO.bind ?_ (fun _ => ?_)
end Go.Proofs.YtebekjenmoijhaaDoor.PM
