/- Contracts of the functions that the statement reaches, each with the plain function that it computes, written by a program out of the translation: whatever Lean takes of it stands proved. -/
import Derived.Test.YtpldpnkjmdlcdaaPN0
import Derived.Test.YtpldpnkjmdlcdaaPN1
import Derived.Test.YtpldpnkjmdlcdaaPN2
namespace Go.Proofs.Ytpldpnkjmdlcdaa.PN
open Go.RowKit Go.Proofs.YtpldpnkjmdlcdaaW.PrintWords Go.Proofs.YtpldpnkjmdlcdaaW.PrintLast Go.Proofs.YtpldpnkjmdlcdaaW.PrintMore
attribute [local go_sem] max2_int min2_int max_two min_two max_three min_three max_four min_four   -- for this text's walks alone
set_option linter.unusedVariables false
set_option linter.unusedSimpArgs false

/-! ### hopscotchlaw02_NameBack: function 5 -/
mutual
def hopscotchlaw02_NameBack.j0 : Nat → ByteArray → ByteArray → Int → Bool → Option (Bool)
  | 0, _, _, _, _ => none
  | k + 1, x0, x1, x2, x20 => if x20 = true then ((hopscotchlaw02_works.f k).bind fun t157 => (some t157)) else ((name_Plain.f k x0).bind fun t158 => (if t158 = true then ((name_Plain.f k x1).bind fun t159 => (hopscotchlaw02_NameBack.j1 k x0 x1 x2 t159)) else (hopscotchlaw02_NameBack.j1 k x0 x1 x2 false)))
def hopscotchlaw02_NameBack.j1 : Nat → ByteArray → ByteArray → Int → Bool → Option (Bool)
  | 0, _, _, _, _ => none
  | k + 1, x0, x1, x2, x27 => if x27 = true then (if x0.size + 1 ≤ 9223372036854775807 then (if (x0 ++ (⟨#[58]⟩ : ByteArray)).size + x1.size ≤ 9223372036854775807 then ((name_Split.f k ((x0 ++ (⟨#[58]⟩ : ByteArray)) ++ x1)).bind fun bt160 => (if (bt160.2.2 != (decide ((wrap64 ((wrap64 ((x0.size : Int) + 1)) + (x1.size : Int))) ≤ 64))) = true then (some false) else (if bt160.2.2 = true then (if bt160.1.toList = x0.toList then (if bt160.2.1.toList = x1.toList then (hopscotchlaw02_NameBack.j2 k x0 x1 x2) else (some false)) else (some false)) else (hopscotchlaw02_NameBack.j2 k x0 x1 x2)))) else (none)) else (none)) else (hopscotchlaw02_NameBack.j2 k x0 x1 x2)
def hopscotchlaw02_NameBack.j2 : Nat → ByteArray → ByteArray → Int → Option (Bool)
  | 0, _, _, _ => none
  | k + 1, x0, x1, x2 => (name_Split.f k x0).bind fun bt163 => (if bt163.2.2 = true then (if bt163.1.toList = ([] : List UInt8) then (if bt163.2.1.toList = x0.toList then ((name_Plain.f k bt163.2.1).bind fun t168 => (hopscotchlaw02_NameBack.j3 k x0 x1 x2 (!t168))) else (hopscotchlaw02_NameBack.j3 k x0 x1 x2 true)) else (if bt163.1.size + 1 ≤ 9223372036854775807 then (if (bt163.1 ++ (⟨#[58]⟩ : ByteArray)).size + bt163.2.1.size ≤ 9223372036854775807 then (if ((bt163.1 ++ (⟨#[58]⟩ : ByteArray)) ++ bt163.2.1).toList = x0.toList then ((name_Plain.f k bt163.1).bind fun t169 => (if t169 = true then ((name_Plain.f k bt163.2.1).bind fun t170 => (hopscotchlaw02_NameBack.j3 k x0 x1 x2 (!t170))) else (hopscotchlaw02_NameBack.j3 k x0 x1 x2 true))) else (hopscotchlaw02_NameBack.j3 k x0 x1 x2 true)) else (none)) else (none))) else (if bt163.1.toList = ([] : List UInt8) then (if bt163.2.1.toList = ([] : List UInt8) then ((name_Is.f k x0).bind fun t166 => (if t166 = true then (some false) else ((hopscotchlaw02_works.f k).bind fun t167 => (some t167)))) else (some false)) else (some false)))
def hopscotchlaw02_NameBack.j3 : Nat → ByteArray → ByteArray → Int → Bool → Option (Bool)
  | 0, _, _, _, _ => none
  | k + 1, x0, x1, x2, x109 => if x109 = true then (some false) else ((hopscotchref02_May.f x2).bind fun t171 => (if t171 = true then (hopscotchlaw02_NameBack.j4 k x0 x1 x2 true) else (hopscotchlaw02_NameBack.j4 k x0 x1 x2 (x2 == 58))))
def hopscotchlaw02_NameBack.j4 : Nat → ByteArray → ByteArray → Int → Bool → Option (Bool)
  | 0, _, _, _, _ => none
  | k + 1, x0, x1, x2, x115 => if x115 = true then ((hopscotchlaw02_works.f k).bind fun t172 => (some t172)) else ((some (([x2] : List Int) : List Int)).bind fun y173 => (if x0.size + (strOfNums y173).size ≤ 9223372036854775807 then (if (x0 ++ (strOfNums y173)).size + x1.size ≤ 9223372036854775807 then ((Go.Proofs.Ytpldpnkjmdlcdaa.X.name_Begin.f ((x0 ++ (strOfNums y173)) ++ x1)).bind fun t176 => (if t176 = (x0.size : Int) then ((Go.Proofs.Ytpldpnkjmdlcdaa.X.name_Begin.f x0).bind fun t177 => (if t177 = (x0.size : Int) then ((hopscotchlaw02_works.f k).bind fun t178 => (some t178)) else (some false))) else (some false))) else (none)) else (none)))
end
def hopscotchlaw02_NameBack.f (k : Nat) (a0 : ByteArray) (a1 : ByteArray) (a2 : Int) : Option (Bool) := if (a0.size : Int) > 200 then (hopscotchlaw02_NameBack.j0 k a0 a1 a2 true) else (hopscotchlaw02_NameBack.j0 k a0 a1 a2 (decide ((a1.size : Int) > 200)))
theorem hopscotchlaw02_NameBack.mono_l : ∀ k, (∀ y0 y1 y2 y3, LeO (hopscotchlaw02_NameBack.j0 k y0 y1 y2 y3) (hopscotchlaw02_NameBack.j0 (k + 1) y0 y1 y2 y3)) ∧ (∀ y0 y1 y2 y3, LeO (hopscotchlaw02_NameBack.j1 k y0 y1 y2 y3) (hopscotchlaw02_NameBack.j1 (k + 1) y0 y1 y2 y3)) ∧ (∀ y0 y1 y2, LeO (hopscotchlaw02_NameBack.j2 k y0 y1 y2) (hopscotchlaw02_NameBack.j2 (k + 1) y0 y1 y2)) ∧ (∀ y0 y1 y2 y3, LeO (hopscotchlaw02_NameBack.j3 k y0 y1 y2 y3) (hopscotchlaw02_NameBack.j3 (k + 1) y0 y1 y2 y3)) ∧ (∀ y0 y1 y2 y3, LeO (hopscotchlaw02_NameBack.j4 k y0 y1 y2 y3) (hopscotchlaw02_NameBack.j4 (k + 1) y0 y1 y2 y3))
  | 0 => ⟨fun _ _ _ _ r h => by simp [hopscotchlaw02_NameBack.j0] at h, fun _ _ _ _ r h => by simp [hopscotchlaw02_NameBack.j1] at h, fun _ _ _ r h => by simp [hopscotchlaw02_NameBack.j2] at h, fun _ _ _ _ r h => by simp [hopscotchlaw02_NameBack.j3] at h, fun _ _ _ _ r h => by simp [hopscotchlaw02_NameBack.j4] at h⟩
  | k + 1 => by
    obtain ⟨ih0, ih1, ih2, ih3, ih4⟩ := hopscotchlaw02_NameBack.mono_l k
    refine ⟨?_, ?_, ?_, ?_, ?_⟩
    · intro y0 y1 y2 y3
      unfold hopscotchlaw02_NameBack.j0
      repeat' first
      | (with_reducible exact ih0 _ _ _ _)
      | (with_reducible exact ih1 _ _ _ _)
      | (with_reducible exact ih2 _ _ _)
      | (with_reducible exact ih3 _ _ _ _)
      | (with_reducible exact ih4 _ _ _ _)
      | (with_reducible exact hopscotchlaw02_works.mono _)
      | (with_reducible exact name_Is.mono _ _)
      | (with_reducible exact name_Plain.mono _ _)
      | (with_reducible exact name_Split.mono _ _)
      | (with_reducible exact LeO.refl _)
      | (with_reducible exact LeO.none _)
      | (with_reducible refine LeO.ite ?_ ?_)
      | (with_reducible refine LeO.bind ?_ (fun _ => ?_))
      | exact ih0 _ _ _ _
      | exact ih1 _ _ _ _
      | exact ih2 _ _ _
      | exact ih3 _ _ _ _
      | exact ih4 _ _ _ _
      | exact hopscotchlaw02_works.mono _
      | exact name_Is.mono _ _
      | exact name_Plain.mono _ _
      | exact name_Split.mono _ _
      | exact LeO.none _
      | refine LeO.ite ?_ ?_
      | refine LeO.bind ?_ (fun _ => ?_)
    · intro y0 y1 y2 y3
      unfold hopscotchlaw02_NameBack.j1
      repeat' first
      | (with_reducible exact ih0 _ _ _ _)
      | (with_reducible exact ih1 _ _ _ _)
      | (with_reducible exact ih2 _ _ _)
      | (with_reducible exact ih3 _ _ _ _)
      | (with_reducible exact ih4 _ _ _ _)
      | (with_reducible exact hopscotchlaw02_works.mono _)
      | (with_reducible exact name_Is.mono _ _)
      | (with_reducible exact name_Plain.mono _ _)
      | (with_reducible exact name_Split.mono _ _)
      | (with_reducible exact LeO.refl _)
      | (with_reducible exact LeO.none _)
      | (with_reducible refine LeO.ite ?_ ?_)
      | (with_reducible refine LeO.bind ?_ (fun _ => ?_))
      | exact ih0 _ _ _ _
      | exact ih1 _ _ _ _
      | exact ih2 _ _ _
      | exact ih3 _ _ _ _
      | exact ih4 _ _ _ _
      | exact hopscotchlaw02_works.mono _
      | exact name_Is.mono _ _
      | exact name_Plain.mono _ _
      | exact name_Split.mono _ _
      | exact LeO.none _
      | refine LeO.ite ?_ ?_
      | refine LeO.bind ?_ (fun _ => ?_)
    · intro y0 y1 y2
      unfold hopscotchlaw02_NameBack.j2
      repeat' first
      | (with_reducible exact ih0 _ _ _ _)
      | (with_reducible exact ih1 _ _ _ _)
      | (with_reducible exact ih2 _ _ _)
      | (with_reducible exact ih3 _ _ _ _)
      | (with_reducible exact ih4 _ _ _ _)
      | (with_reducible exact hopscotchlaw02_works.mono _)
      | (with_reducible exact name_Is.mono _ _)
      | (with_reducible exact name_Plain.mono _ _)
      | (with_reducible exact name_Split.mono _ _)
      | (with_reducible exact LeO.refl _)
      | (with_reducible exact LeO.none _)
      | (with_reducible refine LeO.ite ?_ ?_)
      | (with_reducible refine LeO.bind ?_ (fun _ => ?_))
      | exact ih0 _ _ _ _
      | exact ih1 _ _ _ _
      | exact ih2 _ _ _
      | exact ih3 _ _ _ _
      | exact ih4 _ _ _ _
      | exact hopscotchlaw02_works.mono _
      | exact name_Is.mono _ _
      | exact name_Plain.mono _ _
      | exact name_Split.mono _ _
      | exact LeO.none _
      | refine LeO.ite ?_ ?_
      | refine LeO.bind ?_ (fun _ => ?_)
    · intro y0 y1 y2 y3
      unfold hopscotchlaw02_NameBack.j3
      repeat' first
      | (with_reducible exact ih0 _ _ _ _)
      | (with_reducible exact ih1 _ _ _ _)
      | (with_reducible exact ih2 _ _ _)
      | (with_reducible exact ih3 _ _ _ _)
      | (with_reducible exact ih4 _ _ _ _)
      | (with_reducible exact hopscotchlaw02_works.mono _)
      | (with_reducible exact name_Is.mono _ _)
      | (with_reducible exact name_Plain.mono _ _)
      | (with_reducible exact name_Split.mono _ _)
      | (with_reducible exact LeO.refl _)
      | (with_reducible exact LeO.none _)
      | (with_reducible refine LeO.ite ?_ ?_)
      | (with_reducible refine LeO.bind ?_ (fun _ => ?_))
      | exact ih0 _ _ _ _
      | exact ih1 _ _ _ _
      | exact ih2 _ _ _
      | exact ih3 _ _ _ _
      | exact ih4 _ _ _ _
      | exact hopscotchlaw02_works.mono _
      | exact name_Is.mono _ _
      | exact name_Plain.mono _ _
      | exact name_Split.mono _ _
      | exact LeO.none _
      | refine LeO.ite ?_ ?_
      | refine LeO.bind ?_ (fun _ => ?_)
    · intro y0 y1 y2 y3
      unfold hopscotchlaw02_NameBack.j4
      repeat' first
      | (with_reducible exact ih0 _ _ _ _)
      | (with_reducible exact ih1 _ _ _ _)
      | (with_reducible exact ih2 _ _ _)
      | (with_reducible exact ih3 _ _ _ _)
      | (with_reducible exact ih4 _ _ _ _)
      | (with_reducible exact hopscotchlaw02_works.mono _)
      | (with_reducible exact name_Is.mono _ _)
      | (with_reducible exact name_Plain.mono _ _)
      | (with_reducible exact name_Split.mono _ _)
      | (with_reducible exact LeO.refl _)
      | (with_reducible exact LeO.none _)
      | (with_reducible refine LeO.ite ?_ ?_)
      | (with_reducible refine LeO.bind ?_ (fun _ => ?_))
      | exact ih0 _ _ _ _
      | exact ih1 _ _ _ _
      | exact ih2 _ _ _
      | exact ih3 _ _ _ _
      | exact ih4 _ _ _ _
      | exact hopscotchlaw02_works.mono _
      | exact name_Is.mono _ _
      | exact name_Plain.mono _ _
      | exact name_Split.mono _ _
      | exact LeO.none _
      | refine LeO.ite ?_ ?_
      | refine LeO.bind ?_ (fun _ => ?_)
theorem hopscotchlaw02_NameBack.mono : ∀ a0 a1 a2 k, LeO (hopscotchlaw02_NameBack.f k a0 a1 a2) (hopscotchlaw02_NameBack.f (k + 1) a0 a1 a2) := by
  intro a0 a1 a2 k
  obtain ⟨ih0, ih1, ih2, ih3, ih4⟩ := hopscotchlaw02_NameBack.mono_l k
  unfold hopscotchlaw02_NameBack.f
  repeat' first
      | (with_reducible exact ih0 _ _ _ _)
      | (with_reducible exact ih1 _ _ _ _)
      | (with_reducible exact ih2 _ _ _)
      | (with_reducible exact ih3 _ _ _ _)
      | (with_reducible exact ih4 _ _ _ _)
      | (with_reducible exact hopscotchlaw02_works.mono _)
      | (with_reducible exact name_Is.mono _ _)
      | (with_reducible exact name_Plain.mono _ _)
      | (with_reducible exact name_Split.mono _ _)
      | (with_reducible exact LeO.refl _)
      | (with_reducible exact LeO.none _)
      | (with_reducible refine LeO.ite ?_ ?_)
      | (with_reducible refine LeO.bind ?_ (fun _ => ?_))
      | exact ih0 _ _ _ _
      | exact ih1 _ _ _ _
      | exact ih2 _ _ _
      | exact ih3 _ _ _ _
      | exact ih4 _ _ _ _
      | exact hopscotchlaw02_works.mono _
      | exact name_Is.mono _ _
      | exact name_Plain.mono _ _
      | exact name_Split.mono _ _
      | exact LeO.none _
      | refine LeO.ite ?_ ?_
      | refine LeO.bind ?_ (fun _ => ?_)
set_option maxHeartbeats 8000000 in
set_option maxRecDepth 100000 in
theorem hopscotchlaw02_NameBack.calls (k : Nat) (a0 : ByteArray) (a1 : ByteArray) (a2 : Int) (r : Bool) (w : World) (h : hopscotchlaw02_NameBack.f k a0 a1 a2 = some r) :
    Calls Try.prog 5 #[.string a0, .string a1, .int .u8 a2] w fun e w' => e = .returned (.bool r) ∧ Below w.heap.size w w' := by
  have HB := Aside0.mk (Below.refl w.heap.size w)
  have H : (if (a0.size : Int) > 200 then (hopscotchlaw02_NameBack.j0 k a0 a1 a2 true) else (hopscotchlaw02_NameBack.j0 k a0 a1 a2 (decide ((a1.size : Int) > 200)))) = some r := h
  clear h
  have HC4 := Aside0.mk H
  clear H
  go_enter Try.func5, Try.ntmps5
  go_upto_region 1 with (fail)
  go_cut [20] (fun v20 wc => ∃ (kq : Nat) (x20_3 : Bool), v20 = .bool x20_3 ∧ Aside0 (hopscotchlaw02_NameBack.j0 kq a0 a1 a2 x20_3 = some r) ∧ Aside0 (kq ≤ k) ∧ Aside0 (Below w.heap.size w wc))
  case first =>
    have H := HC4.out
    clear HC4
    by_cases c5 : (a0.size : Int) > 200
    · rw [if_pos c5] at H
      have c5b0 : decide (200 < (a0.size : Int)) = true := decide_eq_true c5
      have c5b1 : decide (200 < a0.size) = true := decide_eq_true (by omega)
      clear c5
      (first | rw [c5b0] | (simp only [i64_w, i32_w]; rw [c5b0]) | skip)
      have H' := Aside0.mk H
      clear H
      go_wp2
      go_meet
      case rel => exact ⟨_, (true), (by first | rfl | (simp; done) | (simp [*]; done) | (simp [bne, show ∀ l_ : List UInt8, (l_ == []) = l_.isEmpty from fun l_ => by cases l_ <;> rfl]; done)), H', ⟨by first | omega | exact Nat.le_refl _⟩, ⟨by repeat (first | (with_reducible first | exact HB.out | apply below_alloc | apply pw_below_drewN | apply below_drew1) | exact HB.out)⟩⟩
    · rw [if_neg c5] at H
      have c5b0 : decide (200 < (a0.size : Int)) = false := decide_eq_false c5
      have c5b1 : decide (200 < a0.size) = false := decide_eq_false (by omega)
      clear c5
      (first | rw [c5b0] | (simp only [i64_w, i32_w]; rw [c5b0]) | skip)
      have H' := Aside0.mk H
      clear H
      go_wp2
      go_meet
      case rel => exact ⟨_, (decide ((a1.size : Int) > 200)), (by first | rfl | (simp; done) | (simp [*]; done) | (simp [bne, show ∀ l_ : List UInt8, (l_ == []) = l_.isEmpty from fun l_ => by cases l_ <;> rfl]; done)), H', ⟨by first | omega | exact Nat.le_refl _⟩, ⟨by repeat (first | (with_reducible first | exact HB.out | apply below_alloc | apply pw_below_drewN | apply below_drew1) | exact HB.out)⟩⟩
  case rest =>
    clear HC4
    try clear p2
    try clear c5
    try clear c5b0
    try clear c5b1
    obtain ⟨kq, x20_3, rfl, HA, HJ3, HB⟩ := hcut
    cases kq with
    | zero => exact absurd HA.out (by simp [hopscotchlaw02_NameBack.j0])
    | succ kj3 =>
      have H := HA.out
      clear HA
      simp only [hopscotchlaw02_NameBack.j0] at H
      by_cases c6 : x20_3 = true
      · subst c6
        have H1 : ((hopscotchlaw02_works.f kj3).bind fun t157 => (some t157)) = some r := by rw [if_pos rfl] at H; exact H
        clear H
        have H := H1
        clear H1
        replace H := Option.bind_eq_some_iff.mp H
        obtain ⟨t157, A70, H⟩ := H
        replace H : (some t157) = some r := H
        have A7 := Aside0.mk A70
        clear A70
        obtain rfl := Option.some.inj H
        go_wp2_with (first | ((with_reducible refine gate_callee (f := 9) rfl ?_); refine goesL_ (some 21) rfl rfl Try.func9 (by kernel_rfl) rfl #[] rfl (by (try simp only [List.map_toArray, List.map_cons, List.map_nil]); first | done | rfl | (simp only [List.length_drop, List.length_take]; rfl)) ?_; (with_reducible refine (hopscotchlaw02_works.calls kj3  t157 _ A7.out).mono ?_); rintro e w8 ⟨rfl, hb⟩; refine ⟨_, rfl, ?_⟩; have n0_ := Aside0.mk (below_step (by repeat (first | (with_reducible first | exact HB.out | apply below_alloc | apply pw_below_drewN | apply below_drew1) | exact HB.out)) hb); clear HB; have HB := n0_; clear n0_; (try clear hb); (try clear hb2); (try clear hk); (try clear hi)))
        go_ret
        exact ⟨by first | rfl | (simp [errW_none, errW_some] <;> rfl) | (simp [*, errW_none, errW_some] <;> rfl), by repeat (first | (with_reducible first | exact HB.out | apply below_alloc | apply pw_below_drewN | apply below_drew1) | exact HB.out)⟩
      · replace c6 := Bool.eq_false_iff.mpr c6
        subst c6
        have H1 : ((name_Plain.f kj3 a0).bind fun t158 => (if t158 = true then ((name_Plain.f kj3 a1).bind fun t159 => (hopscotchlaw02_NameBack.j1 kj3 a0 a1 a2 t159)) else (hopscotchlaw02_NameBack.j1 kj3 a0 a1 a2 false))) = some r := by rw [if_neg (show ¬ (false = true) by decide)] at H; exact H
        clear H
        have H := H1
        clear H1
        have HC9 := Aside0.mk H
        clear H
        go_upto_region 3 with (fail)
        go_cut [27] (fun v27 wc => ∃ (kq : Nat) (x27_8 : Bool), v27 = .bool x27_8 ∧ Aside0 (hopscotchlaw02_NameBack.j1 kq a0 a1 a2 x27_8 = some r) ∧ Aside0 (kq ≤ kj3) ∧ Aside0 (Below w.heap.size w wc))
        case first =>
          have H := HC9.out
          clear HC9
          replace H := Option.bind_eq_some_iff.mp H
          obtain ⟨t158, A100, H⟩ := H
          replace H : (if t158 = true then ((name_Plain.f kj3 a1).bind fun t159 => (hopscotchlaw02_NameBack.j1 kj3 a0 a1 a2 t159)) else (hopscotchlaw02_NameBack.j1 kj3 a0 a1 a2 false)) = some r := H
          have A10 := Aside0.mk A100
          clear A100
          by_cases c11 : t158 = true
          · subst c11
            have H1 : ((name_Plain.f kj3 a1).bind fun t159 => (hopscotchlaw02_NameBack.j1 kj3 a0 a1 a2 t159)) = some r := by rw [if_pos rfl] at H; exact H
            clear H
            have H := H1
            clear H1
            replace H := Option.bind_eq_some_iff.mp H
            obtain ⟨t159, A120, H⟩ := H
            replace H : (hopscotchlaw02_NameBack.j1 kj3 a0 a1 a2 t159) = some r := H
            have A12 := Aside0.mk A120
            clear A120
            have H' := Aside0.mk H
            clear H
            go_wp2_with (first | ((with_reducible refine gate_callee (f := 13) rfl ?_); refine goesL_ (some 23) rfl rfl Try.func13 (by kernel_rfl) rfl #[.string a0] rfl (by (try simp only [List.map_toArray, List.map_cons, List.map_nil]); first | done | rfl | (simp only [List.length_drop, List.length_take]; rfl)) ?_; (with_reducible refine (name_Plain.calls kj3 a0 true _ A10.out).mono ?_); rintro e w13 ⟨rfl, hb⟩; refine ⟨_, rfl, ?_⟩; have n0_ := Aside0.mk (below_step (by repeat (first | (with_reducible first | exact HB.out | apply below_alloc | apply pw_below_drewN | apply below_drew1) | exact HB.out)) hb); clear HB; have HB := n0_; clear n0_; (try clear hb); (try clear hb2); (try clear hk); (try clear hi)) | (go_at_call 13; (with_reducible refine (name_Plain.calls kj3 a1 t159 _ A12.out).mono ?_); rintro e w14 ⟨rfl, hb⟩; have n0_ := Aside0.mk (below_step (by repeat (first | (with_reducible first | exact HB.out | apply below_alloc | apply pw_below_drewN | apply below_drew1) | exact HB.out)) hb); clear HB; have HB := n0_; clear n0_; (try clear hb); (try clear hb2); (try clear hk); (try clear hi)))
            go_meet
            case rel => exact ⟨_, (t159), (by first | rfl | (simp; done) | (simp [*]; done) | (simp [bne, show ∀ l_ : List UInt8, (l_ == []) = l_.isEmpty from fun l_ => by cases l_ <;> rfl]; done)), H', ⟨by have := HJ3.out; first | omega | exact Nat.le_refl _⟩, ⟨by repeat (first | (with_reducible first | exact HB.out | apply below_alloc | apply pw_below_drewN | apply below_drew1) | exact HB.out)⟩⟩
          · replace c11 := Bool.eq_false_iff.mpr c11
            subst c11
            have H1 : (hopscotchlaw02_NameBack.j1 kj3 a0 a1 a2 false) = some r := by rw [if_neg (show ¬ (false = true) by decide)] at H; exact H
            clear H
            have H := H1
            clear H1
            have H' := Aside0.mk H
            clear H
            go_wp2_with (first | ((with_reducible refine gate_callee (f := 13) rfl ?_); refine goesL_ (some 23) rfl rfl Try.func13 (by kernel_rfl) rfl #[.string a0] rfl (by (try simp only [List.map_toArray, List.map_cons, List.map_nil]); first | done | rfl | (simp only [List.length_drop, List.length_take]; rfl)) ?_; (with_reducible refine (name_Plain.calls kj3 a0 false _ A10.out).mono ?_); rintro e w15 ⟨rfl, hb⟩; refine ⟨_, rfl, ?_⟩; have n0_ := Aside0.mk (below_step (by repeat (first | (with_reducible first | exact HB.out | apply below_alloc | apply pw_below_drewN | apply below_drew1) | exact HB.out)) hb); clear HB; have HB := n0_; clear n0_; (try clear hb); (try clear hb2); (try clear hk); (try clear hi)))
            go_meet
            case rel => exact ⟨_, (false), (by first | rfl | (simp; done) | (simp [*]; done) | (simp [bne, show ∀ l_ : List UInt8, (l_ == []) = l_.isEmpty from fun l_ => by cases l_ <;> rfl]; done)), H', ⟨by have := HJ3.out; first | omega | exact Nat.le_refl _⟩, ⟨by repeat (first | (with_reducible first | exact HB.out | apply below_alloc | apply pw_below_drewN | apply below_drew1) | exact HB.out)⟩⟩
        case rest =>
          clear HC9
          try clear c1
          try clear p2
          try clear c5
          try clear c5b0
          try clear c5b1
          try clear c6
          try clear c9
          try clear c11
          try clear c13
          try clear p2
          obtain ⟨kq, x27_8, rfl, HA, HJ8, HB⟩ := hcut
          cases kq with
          | zero => exact absurd HA.out (by simp [hopscotchlaw02_NameBack.j1])
          | succ kj8 =>
            have H := HA.out
            clear HA
            simp only [hopscotchlaw02_NameBack.j1] at H
            have HC16 := Aside0.mk H
            clear H
            go_upto_if 27 with (fail)
            go_cut [] (fun wc => ∃ (kq : Nat), Aside0 (hopscotchlaw02_NameBack.j2 kq a0 a1 a2 = some r) ∧ Aside0 (kq ≤ kj8) ∧ Aside0 (Below w.heap.size w wc))
            case first =>
              have H := HC16.out
              clear HC16
              by_cases c17 : x27_8 = true
              · subst c17
                have H1 : (if a0.size + 1 ≤ 9223372036854775807 then (if (a0 ++ (⟨#[58]⟩ : ByteArray)).size + a1.size ≤ 9223372036854775807 then ((name_Split.f kj8 ((a0 ++ (⟨#[58]⟩ : ByteArray)) ++ a1)).bind fun bt160 => (if (bt160.2.2 != (decide ((wrap64 ((wrap64 ((a0.size : Int) + 1)) + (a1.size : Int))) ≤ 64))) = true then (some false) else (if bt160.2.2 = true then (if bt160.1.toList = a0.toList then (if bt160.2.1.toList = a1.toList then (hopscotchlaw02_NameBack.j2 kj8 a0 a1 a2) else (some false)) else (some false)) else (hopscotchlaw02_NameBack.j2 kj8 a0 a1 a2)))) else (none)) else (none)) = some r := by rw [if_pos rfl] at H; exact H
                clear H
                have H := H1
                clear H1
                by_cases c18 : a0.size + 1 ≤ 9223372036854775807
                · rw [if_pos c18] at H
                  rw [show wrap64 ((a0.size : Int) + 1) = (a0.size : Int) + 1 from by unfold wrap64; omega] at H
                  have c18b0 := eq_true c18
                  have c18b1 : decide (a0.size + 1 ≤ 9223372036854775807) = true := decide_eq_true c18
                  try have c18b2 : (9223372036854775807 < a0.size + 1) = False := eq_false (Nat.not_lt.2 c18)
                  by_cases c19 : (a0 ++ (⟨#[58]⟩ : ByteArray)).size + a1.size ≤ 9223372036854775807
                  · rw [if_pos c19] at H
                    have c19b0 := eq_true c19
                    have c19b1 : decide ((a0 ++ (⟨#[58]⟩ : ByteArray)).size + a1.size ≤ 9223372036854775807) = true := decide_eq_true c19
                    try have c19b2 : (9223372036854775807 < (a0 ++ (⟨#[58]⟩ : ByteArray)).size + a1.size) = False := eq_false (Nat.not_lt.2 c19)
                    replace H := Option.bind_eq_some_iff.mp H
                    obtain ⟨⟨t160, t161, t162⟩, A200, H⟩ := H
                    replace H : (if (t162 != (decide ((wrap64 (((a0.size : Int) + 1) + (a1.size : Int))) ≤ 64))) = true then (some false) else (if t162 = true then (if t160.toList = a0.toList then (if t161.toList = a1.toList then (hopscotchlaw02_NameBack.j2 kj8 a0 a1 a2) else (some false)) else (some false)) else (hopscotchlaw02_NameBack.j2 kj8 a0 a1 a2))) = some r := H
                    have A20 := Aside0.mk A200
                    clear A200
                    by_cases c21 : (t162 != (decide ((wrap64 (((a0.size : Int) + 1) + (a1.size : Int))) ≤ 64))) = true
                    · rw [if_pos c21] at H
                      have c21b0 : (t162 != (decide ((wrap64 (((a0.size : Int) + 1) + (a1.size : Int))) ≤ 64))) = true := c21
                      (try (have c21b1 : decide (t162 = (decide ((wrap64 (((a0.size : Int) + 1) + (a1.size : Int))) ≤ 64))) = false := by simpa using c21))
                      (try (have c21b2 : (t162 == (decide ((wrap64 (((a0.size : Int) + 1) + (a1.size : Int))) ≤ 64))) = false := by simpa using c21))
                      (try (have c21b3 : ¬ (t162 = (decide ((wrap64 (((a0.size : Int) + 1) + (a1.size : Int))) ≤ 64))) := by simpa using c21))
                      clear c21
                      (first | rw [c21b0] | (simp only [i64_w, i32_w]; rw [c21b0]) | skip)
                      obtain rfl := Option.some.inj H
                      go_wp2_with (first | ((with_reducible refine gate_callee (f := 10) rfl ?_); refine goesL_ (some 33) rfl rfl Try.func10 (by kernel_rfl) rfl #[.string ((a0 ++ (⟨#[58]⟩ : ByteArray)) ++ a1)] rfl (by (try simp only [List.map_toArray, List.map_cons, List.map_nil]); first | done | rfl | (simp only [List.length_drop, List.length_take]; rfl)) ?_; (with_reducible refine (name_Split.calls kj8 ((a0 ++ (⟨#[58]⟩ : ByteArray)) ++ a1) t160 t161 t162 _ A20.out).mono ?_); rintro e w22 ⟨rfl, hb⟩; refine ⟨_, rfl, ?_⟩; have n0_ := Aside0.mk (below_step (by repeat (first | (with_reducible first | exact HB.out | apply below_alloc | apply pw_below_drewN | apply below_drew1) | exact HB.out)) hb); clear HB; have HB := n0_; clear n0_; (try clear hb); (try clear hb2); (try clear hk); (try clear hi)))
                      go_ret
                      exact ⟨by first | rfl | (simp [errW_none, errW_some] <;> rfl) | (simp [*, errW_none, errW_some] <;> rfl), by repeat (first | (with_reducible first | exact HB.out | apply below_alloc | apply pw_below_drewN | apply below_drew1) | exact HB.out)⟩
                    · rw [if_neg c21] at H
                      have c21b0 : (t162 != (decide ((wrap64 (((a0.size : Int) + 1) + (a1.size : Int))) ≤ 64))) = false := by simpa using c21
                      (try (have c21b1 : decide (t162 = (decide ((wrap64 (((a0.size : Int) + 1) + (a1.size : Int))) ≤ 64))) = true := by simpa using c21))
                      (try (have c21b2 : (t162 == (decide ((wrap64 (((a0.size : Int) + 1) + (a1.size : Int))) ≤ 64))) = true := by simpa using c21))
                      clear c21
                      (first | rw [c21b0] | (simp only [i64_w, i32_w]; rw [c21b0]) | skip)
                      by_cases c23 : t162 = true
                      · subst c23
                        have H1 : (if t160.toList = a0.toList then (if t161.toList = a1.toList then (hopscotchlaw02_NameBack.j2 kj8 a0 a1 a2) else (some false)) else (some false)) = some r := by rw [if_pos rfl] at H; exact H
                        clear H
                        have H := H1
                        clear H1
                        by_cases c24 : t160.toList = a0.toList
                        · rw [if_pos c24] at H
                          have c24b0 : (t160.toList == a0.toList) = true := beq_iff_eq.mpr c24
                          have c24b1 : (t160.toList != a0.toList) = false := bne_eq_false_iff_eq.mpr c24
                          clear c24
                          by_cases c25 : t161.toList = a1.toList
                          · rw [if_pos c25] at H
                            have c25b0 : (t161.toList == a1.toList) = true := beq_iff_eq.mpr c25
                            have c25b1 : (t161.toList != a1.toList) = false := bne_eq_false_iff_eq.mpr c25
                            clear c25
                            have H' := Aside0.mk H
                            clear H
                            go_wp2_with (first | ((with_reducible refine gate_callee (f := 10) rfl ?_); refine goesL_ (some 33) rfl rfl Try.func10 (by kernel_rfl) rfl #[.string ((a0 ++ (⟨#[58]⟩ : ByteArray)) ++ a1)] rfl (by (try simp only [List.map_toArray, List.map_cons, List.map_nil]); first | done | rfl | (simp only [List.length_drop, List.length_take]; rfl)) ?_; (with_reducible refine (name_Split.calls kj8 ((a0 ++ (⟨#[58]⟩ : ByteArray)) ++ a1) t160 t161 true _ A20.out).mono ?_); rintro e w26 ⟨rfl, hb⟩; refine ⟨_, rfl, ?_⟩; have n0_ := Aside0.mk (below_step (by repeat (first | (with_reducible first | exact HB.out | apply below_alloc | apply pw_below_drewN | apply below_drew1) | exact HB.out)) hb); clear HB; have HB := n0_; clear n0_; (try clear hb); (try clear hb2); (try clear hk); (try clear hi)))
                            go_meet
                            case rel => exact ⟨_, H', ⟨by have := HJ3.out; have := HJ8.out; first | omega | exact Nat.le_refl _⟩, ⟨by repeat (first | (with_reducible first | exact HB.out | apply below_alloc | apply pw_below_drewN | apply below_drew1) | exact HB.out)⟩⟩
                          · rw [if_neg c25] at H
                            have c25b0 : (t161.toList == a1.toList) = false := beq_eq_false_iff_ne.mpr c25
                            have c25b1 : (t161.toList != a1.toList) = true := bne_iff_ne.mpr c25
                            obtain rfl := Option.some.inj H
                            go_wp2_with (first | ((with_reducible refine gate_callee (f := 10) rfl ?_); refine goesL_ (some 33) rfl rfl Try.func10 (by kernel_rfl) rfl #[.string ((a0 ++ (⟨#[58]⟩ : ByteArray)) ++ a1)] rfl (by (try simp only [List.map_toArray, List.map_cons, List.map_nil]); first | done | rfl | (simp only [List.length_drop, List.length_take]; rfl)) ?_; (with_reducible refine (name_Split.calls kj8 ((a0 ++ (⟨#[58]⟩ : ByteArray)) ++ a1) t160 t161 true _ A20.out).mono ?_); rintro e w27 ⟨rfl, hb⟩; refine ⟨_, rfl, ?_⟩; have n0_ := Aside0.mk (below_step (by repeat (first | (with_reducible first | exact HB.out | apply below_alloc | apply pw_below_drewN | apply below_drew1) | exact HB.out)) hb); clear HB; have HB := n0_; clear n0_; (try clear hb); (try clear hb2); (try clear hk); (try clear hi)))
                            go_ret
                            exact ⟨by first | rfl | (simp [errW_none, errW_some] <;> rfl) | (simp [*, errW_none, errW_some] <;> rfl), by repeat (first | (with_reducible first | exact HB.out | apply below_alloc | apply pw_below_drewN | apply below_drew1) | exact HB.out)⟩
                        · rw [if_neg c24] at H
                          have c24b0 : (t160.toList == a0.toList) = false := beq_eq_false_iff_ne.mpr c24
                          have c24b1 : (t160.toList != a0.toList) = true := bne_iff_ne.mpr c24
                          obtain rfl := Option.some.inj H
                          go_wp2_with (first | ((with_reducible refine gate_callee (f := 10) rfl ?_); refine goesL_ (some 33) rfl rfl Try.func10 (by kernel_rfl) rfl #[.string ((a0 ++ (⟨#[58]⟩ : ByteArray)) ++ a1)] rfl (by (try simp only [List.map_toArray, List.map_cons, List.map_nil]); first | done | rfl | (simp only [List.length_drop, List.length_take]; rfl)) ?_; (with_reducible refine (name_Split.calls kj8 ((a0 ++ (⟨#[58]⟩ : ByteArray)) ++ a1) t160 t161 true _ A20.out).mono ?_); rintro e w28 ⟨rfl, hb⟩; refine ⟨_, rfl, ?_⟩; have n0_ := Aside0.mk (below_step (by repeat (first | (with_reducible first | exact HB.out | apply below_alloc | apply pw_below_drewN | apply below_drew1) | exact HB.out)) hb); clear HB; have HB := n0_; clear n0_; (try clear hb); (try clear hb2); (try clear hk); (try clear hi)))
                          go_ret
                          exact ⟨by first | rfl | (simp [errW_none, errW_some] <;> rfl) | (simp [*, errW_none, errW_some] <;> rfl), by repeat (first | (with_reducible first | exact HB.out | apply below_alloc | apply pw_below_drewN | apply below_drew1) | exact HB.out)⟩
                      · replace c23 := Bool.eq_false_iff.mpr c23
                        subst c23
                        have H1 : (hopscotchlaw02_NameBack.j2 kj8 a0 a1 a2) = some r := by rw [if_neg (show ¬ (false = true) by decide)] at H; exact H
                        clear H
                        have H := H1
                        clear H1
                        have H' := Aside0.mk H
                        clear H
                        go_wp2_with (first | ((with_reducible refine gate_callee (f := 10) rfl ?_); refine goesL_ (some 33) rfl rfl Try.func10 (by kernel_rfl) rfl #[.string ((a0 ++ (⟨#[58]⟩ : ByteArray)) ++ a1)] rfl (by (try simp only [List.map_toArray, List.map_cons, List.map_nil]); first | done | rfl | (simp only [List.length_drop, List.length_take]; rfl)) ?_; (with_reducible refine (name_Split.calls kj8 ((a0 ++ (⟨#[58]⟩ : ByteArray)) ++ a1) t160 t161 false _ A20.out).mono ?_); rintro e w29 ⟨rfl, hb⟩; refine ⟨_, rfl, ?_⟩; have n0_ := Aside0.mk (below_step (by repeat (first | (with_reducible first | exact HB.out | apply below_alloc | apply pw_below_drewN | apply below_drew1) | exact HB.out)) hb); clear HB; have HB := n0_; clear n0_; (try clear hb); (try clear hb2); (try clear hk); (try clear hi)))
                        go_meet
                        case rel => exact ⟨_, H', ⟨by have := HJ3.out; have := HJ8.out; first | omega | exact Nat.le_refl _⟩, ⟨by repeat (first | (with_reducible first | exact HB.out | apply below_alloc | apply pw_below_drewN | apply below_drew1) | exact HB.out)⟩⟩
                  · rw [if_neg c19] at H
                    exact absurd H (by simp)
                · rw [if_neg c18] at H
                  exact absurd H (by simp)
              · replace c17 := Bool.eq_false_iff.mpr c17
                subst c17
                have H1 : (hopscotchlaw02_NameBack.j2 kj8 a0 a1 a2) = some r := by rw [if_neg (show ¬ (false = true) by decide)] at H; exact H
                clear H
                have H := H1
                clear H1
                have H' := Aside0.mk H
                clear H
                go_wp2
                go_meet
                case rel => exact ⟨_, H', ⟨by have := HJ3.out; have := HJ8.out; first | omega | exact Nat.le_refl _⟩, ⟨by repeat (first | (with_reducible first | exact HB.out | apply below_alloc | apply pw_below_drewN | apply below_drew1) | exact HB.out)⟩⟩
            case rest =>
              clear HC16
              try clear c1
              try clear c2
              try clear p2
              try clear c5
              try clear c5b0
              try clear c5b1
              try clear c6
              try clear p6
              try clear c9
              try clear c10
              try clear c11
              try clear c13
              try clear c17
              try clear c18
              try clear c18b0
              try clear c18b1
              try clear c18b2
              try clear c19
              try clear c19b0
              try clear c19b1
              try clear c19b2
              try clear c21
              try clear c21b0
              try clear c21b1
              try clear c21b2
              try clear c23
              try clear c24
              try clear c24b0
              try clear c24b1
              try clear c25
              try clear c25b0
              try clear c25b1
              try clear p2
              obtain ⟨kq, HA, HJ15, HB⟩ := hcut
              cases kq with
              | zero => exact absurd HA.out (by simp [hopscotchlaw02_NameBack.j2])
              | succ kj15 =>
                have H := HA.out
                clear HA
                simp only [hopscotchlaw02_NameBack.j2] at H
                replace H := Option.bind_eq_some_iff.mp H
                obtain ⟨⟨t163, t164, t165⟩, A300, H⟩ := H
                replace H : (if t165 = true then (if t163.toList = ([] : List UInt8) then (if t164.toList = a0.toList then ((name_Plain.f kj15 t164).bind fun t168 => (hopscotchlaw02_NameBack.j3 kj15 a0 a1 a2 (!t168))) else (hopscotchlaw02_NameBack.j3 kj15 a0 a1 a2 true)) else (if t163.size + 1 ≤ 9223372036854775807 then (if (t163 ++ (⟨#[58]⟩ : ByteArray)).size + t164.size ≤ 9223372036854775807 then (if ((t163 ++ (⟨#[58]⟩ : ByteArray)) ++ t164).toList = a0.toList then ((name_Plain.f kj15 t163).bind fun t169 => (if t169 = true then ((name_Plain.f kj15 t164).bind fun t170 => (hopscotchlaw02_NameBack.j3 kj15 a0 a1 a2 (!t170))) else (hopscotchlaw02_NameBack.j3 kj15 a0 a1 a2 true))) else (hopscotchlaw02_NameBack.j3 kj15 a0 a1 a2 true)) else (none)) else (none))) else (if t163.toList = ([] : List UInt8) then (if t164.toList = ([] : List UInt8) then ((name_Is.f kj15 a0).bind fun t166 => (if t166 = true then (some false) else ((hopscotchlaw02_works.f kj15).bind fun t167 => (some t167)))) else (some false)) else (some false))) = some r := H
                have A30 := Aside0.mk A300
                clear A300
                by_cases c31 : t165 = true
                · subst c31
                  have H1 : (if t163.toList = ([] : List UInt8) then (if t164.toList = a0.toList then ((name_Plain.f kj15 t164).bind fun t168 => (hopscotchlaw02_NameBack.j3 kj15 a0 a1 a2 (!t168))) else (hopscotchlaw02_NameBack.j3 kj15 a0 a1 a2 true)) else (if t163.size + 1 ≤ 9223372036854775807 then (if (t163 ++ (⟨#[58]⟩ : ByteArray)).size + t164.size ≤ 9223372036854775807 then (if ((t163 ++ (⟨#[58]⟩ : ByteArray)) ++ t164).toList = a0.toList then ((name_Plain.f kj15 t163).bind fun t169 => (if t169 = true then ((name_Plain.f kj15 t164).bind fun t170 => (hopscotchlaw02_NameBack.j3 kj15 a0 a1 a2 (!t170))) else (hopscotchlaw02_NameBack.j3 kj15 a0 a1 a2 true))) else (hopscotchlaw02_NameBack.j3 kj15 a0 a1 a2 true)) else (none)) else (none))) = some r := by rw [if_pos rfl] at H; exact H
                  clear H
                  have H := H1
                  clear H1
                  have HC32 := Aside0.mk H
                  clear H
                  go_upto_region 10 with (first | ((with_reducible refine gate_callee (f := 10) rfl ?_); refine goesL_ (some 61) rfl rfl Try.func10 (by kernel_rfl) rfl #[.string a0] rfl (by (try simp only [List.map_toArray, List.map_cons, List.map_nil]); first | done | rfl | (simp only [List.length_drop, List.length_take]; rfl)) ?_; (with_reducible refine (name_Split.calls kj15 a0 t163 t164 true _ A30.out).mono ?_); rintro e w33 ⟨rfl, hb⟩; refine ⟨_, rfl, ?_⟩; have n0_ := Aside0.mk (below_step (by repeat (first | (with_reducible first | exact HB.out | apply below_alloc | apply pw_below_drewN | apply below_drew1) | exact HB.out)) hb); clear HB; have HB := n0_; clear n0_; (try clear hb); (try clear hb2); (try clear hk); (try clear hi)))
                  (try simp only [Act.put, List.setIfInBounds_toArray, List.set_cons_zero, List.set_cons_succ])
                  go_cut [109] (fun v109 wc => ∃ (kq : Nat) (x109_31 : Bool), v109 = .bool x109_31 ∧ Aside0 (hopscotchlaw02_NameBack.j3 kq a0 a1 a2 x109_31 = some r) ∧ Aside0 (kq ≤ kj15) ∧ Aside0 (Below w.heap.size w wc))
                  case first =>
                    have H := HC32.out
                    clear HC32
                    by_cases c34 : t163.toList = ([] : List UInt8)
                    · rw [if_pos c34] at H
                      have c34b0 : (t163.toList == ([] : List UInt8)) = true := beq_iff_eq.mpr c34
                      have c34b1 : (t163.toList != ([] : List UInt8)) = false := bne_eq_false_iff_eq.mpr c34
                      clear c34
                      (first | rw [c34b0] | (simp only [i64_w, i32_w]; rw [c34b0]) | skip)
                      by_cases c35 : t164.toList = a0.toList
                      · rw [if_pos c35] at H
                        have c35b0 : (t164.toList == a0.toList) = true := beq_iff_eq.mpr c35
                        have c35b1 : (t164.toList != a0.toList) = false := bne_eq_false_iff_eq.mpr c35
                        clear c35
                        replace H := Option.bind_eq_some_iff.mp H
                        obtain ⟨t168, A360, H⟩ := H
                        replace H : (hopscotchlaw02_NameBack.j3 kj15 a0 a1 a2 (!t168)) = some r := H
                        have A36 := Aside0.mk A360
                        clear A360
                        have H' := Aside0.mk H
                        clear H
                        go_wp2_with (first | (go_at_call 13; (with_reducible refine (name_Plain.calls kj15 t164 t168 _ A36.out).mono ?_); rintro e w37 ⟨rfl, hb⟩; have n0_ := Aside0.mk (below_step (by repeat (first | (with_reducible first | exact HB.out | apply below_alloc | apply pw_below_drewN | apply below_drew1) | exact HB.out)) hb); clear HB; have HB := n0_; clear n0_; (try clear hb); (try clear hb2); (try clear hk); (try clear hi)))
                        go_meet
                        case rel => exact ⟨_, (!t168), (by first | rfl | (simp; done) | (simp [*]; done) | (simp [bne, show ∀ l_ : List UInt8, (l_ == []) = l_.isEmpty from fun l_ => by cases l_ <;> rfl]; done)), H', ⟨by have := HJ3.out; have := HJ8.out; have := HJ15.out; first | omega | exact Nat.le_refl _⟩, ⟨by repeat (first | (with_reducible first | exact HB.out | apply below_alloc | apply pw_below_drewN | apply below_drew1) | exact HB.out)⟩⟩
                      · rw [if_neg c35] at H
                        have c35b0 : (t164.toList == a0.toList) = false := beq_eq_false_iff_ne.mpr c35
                        have c35b1 : (t164.toList != a0.toList) = true := bne_iff_ne.mpr c35
                        have H' := Aside0.mk H
                        clear H
                        go_wp2
                        go_meet
                        case rel => exact ⟨_, (true), (by first | rfl | (simp; done) | (simp [*]; done) | (simp [bne, show ∀ l_ : List UInt8, (l_ == []) = l_.isEmpty from fun l_ => by cases l_ <;> rfl]; done)), H', ⟨by have := HJ3.out; have := HJ8.out; have := HJ15.out; first | omega | exact Nat.le_refl _⟩, ⟨by repeat (first | (with_reducible first | exact HB.out | apply below_alloc | apply pw_below_drewN | apply below_drew1) | exact HB.out)⟩⟩
                    · rw [if_neg c34] at H
                      have c34b0 : (t163.toList == ([] : List UInt8)) = false := beq_eq_false_iff_ne.mpr c34
                      have c34b1 : (t163.toList != ([] : List UInt8)) = true := bne_iff_ne.mpr c34
                      (first | rw [c34b0] | (simp only [i64_w, i32_w]; rw [c34b0]) | skip)
                      by_cases c38 : t163.size + 1 ≤ 9223372036854775807
                      · rw [if_pos c38] at H
                        have c38b0 := eq_true c38
                        have c38b1 : decide (t163.size + 1 ≤ 9223372036854775807) = true := decide_eq_true c38
                        try have c38b2 : (9223372036854775807 < t163.size + 1) = False := eq_false (Nat.not_lt.2 c38)
                        by_cases c39 : (t163 ++ (⟨#[58]⟩ : ByteArray)).size + t164.size ≤ 9223372036854775807
                        · rw [if_pos c39] at H
                          have c39b0 := eq_true c39
                          have c39b1 : decide ((t163 ++ (⟨#[58]⟩ : ByteArray)).size + t164.size ≤ 9223372036854775807) = true := decide_eq_true c39
                          try have c39b2 : (9223372036854775807 < (t163 ++ (⟨#[58]⟩ : ByteArray)).size + t164.size) = False := eq_false (Nat.not_lt.2 c39)
                          by_cases c40 : ((t163 ++ (⟨#[58]⟩ : ByteArray)) ++ t164).toList = a0.toList
                          · rw [if_pos c40] at H
                            have c40b0 : (((t163 ++ (⟨#[58]⟩ : ByteArray)) ++ t164).toList == a0.toList) = true := beq_iff_eq.mpr c40
                            have c40b1 : (((t163 ++ (⟨#[58]⟩ : ByteArray)) ++ t164).toList != a0.toList) = false := bne_eq_false_iff_eq.mpr c40
                            clear c40
                            replace H := Option.bind_eq_some_iff.mp H
                            obtain ⟨t169, A410, H⟩ := H
                            replace H : (if t169 = true then ((name_Plain.f kj15 t164).bind fun t170 => (hopscotchlaw02_NameBack.j3 kj15 a0 a1 a2 (!t170))) else (hopscotchlaw02_NameBack.j3 kj15 a0 a1 a2 true)) = some r := H
                            have A41 := Aside0.mk A410
                            clear A410
                            by_cases c42 : t169 = true
                            · subst c42
                              have H1 : ((name_Plain.f kj15 t164).bind fun t170 => (hopscotchlaw02_NameBack.j3 kj15 a0 a1 a2 (!t170))) = some r := by rw [if_pos rfl] at H; exact H
                              clear H
                              have H := H1
                              clear H1
                              replace H := Option.bind_eq_some_iff.mp H
                              obtain ⟨t170, A430, H⟩ := H
                              replace H : (hopscotchlaw02_NameBack.j3 kj15 a0 a1 a2 (!t170)) = some r := H
                              have A43 := Aside0.mk A430
                              clear A430
                              have H' := Aside0.mk H
                              clear H
                              have tok359_0 : True := trivial
                              have tok359_1 : True := trivial
                              go_wp2_with (first | (have tu_ := tok359_0; clear tu_ tok359_0; go_at_call 13; (with_reducible refine (name_Plain.calls kj15 t163 true _ A41.out).mono ?_); rintro e w44 ⟨rfl, hb⟩; have n0_ := Aside0.mk (below_step (by repeat (first | (with_reducible first | exact HB.out | apply below_alloc | apply pw_below_drewN | apply below_drew1) | exact HB.out)) hb); clear HB; have HB := n0_; clear n0_; (try clear hb); (try clear hb2); (try clear hk); (try clear hi)) | (have tu_ := tok359_1; clear tu_ tok359_1; go_at_call 13; (with_reducible refine (name_Plain.calls kj15 t164 t170 _ A43.out).mono ?_); rintro e w45 ⟨rfl, hb⟩; have n0_ := Aside0.mk (below_step (by repeat (first | (with_reducible first | exact HB.out | apply below_alloc | apply pw_below_drewN | apply below_drew1) | exact HB.out)) hb); clear HB; have HB := n0_; clear n0_; (try clear hb); (try clear hb2); (try clear hk); (try clear hi)))
                              go_meet
                              case rel => exact ⟨_, (!t170), (by first | rfl | (simp; done) | (simp [*]; done) | (simp [bne, show ∀ l_ : List UInt8, (l_ == []) = l_.isEmpty from fun l_ => by cases l_ <;> rfl]; done)), H', ⟨by have := HJ3.out; have := HJ8.out; have := HJ15.out; first | omega | exact Nat.le_refl _⟩, ⟨by repeat (first | (with_reducible first | exact HB.out | apply below_alloc | apply pw_below_drewN | apply below_drew1) | exact HB.out)⟩⟩
                            · replace c42 := Bool.eq_false_iff.mpr c42
                              subst c42
                              have H1 : (hopscotchlaw02_NameBack.j3 kj15 a0 a1 a2 true) = some r := by rw [if_neg (show ¬ (false = true) by decide)] at H; exact H
                              clear H
                              have H := H1
                              clear H1
                              have H' := Aside0.mk H
                              clear H
                              go_wp2_with (first | (go_at_call 13; (with_reducible refine (name_Plain.calls kj15 t163 false _ A41.out).mono ?_); rintro e w46 ⟨rfl, hb⟩; have n0_ := Aside0.mk (below_step (by repeat (first | (with_reducible first | exact HB.out | apply below_alloc | apply pw_below_drewN | apply below_drew1) | exact HB.out)) hb); clear HB; have HB := n0_; clear n0_; (try clear hb); (try clear hb2); (try clear hk); (try clear hi)))
                              go_meet
                              case rel => exact ⟨_, (true), (by first | rfl | (simp; done) | (simp [*]; done) | (simp [bne, show ∀ l_ : List UInt8, (l_ == []) = l_.isEmpty from fun l_ => by cases l_ <;> rfl]; done)), H', ⟨by have := HJ3.out; have := HJ8.out; have := HJ15.out; first | omega | exact Nat.le_refl _⟩, ⟨by repeat (first | (with_reducible first | exact HB.out | apply below_alloc | apply pw_below_drewN | apply below_drew1) | exact HB.out)⟩⟩
                          · rw [if_neg c40] at H
                            have c40b0 : (((t163 ++ (⟨#[58]⟩ : ByteArray)) ++ t164).toList == a0.toList) = false := beq_eq_false_iff_ne.mpr c40
                            have c40b1 : (((t163 ++ (⟨#[58]⟩ : ByteArray)) ++ t164).toList != a0.toList) = true := bne_iff_ne.mpr c40
                            have H' := Aside0.mk H
                            clear H
                            go_wp2
                            go_meet
                            case rel => exact ⟨_, (true), (by first | rfl | (simp; done) | (simp [*]; done) | (simp [bne, show ∀ l_ : List UInt8, (l_ == []) = l_.isEmpty from fun l_ => by cases l_ <;> rfl]; done)), H', ⟨by have := HJ3.out; have := HJ8.out; have := HJ15.out; first | omega | exact Nat.le_refl _⟩, ⟨by repeat (first | (with_reducible first | exact HB.out | apply below_alloc | apply pw_below_drewN | apply below_drew1) | exact HB.out)⟩⟩
                        · rw [if_neg c39] at H
                          exact absurd H (by simp)
                      · rw [if_neg c38] at H
                        exact absurd H (by simp)
                  case rest =>
                    clear HC32
                    try clear c1
                    try clear c2
                    try clear p2
                    try clear c3
                    try clear c4
                    try clear c5
                    try clear c5b0
                    try clear c5b1
                    try clear c6
                    try clear p6
                    try clear c9
                    try clear c10
                    try clear c11
                    try clear c13
                    try clear c17
                    try clear c18
                    try clear c18b0
                    try clear c18b1
                    try clear c18b2
                    try clear c19
                    try clear c19b0
                    try clear c19b1
                    try clear c19b2
                    try clear c21
                    try clear c21b0
                    try clear c21b1
                    try clear c21b2
                    try clear c23
                    try clear c24
                    try clear c24b0
                    try clear c24b1
                    try clear c25
                    try clear c25b0
                    try clear c25b1
                    try clear c31
                    try clear c34
                    try clear c34b0
                    try clear c34b1
                    try clear c35
                    try clear c35b0
                    try clear c35b1
                    try clear c38
                    try clear c38b0
                    try clear c38b1
                    try clear c38b2
                    try clear c39
                    try clear c39b0
                    try clear c39b1
                    try clear c39b2
                    try clear c40
                    try clear c40b0
                    try clear c40b1
                    try clear c42
                    try clear p2
                    try clear p6
                    obtain ⟨kq, x109_31, rfl, HA, HJ31, HB⟩ := hcut
                    cases kq with
                    | zero => exact absurd HA.out (by simp [hopscotchlaw02_NameBack.j3])
                    | succ kj31 =>
                      have H := HA.out
                      clear HA
                      simp only [hopscotchlaw02_NameBack.j3] at H
                      by_cases c47 : x109_31 = true
                      · subst c47
                        have H1 : (some false) = some r := by rw [if_pos rfl] at H; exact H
                        clear H
                        have H := H1
                        clear H1
                        obtain rfl := Option.some.inj H
                        go_wp2
                        go_ret
                        exact ⟨by first | rfl | (simp [errW_none, errW_some] <;> rfl) | (simp [*, errW_none, errW_some] <;> rfl), by repeat (first | (with_reducible first | exact HB.out | apply below_alloc | apply pw_below_drewN | apply below_drew1) | exact HB.out)⟩
                      · replace c47 := Bool.eq_false_iff.mpr c47
                        subst c47
                        have H1 : ((hopscotchref02_May.f a2).bind fun t171 => (if t171 = true then (hopscotchlaw02_NameBack.j4 kj31 a0 a1 a2 true) else (hopscotchlaw02_NameBack.j4 kj31 a0 a1 a2 (a2 == 58)))) = some r := by rw [if_neg (show ¬ (false = true) by decide)] at H; exact H
                        clear H
                        have H := H1
                        clear H1
                        have HC48 := Aside0.mk H
                        clear H
                        go_upto_region 12 with (fail)
                        go_cut [115] (fun v115 wc => ∃ (kq : Nat) (x115_47 : Bool), v115 = .bool x115_47 ∧ Aside0 (hopscotchlaw02_NameBack.j4 kq a0 a1 a2 x115_47 = some r) ∧ Aside0 (kq ≤ kj31) ∧ Aside0 (Below w.heap.size w wc))
                        case first =>
                          have H := HC48.out
                          clear HC48
                          replace H := Option.bind_eq_some_iff.mp H
                          obtain ⟨t171, A490, H⟩ := H
                          replace H : (if t171 = true then (hopscotchlaw02_NameBack.j4 kj31 a0 a1 a2 true) else (hopscotchlaw02_NameBack.j4 kj31 a0 a1 a2 (a2 == 58))) = some r := H
                          have A49 := Aside0.mk A490
                          clear A490
                          by_cases c50 : t171 = true
                          · subst c50
                            have H1 : (hopscotchlaw02_NameBack.j4 kj31 a0 a1 a2 true) = some r := by rw [if_pos rfl] at H; exact H
                            clear H
                            have H := H1
                            clear H1
                            have H' := Aside0.mk H
                            clear H
                            go_wp2_with (first | ((with_reducible refine gate_callee (f := 15) rfl ?_); refine goesL_ (some 111) rfl rfl Try.func15 (by kernel_rfl) rfl #[.int .u8 a2] rfl (by (try simp only [List.map_toArray, List.map_cons, List.map_nil]); first | done | rfl | (simp only [List.length_drop, List.length_take]; rfl)) ?_; (with_reducible refine (hopscotchref02_May.calls a2 true _ A49.out).mono ?_); rintro e w' ⟨rfl, ⟨nd, rfl⟩⟩; refine ⟨_, rfl, ?_⟩))
                            go_meet
                            case rel => exact ⟨_, (true), (by first | rfl | (simp; done) | (simp [*]; done) | (simp [bne, show ∀ l_ : List UInt8, (l_ == []) = l_.isEmpty from fun l_ => by cases l_ <;> rfl]; done)), H', ⟨by have := HJ3.out; have := HJ8.out; have := HJ15.out; have := HJ31.out; first | omega | exact Nat.le_refl _⟩, ⟨by repeat (first | (with_reducible first | exact HB.out | apply below_alloc | apply pw_below_drewN | apply below_drew1) | exact HB.out)⟩⟩
                          · replace c50 := Bool.eq_false_iff.mpr c50
                            subst c50
                            have H1 : (hopscotchlaw02_NameBack.j4 kj31 a0 a1 a2 (a2 == 58)) = some r := by rw [if_neg (show ¬ (false = true) by decide)] at H; exact H
                            clear H
                            have H := H1
                            clear H1
                            have H' := Aside0.mk H
                            clear H
                            go_wp2_with (first | ((with_reducible refine gate_callee (f := 15) rfl ?_); refine goesL_ (some 111) rfl rfl Try.func15 (by kernel_rfl) rfl #[.int .u8 a2] rfl (by (try simp only [List.map_toArray, List.map_cons, List.map_nil]); first | done | rfl | (simp only [List.length_drop, List.length_take]; rfl)) ?_; (with_reducible refine (hopscotchref02_May.calls a2 false _ A49.out).mono ?_); rintro e w' ⟨rfl, ⟨nd, rfl⟩⟩; refine ⟨_, rfl, ?_⟩))
                            go_meet
                            case rel => exact ⟨_, ((a2 == 58)), (by first | rfl | (simp; done) | (simp [*]; done) | (simp [bne, show ∀ l_ : List UInt8, (l_ == []) = l_.isEmpty from fun l_ => by cases l_ <;> rfl]; done)), H', ⟨by have := HJ3.out; have := HJ8.out; have := HJ15.out; have := HJ31.out; first | omega | exact Nat.le_refl _⟩, ⟨by repeat (first | (with_reducible first | exact HB.out | apply below_alloc | apply pw_below_drewN | apply below_drew1) | exact HB.out)⟩⟩
                        case rest =>
                          clear HC48
                          try clear c1
                          try clear c2
                          try clear p2
                          try clear c3
                          try clear c4
                          try clear c5
                          try clear c5b0
                          try clear c5b1
                          try clear c6
                          try clear p6
                          try clear c9
                          try clear c10
                          try clear c11
                          try clear c13
                          try clear c15
                          try clear c17
                          try clear c18
                          try clear c18b0
                          try clear c18b1
                          try clear c18b2
                          try clear c19
                          try clear c19b0
                          try clear c19b1
                          try clear c19b2
                          try clear c21
                          try clear c21b0
                          try clear c21b1
                          try clear c21b2
                          try clear c23
                          try clear c24
                          try clear c24b0
                          try clear c24b1
                          try clear c25
                          try clear c25b0
                          try clear c25b1
                          try clear c31
                          try clear c34
                          try clear c34b0
                          try clear c34b1
                          try clear c35
                          try clear c35b0
                          try clear c35b1
                          try clear c38
                          try clear c38b0
                          try clear c38b1
                          try clear c38b2
                          try clear c39
                          try clear c39b0
                          try clear c39b1
                          try clear c39b2
                          try clear c40
                          try clear c40b0
                          try clear c40b1
                          try clear c42
                          try clear c47
                          try clear c50
                          try clear p2
                          try clear p6
                          obtain ⟨kq, x115_47, rfl, HA, HJ47, HB⟩ := hcut
                          cases kq with
                          | zero => exact absurd HA.out (by simp [hopscotchlaw02_NameBack.j4])
                          | succ kj47 =>
                            have H := HA.out
                            clear HA
                            simp only [hopscotchlaw02_NameBack.j4] at H
                            by_cases c51 : x115_47 = true
                            · subst c51
                              have H1 : ((hopscotchlaw02_works.f kj47).bind fun t172 => (some t172)) = some r := by rw [if_pos rfl] at H; exact H
                              clear H
                              have H := H1
                              clear H1
                              replace H := Option.bind_eq_some_iff.mp H
                              obtain ⟨t172, A520, H⟩ := H
                              replace H : (some t172) = some r := H
                              have A52 := Aside0.mk A520
                              clear A520
                              obtain rfl := Option.some.inj H
                              go_wp2_with (first | ((with_reducible refine gate_callee (f := 9) rfl ?_); refine goesL_ (some 116) rfl rfl Try.func9 (by kernel_rfl) rfl #[] rfl (by (try simp only [List.map_toArray, List.map_cons, List.map_nil]); first | done | rfl | (simp only [List.length_drop, List.length_take]; rfl)) ?_; (with_reducible refine (hopscotchlaw02_works.calls kj47  t172 _ A52.out).mono ?_); rintro e w53 ⟨rfl, hb⟩; refine ⟨_, rfl, ?_⟩; have n0_ := Aside0.mk (below_step (by repeat (first | (with_reducible first | exact HB.out | apply below_alloc | apply pw_below_drewN | apply below_drew1) | exact HB.out)) hb); clear HB; have HB := n0_; clear n0_; (try clear hb); (try clear hb2); (try clear hk); (try clear hi)))
                              go_ret
                              exact ⟨by first | rfl | (simp [errW_none, errW_some] <;> rfl) | (simp [*, errW_none, errW_some] <;> rfl), by repeat (first | (with_reducible first | exact HB.out | apply below_alloc | apply pw_below_drewN | apply below_drew1) | exact HB.out)⟩
                            · replace c51 := Bool.eq_false_iff.mpr c51
                              subst c51
                              have H1 : ((some (([a2] : List Int) : List Int)).bind fun y173 => (if a0.size + (strOfNums y173).size ≤ 9223372036854775807 then (if (a0 ++ (strOfNums y173)).size + a1.size ≤ 9223372036854775807 then ((Go.Proofs.Ytpldpnkjmdlcdaa.X.name_Begin.f ((a0 ++ (strOfNums y173)) ++ a1)).bind fun t176 => (if t176 = (a0.size : Int) then ((Go.Proofs.Ytpldpnkjmdlcdaa.X.name_Begin.f a0).bind fun t177 => (if t177 = (a0.size : Int) then ((hopscotchlaw02_works.f kj47).bind fun t178 => (some t178)) else (some false))) else (some false))) else (none)) else (none))) = some r := by rw [if_neg (show ¬ (false = true) by decide)] at H; exact H
                              clear H
                              have H := H1
                              clear H1
                              obtain ⟨y173, hy173⟩ : ∃ y_ : List Int, y_ = (([a2] : List Int)) := ⟨_, rfl⟩
                              replace H : (if a0.size + (strOfNums y173).size ≤ 9223372036854775807 then (if (a0 ++ (strOfNums y173)).size + a1.size ≤ 9223372036854775807 then ((Go.Proofs.Ytpldpnkjmdlcdaa.X.name_Begin.f ((a0 ++ (strOfNums y173)) ++ a1)).bind fun t176 => (if t176 = (a0.size : Int) then ((Go.Proofs.Ytpldpnkjmdlcdaa.X.name_Begin.f a0).bind fun t177 => (if t177 = (a0.size : Int) then ((hopscotchlaw02_works.f kj47).bind fun t178 => (some t178)) else (some false))) else (some false))) else (none)) else (none)) = some r := by first | (rw [hy173]; with_reducible exact H) | (have H2_ := (Option.bind_some _ _).symm.trans H; rw [hy173]; with_reducible exact H2_) | (have H2_ := (Option.bind_some _ _).symm.trans H; with_reducible exact H2_) | with_reducible exact H | (rw [hy173]; exact H) | exact H
                              have Ny173 := Aside0.mk hy173
                              clear hy173
                              by_cases c54 : a0.size + (strOfNums y173).size ≤ 9223372036854775807
                              · rw [if_pos c54] at H
                                have c54b0 := eq_true c54
                                have c54b1 : decide (a0.size + (strOfNums y173).size ≤ 9223372036854775807) = true := decide_eq_true c54
                                try have c54b2 : (9223372036854775807 < a0.size + (strOfNums y173).size) = False := eq_false (Nat.not_lt.2 c54)
                                by_cases c55 : (a0 ++ (strOfNums y173)).size + a1.size ≤ 9223372036854775807
                                · rw [if_pos c55] at H
                                  have c55b0 := eq_true c55
                                  have c55b1 : decide ((a0 ++ (strOfNums y173)).size + a1.size ≤ 9223372036854775807) = true := decide_eq_true c55
                                  try have c55b2 : (9223372036854775807 < (a0 ++ (strOfNums y173)).size + a1.size) = False := eq_false (Nat.not_lt.2 c55)
                                  replace H := Option.bind_eq_some_iff.mp H
                                  obtain ⟨t176, A560, H⟩ := H
                                  replace H : (if t176 = (a0.size : Int) then ((Go.Proofs.Ytpldpnkjmdlcdaa.X.name_Begin.f a0).bind fun t177 => (if t177 = (a0.size : Int) then ((hopscotchlaw02_works.f kj47).bind fun t178 => (some t178)) else (some false))) else (some false)) = some r := H
                                  have A56 := Aside0.mk A560
                                  clear A560
                                  by_cases c57 : t176 = (a0.size : Int)
                                  · rw [if_pos c57] at H
                                    have c57b0 : (t176 == (a0.size : Int)) = true := beq_iff_eq.mpr c57
                                    have c57b1 : (t176 != (a0.size : Int)) = false := bne_eq_false_iff_eq.mpr c57
                                    clear c57
                                    replace H := Option.bind_eq_some_iff.mp H
                                    obtain ⟨t177, A580, H⟩ := H
                                    replace H : (if t177 = (a0.size : Int) then ((hopscotchlaw02_works.f kj47).bind fun t178 => (some t178)) else (some false)) = some r := H
                                    have A58 := Aside0.mk A580
                                    clear A580
                                    by_cases c59 : t177 = (a0.size : Int)
                                    · rw [if_pos c59] at H
                                      have c59b0 : (t177 == (a0.size : Int)) = true := beq_iff_eq.mpr c59
                                      have c59b1 : (t177 != (a0.size : Int)) = false := bne_eq_false_iff_eq.mpr c59
                                      clear c59
                                      replace H := Option.bind_eq_some_iff.mp H
                                      obtain ⟨t178, A600, H⟩ := H
                                      replace H : (some t178) = some r := H
                                      have A60 := Aside0.mk A600
                                      clear A600
                                      obtain rfl := Option.some.inj H
                                      go_wp2_with (first | ((with_reducible refine gate_dst (N := 119) rfl ?_); (try (refine gate_guard (by rfl) ?_; dsimp only)); refine Kd.R_lit (Kd.int .u8) _ 5 ?hg (N := 119) ?hd (xs := ([a2] : List Int)) (inner := [.int .u8 a2]) (ok := fun _ => True) (okp := fun _ => True) ?hr ?hp (fun _ hk => hk) trivial (Below.refl _ _) (Nat.le_refl _) (by simp) ?_; (case hd => rfl); (case hg => rfl); (case hr => first | (go_simp; done) | (go_simp; rfl)); (case hp => exact (Reps.one (show Kd.M (Kd.int .u8) _ _ _ a2 [.int .u8 a2] from rfl) (Reps.none _ _))); intro v174 w61 ho62 hb hg_ hnew_; clear hg_ hnew_; (first | rw [← Ny173.out] at ho62 | (simp only [Int.reduceToNat] at ho62; rw [← Ny173.out] at ho62)); have n0_ := Aside0.mk (Kd.R_lower ho62 (below_size (by repeat (first | (with_reducible first | exact HB.out | apply below_alloc | apply pw_below_drewN | apply below_drew1) | exact HB.out)))); have n1_ := Aside0.mk (below_step (by repeat (first | (with_reducible first | exact HB.out | apply below_alloc | apply pw_below_drewN | apply below_drew1) | exact HB.out)) hb); clear HB; have HO175 := n0_; have HB := n1_; clear n0_ n1_; clear hb ho62; have hcv63 := own_string (P := Try.prog) Try.underlying28 Try.underlying5 Try.underlying9 (Kd.own_of_R HO175.out)) | ((with_reducible refine gate_callee (f := 7) rfl ?_); refine goesL_ (some 124) rfl rfl Try.func7 (by kernel_rfl) rfl #[.string ((a0 ++ (strOfNums y173)) ++ a1)] rfl (by (try simp only [List.map_toArray, List.map_cons, List.map_nil]); first | done | rfl | (simp only [List.length_drop, List.length_take]; rfl)) ?_; (with_reducible refine (Go.Proofs.Ytpldpnkjmdlcdaa.X.name_Begin.calls ((a0 ++ (strOfNums y173)) ++ a1) t176 _ A56.out).mono ?_); rintro e w' ⟨rfl, ⟨nd, rfl⟩⟩; refine ⟨_, rfl, ?_⟩) | (go_at_call 7; (with_reducible refine (Go.Proofs.Ytpldpnkjmdlcdaa.X.name_Begin.calls a0 t177 _ A58.out).mono ?_); rintro e w' ⟨rfl, ⟨nd, rfl⟩⟩) | (go_at_call 9; (with_reducible refine (hopscotchlaw02_works.calls kj47  t178 _ A60.out).mono ?_); rintro e w64 ⟨rfl, hb⟩; have n0_ := Aside0.mk (Kd.R_below (by (with_reducible repeat (first | apply Kd.R_alloc | apply Kd.R_drewN | apply Kd.R_drew)); exact HO175.out) hb); have n1_ := Aside0.mk (below_step (by repeat (first | (with_reducible first | exact HB.out | apply below_alloc | apply pw_below_drewN | apply below_drew1) | exact HB.out)) hb); clear HO175; clear HB; have HO175 := n0_; have HB := n1_; clear n0_ n1_; (try clear hb); (try clear hb2); (try clear hk); (try clear hi)))
                                      go_ret
                                      exact ⟨by first | rfl | (simp [errW_none, errW_some] <;> rfl) | (simp [*, errW_none, errW_some] <;> rfl), by repeat (first | (with_reducible first | exact HB.out | apply below_alloc | apply pw_below_drewN | apply below_drew1) | exact HB.out)⟩
                                    · rw [if_neg c59] at H
                                      have c59b0 : (t177 == (a0.size : Int)) = false := beq_eq_false_iff_ne.mpr c59
                                      have c59b1 : (t177 != (a0.size : Int)) = true := bne_iff_ne.mpr c59
                                      obtain rfl := Option.some.inj H
                                      go_wp2_with (first | ((with_reducible refine gate_dst (N := 119) rfl ?_); (try (refine gate_guard (by rfl) ?_; dsimp only)); refine Kd.R_lit (Kd.int .u8) _ 5 ?hg (N := 119) ?hd (xs := ([a2] : List Int)) (inner := [.int .u8 a2]) (ok := fun _ => True) (okp := fun _ => True) ?hr ?hp (fun _ hk => hk) trivial (Below.refl _ _) (Nat.le_refl _) (by simp) ?_; (case hd => rfl); (case hg => rfl); (case hr => first | (go_simp; done) | (go_simp; rfl)); (case hp => exact (Reps.one (show Kd.M (Kd.int .u8) _ _ _ a2 [.int .u8 a2] from rfl) (Reps.none _ _))); intro v174 w65 ho66 hb hg_ hnew_; clear hg_ hnew_; (first | rw [← Ny173.out] at ho66 | (simp only [Int.reduceToNat] at ho66; rw [← Ny173.out] at ho66)); have n0_ := Aside0.mk (Kd.R_lower ho66 (below_size (by repeat (first | (with_reducible first | exact HB.out | apply below_alloc | apply pw_below_drewN | apply below_drew1) | exact HB.out)))); have n1_ := Aside0.mk (below_step (by repeat (first | (with_reducible first | exact HB.out | apply below_alloc | apply pw_below_drewN | apply below_drew1) | exact HB.out)) hb); clear HB; have HO175 := n0_; have HB := n1_; clear n0_ n1_; clear hb ho66; have hcv67 := own_string (P := Try.prog) Try.underlying28 Try.underlying5 Try.underlying9 (Kd.own_of_R HO175.out)) | ((with_reducible refine gate_callee (f := 7) rfl ?_); refine goesL_ (some 124) rfl rfl Try.func7 (by kernel_rfl) rfl #[.string ((a0 ++ (strOfNums y173)) ++ a1)] rfl (by (try simp only [List.map_toArray, List.map_cons, List.map_nil]); first | done | rfl | (simp only [List.length_drop, List.length_take]; rfl)) ?_; (with_reducible refine (Go.Proofs.Ytpldpnkjmdlcdaa.X.name_Begin.calls ((a0 ++ (strOfNums y173)) ++ a1) t176 _ A56.out).mono ?_); rintro e w' ⟨rfl, ⟨nd, rfl⟩⟩; refine ⟨_, rfl, ?_⟩) | (go_at_call 7; (with_reducible refine (Go.Proofs.Ytpldpnkjmdlcdaa.X.name_Begin.calls a0 t177 _ A58.out).mono ?_); rintro e w' ⟨rfl, ⟨nd, rfl⟩⟩))
                                      go_ret
                                      exact ⟨by first | rfl | (simp [errW_none, errW_some] <;> rfl) | (simp [*, errW_none, errW_some] <;> rfl), by repeat (first | (with_reducible first | exact HB.out | apply below_alloc | apply pw_below_drewN | apply below_drew1) | exact HB.out)⟩
                                  · rw [if_neg c57] at H
                                    have c57b0 : (t176 == (a0.size : Int)) = false := beq_eq_false_iff_ne.mpr c57
                                    have c57b1 : (t176 != (a0.size : Int)) = true := bne_iff_ne.mpr c57
                                    obtain rfl := Option.some.inj H
                                    go_wp2_with (first | ((with_reducible refine gate_dst (N := 119) rfl ?_); (try (refine gate_guard (by rfl) ?_; dsimp only)); refine Kd.R_lit (Kd.int .u8) _ 5 ?hg (N := 119) ?hd (xs := ([a2] : List Int)) (inner := [.int .u8 a2]) (ok := fun _ => True) (okp := fun _ => True) ?hr ?hp (fun _ hk => hk) trivial (Below.refl _ _) (Nat.le_refl _) (by simp) ?_; (case hd => rfl); (case hg => rfl); (case hr => first | (go_simp; done) | (go_simp; rfl)); (case hp => exact (Reps.one (show Kd.M (Kd.int .u8) _ _ _ a2 [.int .u8 a2] from rfl) (Reps.none _ _))); intro v174 w68 ho69 hb hg_ hnew_; clear hg_ hnew_; (first | rw [← Ny173.out] at ho69 | (simp only [Int.reduceToNat] at ho69; rw [← Ny173.out] at ho69)); have n0_ := Aside0.mk (Kd.R_lower ho69 (below_size (by repeat (first | (with_reducible first | exact HB.out | apply below_alloc | apply pw_below_drewN | apply below_drew1) | exact HB.out)))); have n1_ := Aside0.mk (below_step (by repeat (first | (with_reducible first | exact HB.out | apply below_alloc | apply pw_below_drewN | apply below_drew1) | exact HB.out)) hb); clear HB; have HO175 := n0_; have HB := n1_; clear n0_ n1_; clear hb ho69; have hcv70 := own_string (P := Try.prog) Try.underlying28 Try.underlying5 Try.underlying9 (Kd.own_of_R HO175.out)) | ((with_reducible refine gate_callee (f := 7) rfl ?_); refine goesL_ (some 124) rfl rfl Try.func7 (by kernel_rfl) rfl #[.string ((a0 ++ (strOfNums y173)) ++ a1)] rfl (by (try simp only [List.map_toArray, List.map_cons, List.map_nil]); first | done | rfl | (simp only [List.length_drop, List.length_take]; rfl)) ?_; (with_reducible refine (Go.Proofs.Ytpldpnkjmdlcdaa.X.name_Begin.calls ((a0 ++ (strOfNums y173)) ++ a1) t176 _ A56.out).mono ?_); rintro e w' ⟨rfl, ⟨nd, rfl⟩⟩; refine ⟨_, rfl, ?_⟩))
                                    go_ret
                                    exact ⟨by first | rfl | (simp [errW_none, errW_some] <;> rfl) | (simp [*, errW_none, errW_some] <;> rfl), by repeat (first | (with_reducible first | exact HB.out | apply below_alloc | apply pw_below_drewN | apply below_drew1) | exact HB.out)⟩
                                · rw [if_neg c55] at H
                                  exact absurd H (by simp)
                              · rw [if_neg c54] at H
                                exact absurd H (by simp)
                · replace c31 := Bool.eq_false_iff.mpr c31
                  subst c31
                  have H1 : (if t163.toList = ([] : List UInt8) then (if t164.toList = ([] : List UInt8) then ((name_Is.f kj15 a0).bind fun t166 => (if t166 = true then (some false) else ((hopscotchlaw02_works.f kj15).bind fun t167 => (some t167)))) else (some false)) else (some false)) = some r := by rw [if_neg (show ¬ (false = true) by decide)] at H; exact H
                  clear H
                  have H := H1
                  clear H1
                  by_cases c71 : t163.toList = ([] : List UInt8)
                  · rw [if_pos c71] at H
                    have c71b0 : (t163.toList == ([] : List UInt8)) = true := beq_iff_eq.mpr c71
                    have c71b1 : (t163.toList != ([] : List UInt8)) = false := bne_eq_false_iff_eq.mpr c71
                    clear c71
                    by_cases c72 : t164.toList = ([] : List UInt8)
                    · rw [if_pos c72] at H
                      have c72b0 : (t164.toList == ([] : List UInt8)) = true := beq_iff_eq.mpr c72
                      have c72b1 : (t164.toList != ([] : List UInt8)) = false := bne_eq_false_iff_eq.mpr c72
                      clear c72
                      replace H := Option.bind_eq_some_iff.mp H
                      obtain ⟨t166, A730, H⟩ := H
                      replace H : (if t166 = true then (some false) else ((hopscotchlaw02_works.f kj15).bind fun t167 => (some t167))) = some r := H
                      have A73 := Aside0.mk A730
                      clear A730
                      by_cases c74 : t166 = true
                      · subst c74
                        have H1 : (some false) = some r := by rw [if_pos rfl] at H; exact H
                        clear H
                        have H := H1
                        clear H1
                        obtain rfl := Option.some.inj H
                        go_wp2_with (first | ((with_reducible refine gate_callee (f := 10) rfl ?_); refine goesL_ (some 61) rfl rfl Try.func10 (by kernel_rfl) rfl #[.string a0] rfl (by (try simp only [List.map_toArray, List.map_cons, List.map_nil]); first | done | rfl | (simp only [List.length_drop, List.length_take]; rfl)) ?_; (with_reducible refine (name_Split.calls kj15 a0 t163 t164 false _ A30.out).mono ?_); rintro e w75 ⟨rfl, hb⟩; refine ⟨_, rfl, ?_⟩; have n0_ := Aside0.mk (below_step (by repeat (first | (with_reducible first | exact HB.out | apply below_alloc | apply pw_below_drewN | apply below_drew1) | exact HB.out)) hb); clear HB; have HB := n0_; clear n0_; (try clear hb); (try clear hb2); (try clear hk); (try clear hi)) | (go_at_call 12; (with_reducible refine (name_Is.calls kj15 a0 true _ A73.out).mono ?_); rintro e w76 ⟨rfl, hb⟩; have n0_ := Aside0.mk (below_step (by repeat (first | (with_reducible first | exact HB.out | apply below_alloc | apply pw_below_drewN | apply below_drew1) | exact HB.out)) hb); clear HB; have HB := n0_; clear n0_; (try clear hb); (try clear hb2); (try clear hk); (try clear hi)))
                        go_ret
                        exact ⟨by first | rfl | (simp [errW_none, errW_some] <;> rfl) | (simp [*, errW_none, errW_some] <;> rfl), by repeat (first | (with_reducible first | exact HB.out | apply below_alloc | apply pw_below_drewN | apply below_drew1) | exact HB.out)⟩
                      · replace c74 := Bool.eq_false_iff.mpr c74
                        subst c74
                        have H1 : ((hopscotchlaw02_works.f kj15).bind fun t167 => (some t167)) = some r := by rw [if_neg (show ¬ (false = true) by decide)] at H; exact H
                        clear H
                        have H := H1
                        clear H1
                        replace H := Option.bind_eq_some_iff.mp H
                        obtain ⟨t167, A770, H⟩ := H
                        replace H : (some t167) = some r := H
                        have A77 := Aside0.mk A770
                        clear A770
                        obtain rfl := Option.some.inj H
                        go_wp2_with (first | ((with_reducible refine gate_callee (f := 10) rfl ?_); refine goesL_ (some 61) rfl rfl Try.func10 (by kernel_rfl) rfl #[.string a0] rfl (by (try simp only [List.map_toArray, List.map_cons, List.map_nil]); first | done | rfl | (simp only [List.length_drop, List.length_take]; rfl)) ?_; (with_reducible refine (name_Split.calls kj15 a0 t163 t164 false _ A30.out).mono ?_); rintro e w78 ⟨rfl, hb⟩; refine ⟨_, rfl, ?_⟩; have n0_ := Aside0.mk (below_step (by repeat (first | (with_reducible first | exact HB.out | apply below_alloc | apply pw_below_drewN | apply below_drew1) | exact HB.out)) hb); clear HB; have HB := n0_; clear n0_; (try clear hb); (try clear hb2); (try clear hk); (try clear hi)) | (go_at_call 12; (with_reducible refine (name_Is.calls kj15 a0 false _ A73.out).mono ?_); rintro e w79 ⟨rfl, hb⟩; have n0_ := Aside0.mk (below_step (by repeat (first | (with_reducible first | exact HB.out | apply below_alloc | apply pw_below_drewN | apply below_drew1) | exact HB.out)) hb); clear HB; have HB := n0_; clear n0_; (try clear hb); (try clear hb2); (try clear hk); (try clear hi)) | (go_at_call 9; (with_reducible refine (hopscotchlaw02_works.calls kj15  t167 _ A77.out).mono ?_); rintro e w80 ⟨rfl, hb⟩; have n0_ := Aside0.mk (below_step (by repeat (first | (with_reducible first | exact HB.out | apply below_alloc | apply pw_below_drewN | apply below_drew1) | exact HB.out)) hb); clear HB; have HB := n0_; clear n0_; (try clear hb); (try clear hb2); (try clear hk); (try clear hi)))
                        go_ret
                        exact ⟨by first | rfl | (simp [errW_none, errW_some] <;> rfl) | (simp [*, errW_none, errW_some] <;> rfl), by repeat (first | (with_reducible first | exact HB.out | apply below_alloc | apply pw_below_drewN | apply below_drew1) | exact HB.out)⟩
                    · rw [if_neg c72] at H
                      have c72b0 : (t164.toList == ([] : List UInt8)) = false := beq_eq_false_iff_ne.mpr c72
                      have c72b1 : (t164.toList != ([] : List UInt8)) = true := bne_iff_ne.mpr c72
                      obtain rfl := Option.some.inj H
                      go_wp2_with (first | ((with_reducible refine gate_callee (f := 10) rfl ?_); refine goesL_ (some 61) rfl rfl Try.func10 (by kernel_rfl) rfl #[.string a0] rfl (by (try simp only [List.map_toArray, List.map_cons, List.map_nil]); first | done | rfl | (simp only [List.length_drop, List.length_take]; rfl)) ?_; (with_reducible refine (name_Split.calls kj15 a0 t163 t164 false _ A30.out).mono ?_); rintro e w81 ⟨rfl, hb⟩; refine ⟨_, rfl, ?_⟩; have n0_ := Aside0.mk (below_step (by repeat (first | (with_reducible first | exact HB.out | apply below_alloc | apply pw_below_drewN | apply below_drew1) | exact HB.out)) hb); clear HB; have HB := n0_; clear n0_; (try clear hb); (try clear hb2); (try clear hk); (try clear hi)))
                      go_ret
                      exact ⟨by first | rfl | (simp [errW_none, errW_some] <;> rfl) | (simp [*, errW_none, errW_some] <;> rfl), by repeat (first | (with_reducible first | exact HB.out | apply below_alloc | apply pw_below_drewN | apply below_drew1) | exact HB.out)⟩
                  · rw [if_neg c71] at H
                    have c71b0 : (t163.toList == ([] : List UInt8)) = false := beq_eq_false_iff_ne.mpr c71
                    have c71b1 : (t163.toList != ([] : List UInt8)) = true := bne_iff_ne.mpr c71
                    obtain rfl := Option.some.inj H
                    go_wp2_with (first | ((with_reducible refine gate_callee (f := 10) rfl ?_); refine goesL_ (some 61) rfl rfl Try.func10 (by kernel_rfl) rfl #[.string a0] rfl (by (try simp only [List.map_toArray, List.map_cons, List.map_nil]); first | done | rfl | (simp only [List.length_drop, List.length_take]; rfl)) ?_; (with_reducible refine (name_Split.calls kj15 a0 t163 t164 false _ A30.out).mono ?_); rintro e w82 ⟨rfl, hb⟩; refine ⟨_, rfl, ?_⟩; have n0_ := Aside0.mk (below_step (by repeat (first | (with_reducible first | exact HB.out | apply below_alloc | apply pw_below_drewN | apply below_drew1) | exact HB.out)) hb); clear HB; have HB := n0_; clear n0_; (try clear hb); (try clear hb2); (try clear hk); (try clear hi)))
                    go_ret
                    exact ⟨by first | rfl | (simp [errW_none, errW_some] <;> rfl) | (simp [*, errW_none, errW_some] <;> rfl), by repeat (first | (with_reducible first | exact HB.out | apply below_alloc | apply pw_below_drewN | apply below_drew1) | exact HB.out)⟩

end Go.Proofs.Ytpldpnkjmdlcdaa.PN
