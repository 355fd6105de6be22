/- A text of the claim, with what no other text of it needs taken out. -/
import Derived.Test.YtebekjenmoijhaaDoorMB
import Derived.Test.YtebekjenmoijhaaDoorPM0
import Derived.Test.YtebekjenmoijhaaDoorPM1
import Derived.Test.YtebekjenmoijhaaDoorPM5
import Derived.Test.YtebekjenmoijhaaDoorPM6
namespace Go.Proofs.YtebekjenmoijhaaDoor.PM
open Go.RowKit Go.Proofs.YtebekjenmoijhaaDoorW.PrintWords Go.Proofs.YtebekjenmoijhaaDoorW.PrintLast Go.Proofs.YtebekjenmoijhaaDoorW.PrintMore
attribute [local go_sem] max2_int min2_int max_two min_two max_three min_three max_four min_four
set_option linter.unusedVariables false
set_option linter.unusedSimpArgs false
mutual
def hopscotchlaw06_NumBack.j0 : Nat → Int → Int → ByteArray → Bool → Option (Bool)
  | 0, _, _, _, _ => none
  | k + 1, x0, x1, x2, x39 => if x39 = true then (some false) else ((Go.Proofs.YtebekjenmoijhaaDoor.X.num_Parse.f k x2).bind fun bt393 => (if bt393.2 = 0 then ((num_Put.f bt393.1).bind fun t395 => (if t395.toList = x2.toList then (hopscotchlaw06_NumBack.j1 k x0 x1 false) else (hopscotchlaw06_NumBack.j1 k x0 x1 true))) else (hopscotchlaw06_NumBack.j1 k x0 x1 (bt393.1 != 0))))
def hopscotchlaw06_NumBack.j1 : Nat → Int → Int → Bool → Option (Bool)
  | 0, _, _, _ => none
  | k + 1, x0, x1, x60 => if x60 = true then (some false) else ((num_Add.f x0 x1).bind fun bt396 => (if bt396.2 = 0 then ((num_Sub.f bt396.1 x1).bind fun bt398 => (if bt398.2 = 0 then (if bt398.1 = x0 then (hopscotchlaw06_NumBack.j2 k x0 x1) else (some false)) else (some false))) else (hopscotchlaw06_NumBack.j2 k x0 x1)))
def hopscotchlaw06_NumBack.j2 : Nat → Int → Int → Option (Bool)
  | 0, _, _ => none
  | k + 1, x0, x1 => (num_Div.f k x0 x1).bind fun bt400 => ((num_Mod.f k x0 x1).bind fun bt402 => (if x1 = 0 then (if bt400.2 = 61 then (if bt402.2 = 61 then ((hopscotchlaw06_works.f k).bind fun t404 => (some t404)) else (some false)) else (some false)) else (if bt402.2 = 0 then (if bt402.1 < 0 then (if x0 ≥ 0 then (hopscotchlaw06_NumBack.j3 k x0 x1 bt400.1 bt400.2 bt402.1 true) else (if bt402.1 > 0 then (if x0 ≤ 0 then (hopscotchlaw06_NumBack.j3 k x0 x1 bt400.1 bt400.2 bt402.1 true) else (if x1 > 0 then (if bt402.1 ≤ (wrap64 (-x1)) then (hopscotchlaw06_NumBack.j3 k x0 x1 bt400.1 bt400.2 bt402.1 true) else (if x1 < 0 then (if bt402.1 ≤ x1 then (hopscotchlaw06_NumBack.j3 k x0 x1 bt400.1 bt400.2 bt402.1 true) else (if bt402.1 ≥ x1 then (hopscotchlaw06_NumBack.j3 k x0 x1 bt400.1 bt400.2 bt402.1 true) else (hopscotchlaw06_NumBack.j3 k x0 x1 bt400.1 bt400.2 bt402.1 (decide ((wrap64 (-bt402.1)) ≤ x1))))) else (if bt402.1 ≥ x1 then (hopscotchlaw06_NumBack.j3 k x0 x1 bt400.1 bt400.2 bt402.1 true) else (hopscotchlaw06_NumBack.j3 k x0 x1 bt400.1 bt400.2 bt402.1 false)))) else (if x1 < 0 then (if bt402.1 ≤ x1 then (hopscotchlaw06_NumBack.j3 k x0 x1 bt400.1 bt400.2 bt402.1 true) else (hopscotchlaw06_NumBack.j3 k x0 x1 bt400.1 bt400.2 bt402.1 (decide ((wrap64 (-bt402.1)) ≤ x1)))) else (hopscotchlaw06_NumBack.j3 k x0 x1 bt400.1 bt400.2 bt402.1 false)))) else (if x1 > 0 then (if bt402.1 ≤ (wrap64 (-x1)) then (hopscotchlaw06_NumBack.j3 k x0 x1 bt400.1 bt400.2 bt402.1 true) else (if x1 < 0 then (if bt402.1 ≤ x1 then (hopscotchlaw06_NumBack.j3 k x0 x1 bt400.1 bt400.2 bt402.1 true) else (hopscotchlaw06_NumBack.j3 k x0 x1 bt400.1 bt400.2 bt402.1 false)) else (hopscotchlaw06_NumBack.j3 k x0 x1 bt400.1 bt400.2 bt402.1 false))) else (if x1 < 0 then (if bt402.1 ≤ x1 then (hopscotchlaw06_NumBack.j3 k x0 x1 bt400.1 bt400.2 bt402.1 true) else (hopscotchlaw06_NumBack.j3 k x0 x1 bt400.1 bt400.2 bt402.1 false)) else (hopscotchlaw06_NumBack.j3 k x0 x1 bt400.1 bt400.2 bt402.1 false))))) else (if bt402.1 > 0 then (if x0 ≤ 0 then (hopscotchlaw06_NumBack.j3 k x0 x1 bt400.1 bt400.2 bt402.1 true) else (if x1 > 0 then (if bt402.1 ≥ x1 then (hopscotchlaw06_NumBack.j3 k x0 x1 bt400.1 bt400.2 bt402.1 true) else (if x1 < 0 then (hopscotchlaw06_NumBack.j3 k x0 x1 bt400.1 bt400.2 bt402.1 (decide ((wrap64 (-bt402.1)) ≤ x1))) else (hopscotchlaw06_NumBack.j3 k x0 x1 bt400.1 bt400.2 bt402.1 false))) else (if x1 < 0 then (hopscotchlaw06_NumBack.j3 k x0 x1 bt400.1 bt400.2 bt402.1 (decide ((wrap64 (-bt402.1)) ≤ x1))) else (hopscotchlaw06_NumBack.j3 k x0 x1 bt400.1 bt400.2 bt402.1 false)))) else (hopscotchlaw06_NumBack.j3 k x0 x1 bt400.1 bt400.2 bt402.1 false))) else (hopscotchlaw06_NumBack.j3 k x0 x1 bt400.1 bt400.2 bt402.1 true))))
def hopscotchlaw06_NumBack.j3 : Nat → Int → Int → Int → Int → Int → Bool → Option (Bool)
  | 0, _, _, _, _, _, _ => none
  | k + 1, x0, x1, x15, x16, x17, x176 => if x176 = true then (some false) else (if x16 = 0 then ((num_Mul.f k x15 x1).bind fun bt406 => (if bt406.2 = 0 then ((num_Add.f bt406.1 x17).bind fun bt408 => (if bt408.2 = 0 then (if bt408.1 = x0 then ((hopscotchlaw06_works.f k).bind fun t410 => (some t410)) else (some false)) else (some false))) else (some false))) else (if x16 = 60 then (if x0 = (-9223372036854775808) then (if x1 = (-1) then (if x17 = 0 then ((hopscotchlaw06_works.f k).bind fun t405 => (some t405)) else (some false)) else (some false)) else (some false)) else (some false)))
end
def hopscotchlaw06_NumBack.f (k : Nat) (a0 : Int) (a1 : Int) (a2 : ByteArray) : Option (Bool) := if (a2.size : Int) > 60 then ((hopscotchlaw06_works.f k).bind fun t389 => (some t389)) else ((num_Put.f a0).bind fun t390 => ((Go.Proofs.YtebekjenmoijhaaDoor.X.num_Parse.f k t390).bind fun bt391 => (if bt391.2 = 0 then (hopscotchlaw06_NumBack.j0 k a0 a1 a2 (bt391.1 != a0)) else (hopscotchlaw06_NumBack.j0 k a0 a1 a2 true))))
theorem hopscotchlaw06_NumBack.mono_l : ∀ k, (∀ y0 y1 y2 y3, LeO (hopscotchlaw06_NumBack.j0 k y0 y1 y2 y3) (hopscotchlaw06_NumBack.j0 (k + 1) y0 y1 y2 y3)) ∧ (∀ y0 y1 y2, LeO (hopscotchlaw06_NumBack.j1 k y0 y1 y2) (hopscotchlaw06_NumBack.j1 (k + 1) y0 y1 y2)) ∧ (∀ y0 y1, LeO (hopscotchlaw06_NumBack.j2 k y0 y1) (hopscotchlaw06_NumBack.j2 (k + 1) y0 y1)) ∧ (∀ y0 y1 y2 y3 y4 y5, LeO (hopscotchlaw06_NumBack.j3 k y0 y1 y2 y3 y4 y5) (hopscotchlaw06_NumBack.j3 (k + 1) y0 y1 y2 y3 y4 y5))
  | 0 => ⟨fun _ _ _ _ r h => by simp [hopscotchlaw06_NumBack.j0] at h, fun _ _ _ r h => by simp [hopscotchlaw06_NumBack.j1] at h, fun _ _ r h => by simp [hopscotchlaw06_NumBack.j2] at h, fun _ _ _ _ _ _ r h => by simp [hopscotchlaw06_NumBack.j3] at h⟩
  | k + 1 => by
    obtain ⟨ih0, ih1, ih2, ih3⟩ := hopscotchlaw06_NumBack.mono_l k
    refine ⟨?_, ?_, ?_, ?_⟩
    · intro y0 y1 y2 y3
      unfold hopscotchlaw06_NumBack.j0
      repeat' first
      | (with_reducible exact ih0 _ _ _ _)
      | (with_reducible exact ih1 _ _ _)
      | (with_reducible exact ih2 _ _)
      | (with_reducible exact ih3 _ _ _ _ _ _)
      | (with_reducible exact Go.Proofs.YtebekjenmoijhaaDoor.X.num_Parse.mono _ _)
      | (with_reducible exact hopscotchlaw06_works.mono _)
      | (with_reducible exact num_Div.mono _ _ _)
      | (with_reducible exact num_Mod.mono _ _ _)
      | (with_reducible exact num_Mul.mono _ _ _)
      | (with_reducible exact LeO.refl _)
      | (with_reducible exact LeO.none _)
      | (with_reducible refine LeO.ite ?_ ?_)
      | (with_reducible refine LeO.bind ?_ (fun _ => ?_))
      | exact ih0 _ _ _ _
      | exact ih1 _ _ _
      | exact ih2 _ _
      | exact ih3 _ _ _ _ _ _
      | exact Go.Proofs.YtebekjenmoijhaaDoor.X.num_Parse.mono _ _
      | exact hopscotchlaw06_works.mono _
      | exact num_Div.mono _ _ _
      | exact num_Mod.mono _ _ _
      | exact num_Mul.mono _ _ _
      | exact LeO.none _
      | refine LeO.ite ?_ ?_
      | refine LeO.bind ?_ (fun _ => ?_)
    · intro y0 y1 y2
      unfold hopscotchlaw06_NumBack.j1
      repeat' first
      | (with_reducible exact ih0 _ _ _ _)
      | (with_reducible exact ih1 _ _ _)
      | (with_reducible exact ih2 _ _)
      | (with_reducible exact ih3 _ _ _ _ _ _)
      | (with_reducible exact Go.Proofs.YtebekjenmoijhaaDoor.X.num_Parse.mono _ _)
      | (with_reducible exact hopscotchlaw06_works.mono _)
      | (with_reducible exact num_Div.mono _ _ _)
      | (with_reducible exact num_Mod.mono _ _ _)
      | (with_reducible exact num_Mul.mono _ _ _)
      | (with_reducible exact LeO.refl _)
      | (with_reducible exact LeO.none _)
      | (with_reducible refine LeO.ite ?_ ?_)
      | (with_reducible refine LeO.bind ?_ (fun _ => ?_))
      | exact ih0 _ _ _ _
      | exact ih1 _ _ _
      | exact ih2 _ _
      | exact ih3 _ _ _ _ _ _
      | exact Go.Proofs.YtebekjenmoijhaaDoor.X.num_Parse.mono _ _
      | exact hopscotchlaw06_works.mono _
      | exact num_Div.mono _ _ _
      | exact num_Mod.mono _ _ _
      | exact num_Mul.mono _ _ _
      | exact LeO.none _
      | refine LeO.ite ?_ ?_
      | refine LeO.bind ?_ (fun _ => ?_)
    · intro y0 y1
      unfold hopscotchlaw06_NumBack.j2
      repeat' first
      | (with_reducible exact ih0 _ _ _ _)
      | (with_reducible exact ih1 _ _ _)
      | (with_reducible exact ih2 _ _)
      | (with_reducible exact ih3 _ _ _ _ _ _)
      | (with_reducible exact Go.Proofs.YtebekjenmoijhaaDoor.X.num_Parse.mono _ _)
      | (with_reducible exact hopscotchlaw06_works.mono _)
      | (with_reducible exact num_Div.mono _ _ _)
      | (with_reducible exact num_Mod.mono _ _ _)
      | (with_reducible exact num_Mul.mono _ _ _)
      | (with_reducible exact LeO.refl _)
      | (with_reducible exact LeO.none _)
      | (with_reducible refine LeO.ite ?_ ?_)
      | (with_reducible refine LeO.bind ?_ (fun _ => ?_))
      | exact ih0 _ _ _ _
      | exact ih1 _ _ _
      | exact ih2 _ _
      | exact ih3 _ _ _ _ _ _
      | exact Go.Proofs.YtebekjenmoijhaaDoor.X.num_Parse.mono _ _
      | exact hopscotchlaw06_works.mono _
      | exact num_Div.mono _ _ _
      | exact num_Mod.mono _ _ _
      | exact num_Mul.mono _ _ _
      | exact LeO.none _
      | refine LeO.ite ?_ ?_
      | refine LeO.bind ?_ (fun _ => ?_)
    · intro y0 y1 y2 y3 y4 y5
      unfold hopscotchlaw06_NumBack.j3
      repeat' first
      | (with_reducible exact ih0 _ _ _ _)
      | (with_reducible exact ih1 _ _ _)
      | (with_reducible exact ih2 _ _)
      | (with_reducible exact ih3 _ _ _ _ _ _)
      | (with_reducible exact Go.Proofs.YtebekjenmoijhaaDoor.X.num_Parse.mono _ _)
      | (with_reducible exact hopscotchlaw06_works.mono _)
      | (with_reducible exact num_Div.mono _ _ _)
      | (with_reducible exact num_Mod.mono _ _ _)
      | (with_reducible exact num_Mul.mono _ _ _)
      | (with_reducible exact LeO.refl _)
      | (with_reducible exact LeO.none _)
      | (with_reducible refine LeO.ite ?_ ?_)
      | (with_reducible refine LeO.bind ?_ (fun _ => ?_))
      | exact ih0 _ _ _ _
      | exact ih1 _ _ _
      | exact ih2 _ _
      | exact ih3 _ _ _ _ _ _
      | exact Go.Proofs.YtebekjenmoijhaaDoor.X.num_Parse.mono _ _
      | exact hopscotchlaw06_works.mono _
      | exact num_Div.mono _ _ _
      | exact num_Mod.mono _ _ _
      | exact num_Mul.mono _ _ _
      | exact LeO.none _
      | refine LeO.ite ?_ ?_
      | refine LeO.bind ?_ (fun _ => ?_)
set_option maxHeartbeats 8000000 in
set_option maxRecDepth 100000 in
theorem hopscotchlaw06_NumBack.calls (k : Nat) (a0 : Int) (a1 : Int) (a2 : ByteArray) (r : Bool) (w : World) (hG : Glob w) (HRT : Aside0 (r = true)) (HI : Aside0 (M.I a0 ∧ M.I a1)) (h : hopscotchlaw06_NumBack.f k a0 a1 a2 = some r) :
    Calls Tryd.prog 6 #[.int .i64 a0, .int .i64 a1, .string a2] w fun e w' => e = .returned (.bool r) ∧ Below w.heap.size w w' := by
  have HB := Aside0.mk (Below.refl w.heap.size w)
  have H : (if (a2.size : Int) > 60 then ((hopscotchlaw06_works.f k).bind fun t389 => (some t389)) else ((num_Put.f a0).bind fun t390 => ((Go.Proofs.YtebekjenmoijhaaDoor.X.num_Parse.f k t390).bind fun bt391 => (if bt391.2 = 0 then (hopscotchlaw06_NumBack.j0 k a0 a1 a2 (bt391.1 != a0)) else (hopscotchlaw06_NumBack.j0 k a0 a1 a2 true))))) = some r := h
  clear h
  by_cases c4 : (a2.size : Int) > 60
  · rw [if_pos c4] at H
    have c4b0 : decide (60 < (a2.size : Int)) = true := decide_eq_true c4
    have c4b1 : decide (60 < a2.size) = true := decide_eq_true (by omega)
    clear c4
    replace H := Option.bind_eq_some_iff.mp H
    obtain ⟨t389, A50, H⟩ := H
    replace H : (some t389) = some r := H
    have A5 := Aside0.mk A50
    clear A50
    obtain rfl := Option.some.inj H
    first
    | exact absurd HRT.out (by decide)
    | (go_enter Tryd.func6, Tryd.ntmps6
       go_wp2_with (first | ((with_reducible refine gate_callee (f := 8) rfl ?_); refine goesL_ (some 26) rfl rfl Tryd.func8 (by kernel_rfl) rfl #[] rfl (by (try simp only [List.map_toArray, List.map_cons, List.map_nil]); first | done | rfl | (simp only [List.length_drop, List.length_take]; rfl)) ?_; (with_reducible refine (hopscotchlaw06_works.calls k  t389 _ ?side1 A5.out).mono ?_); (case side1 => exact Glob.of_below hG (by repeat (first | (with_reducible first | exact HB.out | apply below_alloc | apply pw_below_drewN | apply below_drew1) | exact HB.out))); rintro e w6 ⟨rfl, hb⟩; refine ⟨_, rfl, ?_⟩; have n0_ := Aside0.mk (below_step (by repeat (first | (with_reducible first | exact HB.out | apply below_alloc | apply pw_below_drewN | apply below_drew1) | exact HB.out)) hb); clear HB; have HB := n0_; clear n0_; (try clear hb); (try clear hb2); (try clear hk); (try clear hi)))
       go_ret
       exact ⟨by first | rfl | (simp [errW_none, errW_some] <;> rfl) | (simp [*, errW_none, errW_some] <;> rfl), by repeat (first | (with_reducible first | exact HB.out | apply below_alloc | apply pw_below_drewN | apply below_drew1) | exact HB.out)⟩)
  · rw [if_neg c4] at H
    have c4b0 : decide (60 < (a2.size : Int)) = false := decide_eq_false c4
    have c4b1 : decide (60 < a2.size) = false := decide_eq_false (by omega)
    clear c4
    replace H := Option.bind_eq_some_iff.mp H
    obtain ⟨t390, A70, H⟩ := H
    replace H : ((Go.Proofs.YtebekjenmoijhaaDoor.X.num_Parse.f k t390).bind fun bt391 => (if bt391.2 = 0 then (hopscotchlaw06_NumBack.j0 k a0 a1 a2 (bt391.1 != a0)) else (hopscotchlaw06_NumBack.j0 k a0 a1 a2 true))) = some r := H
    have A7 := Aside0.mk A70
    clear A70
    replace H := Option.bind_eq_some_iff.mp H
    obtain ⟨⟨t391, t392⟩, A80, H⟩ := H
    replace H : (if t392 = 0 then (hopscotchlaw06_NumBack.j0 k a0 a1 a2 (t391 != a0)) else (hopscotchlaw06_NumBack.j0 k a0 a1 a2 true)) = some r := H
    have A8 := Aside0.mk A80
    clear A80
    have HC9 := Aside0.mk H
    clear H
    go_enter Tryd.func6, Tryd.ntmps6
    go_upto_region 4 with (first | ((with_reducible refine gate_callee (f := 13) rfl ?_); refine goesL_ (some 29) rfl rfl Tryd.func13 (by kernel_rfl) rfl #[.int .i64 a0] rfl (by (try simp only [List.map_toArray, List.map_cons, List.map_nil]); first | done | rfl | (simp only [List.length_drop, List.length_take]; rfl)) ?_; (with_reducible refine (num_Put.calls a0 t390 _ ?side1 A7.out).mono ?_); (case side1 => exact Glob.of_below hG (by repeat (first | (with_reducible first | exact HB.out | apply below_alloc | apply pw_below_drewN | apply below_drew1) | exact HB.out))); rintro e w10 ⟨rfl, hb⟩; refine ⟨_, rfl, ?_⟩; have n0_ := Aside0.mk (below_step (by repeat (first | (with_reducible first | exact HB.out | apply below_alloc | apply pw_below_drewN | apply below_drew1) | exact HB.out)) hb); clear HB; have HB := n0_; clear n0_; (try clear hb); (try clear hb2); (try clear hk); (try clear hi)) | ((with_reducible refine gate_callee (f := 11) rfl ?_); refine goesL_ (some 30) rfl rfl Tryd.func11 (by kernel_rfl) rfl #[.string t390] rfl (by (try simp only [List.map_toArray, List.map_cons, List.map_nil]); first | done | rfl | (simp only [List.length_drop, List.length_take]; rfl)) ?_; (with_reducible refine (Go.Proofs.YtebekjenmoijhaaDoor.X.num_Parse.calls k t390 t391 t392 _ ?side1 A8.out).mono ?_); (case side1 => exact Glob.of_below hG (by repeat (first | (with_reducible first | exact HB.out | apply below_alloc | apply pw_below_drewN | apply below_drew1) | exact HB.out))); rintro e w11 ⟨rfl, hb⟩; refine ⟨_, rfl, ?_⟩; have n0_ := Aside0.mk (below_step (by repeat (first | (with_reducible first | exact HB.out | apply below_alloc | apply pw_below_drewN | apply below_drew1) | exact HB.out)) hb); clear HB; have HB := n0_; clear n0_; (try clear hb); (try clear hb2); (try clear hk); (try clear hi)))
    (try simp only [Act.put, List.setIfInBounds_toArray, List.set_cons_zero, List.set_cons_succ])
    go_cut [39] (fun v39 wc => ∃ (kq : Nat) (x39_8 : Bool), v39 = .bool x39_8 ∧ Aside0 (hopscotchlaw06_NumBack.j0 kq a0 a1 a2 x39_8 = some r) ∧ Aside0 (kq ≤ k) ∧ Aside0 (Below w.heap.size w wc))
    case first =>
      have H := HC9.out
      clear HC9
      by_cases c12 : t392 = 0
      · rw [if_pos c12] at H
        have c12b0 : (t392 == 0) = true := beq_iff_eq.mpr c12
        have c12b1 : (t392 != 0) = false := bne_eq_false_iff_eq.mpr c12
        clear c12
        (first | rw [c12b0] | (simp only [i64_w, i32_w]; rw [c12b0]) | skip)
        first
        | (exfalso; have f0_ := HF_.out; (try have e0_ := (by first | exact of_decide_eq_false c4b0 | exact ne_of_beq_false c4b0)); (try have e1_ := (by first | exact of_decide_eq_true c12b0 | exact eq_of_beq c12b0)); omega)
        | (as_aux_lemma =>
           have H' := Aside0.mk H
           clear H
           go_wp2
           go_meet
           case rel => exact ⟨_, ((t391 != a0)), (by first | rfl | (simp; done) | (simp [*]; done) | (simp [bne, show ∀ l_ : List UInt8, (l_ == []) = l_.isEmpty from fun l_ => by cases l_ <;> rfl]; done)), H', ⟨by first | omega | exact Nat.le_refl _⟩, ⟨by repeat (first | (with_reducible first | exact HB.out | apply below_alloc | apply pw_below_drewN | apply below_drew1) | exact HB.out)⟩⟩)
      · rw [if_neg c12] at H
        have c12b0 : (t392 == 0) = false := beq_eq_false_iff_ne.mpr c12
        have c12b1 : (t392 != 0) = true := bne_iff_ne.mpr c12
        (first | rw [c12b0] | (simp only [i64_w, i32_w]; rw [c12b0]) | skip)
        first
        | (exfalso; have f0_ := HF_.out; (try have e0_ := (by first | exact of_decide_eq_false c4b0 | exact ne_of_beq_false c4b0)); (try have e1_ := (by first | exact of_decide_eq_false c12b0 | exact ne_of_beq_false c12b0)); omega)
        | (as_aux_lemma =>
           have H' := Aside0.mk H
           clear H
           go_wp2
           go_meet
           case rel => exact ⟨_, (true), (by first | rfl | (simp; done) | (simp [*]; done) | (simp [bne, show ∀ l_ : List UInt8, (l_ == []) = l_.isEmpty from fun l_ => by cases l_ <;> rfl]; done)), H', ⟨by first | omega | exact Nat.le_refl _⟩, ⟨by repeat (first | (with_reducible first | exact HB.out | apply below_alloc | apply pw_below_drewN | apply below_drew1) | exact HB.out)⟩⟩)
    case rest =>
      clear HC9
      try clear c1
      try clear p2
      try clear c4
      try clear c4b0
      try clear c4b1
      try clear c6
      try clear c8
      try clear c11
      try clear c12
      try clear c12b0
      try clear c12b1
      obtain ⟨kq, x39_8, rfl, HA, HJ8, HB⟩ := hcut
      cases kq with
      | zero => exact absurd HA.out (by simp [hopscotchlaw06_NumBack.j0])
      | succ kj8 =>
        have H := HA.out
        clear HA
        simp only [hopscotchlaw06_NumBack.j0] at H
        by_cases c13 : x39_8 = true
        · subst c13
          have H1 : (some false) = some r := by rw [if_pos rfl] at H; exact H
          clear H
          have H := H1
          clear H1
          obtain rfl := Option.some.inj H
          first
          | exact absurd HRT.out (by decide)
          | (go_wp2
             go_ret
             exact ⟨by first | rfl | (simp [errW_none, errW_some] <;> rfl) | (simp [*, errW_none, errW_some] <;> rfl), by repeat (first | (with_reducible first | exact HB.out | apply below_alloc | apply pw_below_drewN | apply below_drew1) | exact HB.out)⟩)
        · replace c13 := Bool.eq_false_iff.mpr c13
          subst c13
          have H1 : ((Go.Proofs.YtebekjenmoijhaaDoor.X.num_Parse.f kj8 a2).bind fun bt393 => (if bt393.2 = 0 then ((num_Put.f bt393.1).bind fun t395 => (if t395.toList = a2.toList then (hopscotchlaw06_NumBack.j1 kj8 a0 a1 false) else (hopscotchlaw06_NumBack.j1 kj8 a0 a1 true))) else (hopscotchlaw06_NumBack.j1 kj8 a0 a1 (bt393.1 != 0)))) = some r := by rw [if_neg (show ¬ (false = true) by decide)] at H; exact H
          clear H
          have H := H1
          clear H1
          replace H := Option.bind_eq_some_iff.mp H
          obtain ⟨⟨t393, t394⟩, A140, H⟩ := H
          replace H : (if t394 = 0 then ((num_Put.f t393).bind fun t395 => (if t395.toList = a2.toList then (hopscotchlaw06_NumBack.j1 kj8 a0 a1 false) else (hopscotchlaw06_NumBack.j1 kj8 a0 a1 true))) else (hopscotchlaw06_NumBack.j1 kj8 a0 a1 (t393 != 0))) = some r := H
          have A14 := Aside0.mk A140
          clear A140
          have HC15 := Aside0.mk H
          clear H
          go_upto_region 7 with (first | ((with_reducible refine gate_callee (f := 11) rfl ?_); refine goesL_ (some 42) rfl rfl Tryd.func11 (by kernel_rfl) rfl #[.string a2] rfl (by (try simp only [List.map_toArray, List.map_cons, List.map_nil]); first | done | rfl | (simp only [List.length_drop, List.length_take]; rfl)) ?_; (with_reducible refine (Go.Proofs.YtebekjenmoijhaaDoor.X.num_Parse.calls kj8 a2 t393 t394 _ ?side1 A14.out).mono ?_); (case side1 => exact Glob.of_below hG (by repeat (first | (with_reducible first | exact HB.out | apply below_alloc | apply pw_below_drewN | apply below_drew1) | exact HB.out))); rintro e w16 ⟨rfl, hb⟩; refine ⟨_, rfl, ?_⟩; have n0_ := Aside0.mk (below_step (by repeat (first | (with_reducible first | exact HB.out | apply below_alloc | apply pw_below_drewN | apply below_drew1) | exact HB.out)) hb); clear HB; have HB := n0_; clear n0_; (try clear hb); (try clear hb2); (try clear hk); (try clear hi)))
          (try simp only [Act.put, List.setIfInBounds_toArray, List.set_cons_zero, List.set_cons_succ])
          go_cut [60] (fun v60 wc => ∃ (kq : Nat) (x60_14 : Bool), v60 = .bool x60_14 ∧ Aside0 (hopscotchlaw06_NumBack.j1 kq a0 a1 x60_14 = some r) ∧ Aside0 (kq ≤ kj8) ∧ Aside0 (Below w.heap.size w wc))
          case first =>
            have H := HC15.out
            clear HC15
            by_cases c17 : t394 = 0
            · rw [if_pos c17] at H
              have c17b0 : (t394 == 0) = true := beq_iff_eq.mpr c17
              have c17b1 : (t394 != 0) = false := bne_eq_false_iff_eq.mpr c17
              clear c17
              (first | rw [c17b0] | (simp only [i64_w, i32_w]; rw [c17b0]) | skip)
              replace H := Option.bind_eq_some_iff.mp H
              obtain ⟨t395, A180, H⟩ := H
              replace H : (if t395.toList = a2.toList then (hopscotchlaw06_NumBack.j1 kj8 a0 a1 false) else (hopscotchlaw06_NumBack.j1 kj8 a0 a1 true)) = some r := H
              have A18 := Aside0.mk A180
              clear A180
              by_cases c19 : t395.toList = a2.toList
              · rw [if_pos c19] at H
                have c19b0 : (t395.toList == a2.toList) = true := beq_iff_eq.mpr c19
                have c19b1 : (t395.toList != a2.toList) = false := bne_eq_false_iff_eq.mpr c19
                clear c19
                have H' := Aside0.mk H
                clear H
                go_wp2_with (first | (go_at_call 13; (with_reducible refine (num_Put.calls t393 t395 _ ?side1 A18.out).mono ?_); (case side1 => exact Glob.of_below hG (by repeat (first | (with_reducible first | exact HB.out | apply below_alloc | apply pw_below_drewN | apply below_drew1) | exact HB.out))); rintro e w20 ⟨rfl, hb⟩; have n0_ := Aside0.mk (below_step (by repeat (first | (with_reducible first | exact HB.out | apply below_alloc | apply pw_below_drewN | apply below_drew1) | exact HB.out)) hb); clear HB; have HB := n0_; clear n0_; (try clear hb); (try clear hb2); (try clear hk); (try clear hi)))
                go_meet
                case rel => exact ⟨_, (false), (by first | rfl | (simp; done) | (simp [*]; done) | (simp [bne, show ∀ l_ : List UInt8, (l_ == []) = l_.isEmpty from fun l_ => by cases l_ <;> rfl]; done)), H', ⟨by have := HJ8.out; first | omega | exact Nat.le_refl _⟩, ⟨by repeat (first | (with_reducible first | exact HB.out | apply below_alloc | apply pw_below_drewN | apply below_drew1) | exact HB.out)⟩⟩
              · rw [if_neg c19] at H
                have c19b0 : (t395.toList == a2.toList) = false := beq_eq_false_iff_ne.mpr c19
                have c19b1 : (t395.toList != a2.toList) = true := bne_iff_ne.mpr c19
                have H' := Aside0.mk H
                clear H
                go_wp2_with (first | (go_at_call 13; (with_reducible refine (num_Put.calls t393 t395 _ ?side1 A18.out).mono ?_); (case side1 => exact Glob.of_below hG (by repeat (first | (with_reducible first | exact HB.out | apply below_alloc | apply pw_below_drewN | apply below_drew1) | exact HB.out))); rintro e w21 ⟨rfl, hb⟩; have n0_ := Aside0.mk (below_step (by repeat (first | (with_reducible first | exact HB.out | apply below_alloc | apply pw_below_drewN | apply below_drew1) | exact HB.out)) hb); clear HB; have HB := n0_; clear n0_; (try clear hb); (try clear hb2); (try clear hk); (try clear hi)))
                go_meet
                case rel => exact ⟨_, (true), (by first | rfl | (simp; done) | (simp [*]; done) | (simp [bne, show ∀ l_ : List UInt8, (l_ == []) = l_.isEmpty from fun l_ => by cases l_ <;> rfl]; done)), H', ⟨by have := HJ8.out; first | omega | exact Nat.le_refl _⟩, ⟨by repeat (first | (with_reducible first | exact HB.out | apply below_alloc | apply pw_below_drewN | apply below_drew1) | exact HB.out)⟩⟩
            · rw [if_neg c17] at H
              have c17b0 : (t394 == 0) = false := beq_eq_false_iff_ne.mpr c17
              have c17b1 : (t394 != 0) = true := bne_iff_ne.mpr c17
              (first | rw [c17b0] | (simp only [i64_w, i32_w]; rw [c17b0]) | skip)
              first
              | (exfalso; have f0_ := HF_.out; (try have e0_ := (by first | exact of_decide_eq_false c4b0 | exact ne_of_beq_false c4b0)); (try have e1_ := (by first | exact of_decide_eq_false c17b0 | exact ne_of_beq_false c17b0)); omega)
              | (as_aux_lemma =>
                 have H' := Aside0.mk H
                 clear H
                 go_wp2
                 go_meet
                 case rel => exact ⟨_, ((t393 != 0)), (by first | rfl | (simp; done) | (simp [*]; done) | (simp [bne, show ∀ l_ : List UInt8, (l_ == []) = l_.isEmpty from fun l_ => by cases l_ <;> rfl]; done)), H', ⟨by have := HJ8.out; first | omega | exact Nat.le_refl _⟩, ⟨by repeat (first | (with_reducible first | exact HB.out | apply below_alloc | apply pw_below_drewN | apply below_drew1) | exact HB.out)⟩⟩)
          case rest =>
            clear HC15
            try clear c1
            try clear p2
            try clear c4
            try clear c4b0
            try clear c4b1
            try clear c6
            try clear c8
            try clear c11
            try clear c12
            try clear c12b0
            try clear c12b1
            try clear c13
            try clear c17
            try clear c17b0
            try clear c17b1
            try clear c19
            try clear c19b0
            try clear c19b1
            try clear p2
            obtain ⟨kq, x60_14, rfl, HA, HJ14, HB⟩ := hcut
            cases kq with
            | zero => exact absurd HA.out (by simp [hopscotchlaw06_NumBack.j1])
            | succ kj14 =>
              have H := HA.out
              clear HA
              simp only [hopscotchlaw06_NumBack.j1] at H
              by_cases c22 : x60_14 = true
              · subst c22
                have H1 : (some false) = some r := by rw [if_pos rfl] at H; exact H
                clear H
                have H := H1
                clear H1
                obtain rfl := Option.some.inj H
                first
                | exact absurd HRT.out (by decide)
                | (go_wp2
                   go_ret
                   exact ⟨by first | rfl | (simp [errW_none, errW_some] <;> rfl) | (simp [*, errW_none, errW_some] <;> rfl), by repeat (first | (with_reducible first | exact HB.out | apply below_alloc | apply pw_below_drewN | apply below_drew1) | exact HB.out)⟩)
              · replace c22 := Bool.eq_false_iff.mpr c22
                subst c22
                have H1 : ((num_Add.f a0 a1).bind fun bt396 => (if bt396.2 = 0 then ((num_Sub.f bt396.1 a1).bind fun bt398 => (if bt398.2 = 0 then (if bt398.1 = a0 then (hopscotchlaw06_NumBack.j2 kj14 a0 a1) else (some false)) else (some false))) else (hopscotchlaw06_NumBack.j2 kj14 a0 a1))) = some r := by rw [if_neg (show ¬ (false = true) by decide)] at H; exact H
                clear H
                have H := H1
                clear H1
                replace H := Option.bind_eq_some_iff.mp H
                obtain ⟨⟨t396, t397⟩, A230, H⟩ := H
                replace H : (if t397 = 0 then ((num_Sub.f t396 a1).bind fun bt398 => (if bt398.2 = 0 then (if bt398.1 = a0 then (hopscotchlaw06_NumBack.j2 kj14 a0 a1) else (some false)) else (some false))) else (hopscotchlaw06_NumBack.j2 kj14 a0 a1)) = some r := H
                have A23 := Aside0.mk A230
                clear A230
                have HC24 := Aside0.mk H
                clear H
                go_upto_if 68 with (first | ((with_reducible refine gate_callee (f := 15) rfl ?_); refine goesL_ (some 64) rfl rfl Tryd.func15 (by kernel_rfl) rfl #[.int .i64 a0, .int .i64 a1] rfl (by (try simp only [List.map_toArray, List.map_cons, List.map_nil]); first | done | rfl | (simp only [List.length_drop, List.length_take]; rfl)) ?_; (with_reducible refine (num_Add.calls a0 a1 t396 t397 _ A23.out).mono ?_); rintro e w' ⟨rfl, ⟨nd, rfl⟩⟩; refine ⟨_, rfl, ?_⟩))
                (try simp only [Act.put, List.setIfInBounds_toArray, List.set_cons_zero, List.set_cons_succ])
                go_cut [] (fun wc => ∃ (kq : Nat), Aside0 (hopscotchlaw06_NumBack.j2 kq a0 a1 = some r) ∧ Aside0 (kq ≤ kj14) ∧ Aside0 (Below w.heap.size w wc))
                case first =>
                  have H := HC24.out
                  clear HC24
                  by_cases c25 : t397 = 0
                  · rw [if_pos c25] at H
                    have c25b0 : (t397 == 0) = true := beq_iff_eq.mpr c25
                    have c25b1 : (t397 != 0) = false := bne_eq_false_iff_eq.mpr c25
                    clear c25
                    (first | rw [c25b0] | (simp only [i64_w, i32_w]; rw [c25b0]) | skip)
                    replace H := Option.bind_eq_some_iff.mp H
                    obtain ⟨⟨t398, t399⟩, A260, H⟩ := H
                    replace H : (if t399 = 0 then (if t398 = a0 then (hopscotchlaw06_NumBack.j2 kj14 a0 a1) else (some false)) else (some false)) = some r := H
                    have A26 := Aside0.mk A260
                    clear A260
                    by_cases c27 : t399 = 0
                    · rw [if_pos c27] at H
                      have c27b0 : (t399 == 0) = true := beq_iff_eq.mpr c27
                      have c27b1 : (t399 != 0) = false := bne_eq_false_iff_eq.mpr c27
                      clear c27
                      by_cases c28 : t398 = a0
                      · rw [if_pos c28] at H
                        have c28b0 : (t398 == a0) = true := beq_iff_eq.mpr c28
                        have c28b1 : (t398 != a0) = false := bne_eq_false_iff_eq.mpr c28
                        clear c28
                        have H' := Aside0.mk H
                        clear H
                        go_wp2_with (first | ((with_reducible refine gate_callee (f := 17) rfl ?_); refine goesL_ (some 72) rfl rfl Tryd.func17 (by kernel_rfl) rfl #[.int .i64 t396, .int .i64 a1] rfl (by (try simp only [List.map_toArray, List.map_cons, List.map_nil]); first | done | rfl | (simp only [List.length_drop, List.length_take]; rfl)) ?_; (with_reducible refine (num_Sub.calls t396 a1 t398 t399 _ A26.out).mono ?_); rintro e w' ⟨rfl, ⟨nd, rfl⟩⟩; refine ⟨_, rfl, ?_⟩))
                        go_meet
                        case rel => exact ⟨_, H', ⟨by have := HJ8.out; have := HJ14.out; first | omega | exact Nat.le_refl _⟩, ⟨by repeat (first | (with_reducible first | exact HB.out | apply below_alloc | apply pw_below_drewN | apply below_drew1) | exact HB.out)⟩⟩
                      · rw [if_neg c28] at H
                        have c28b0 : (t398 == a0) = false := beq_eq_false_iff_ne.mpr c28
                        have c28b1 : (t398 != a0) = true := bne_iff_ne.mpr c28
                        obtain rfl := Option.some.inj H
                        first
                        | exact absurd HRT.out (by decide)
                        | (go_wp2_with (first | ((with_reducible refine gate_callee (f := 17) rfl ?_); refine goesL_ (some 72) rfl rfl Tryd.func17 (by kernel_rfl) rfl #[.int .i64 t396, .int .i64 a1] rfl (by (try simp only [List.map_toArray, List.map_cons, List.map_nil]); first | done | rfl | (simp only [List.length_drop, List.length_take]; rfl)) ?_; (with_reducible refine (num_Sub.calls t396 a1 t398 t399 _ A26.out).mono ?_); rintro e w' ⟨rfl, ⟨nd, rfl⟩⟩; refine ⟨_, rfl, ?_⟩))
                           go_ret
                           exact ⟨by first | rfl | (simp [errW_none, errW_some] <;> rfl) | (simp [*, errW_none, errW_some] <;> rfl), by repeat (first | (with_reducible first | exact HB.out | apply below_alloc | apply pw_below_drewN | apply below_drew1) | exact HB.out)⟩)
                    · rw [if_neg c27] at H
                      have c27b0 : (t399 == 0) = false := beq_eq_false_iff_ne.mpr c27
                      have c27b1 : (t399 != 0) = true := bne_iff_ne.mpr c27
                      obtain rfl := Option.some.inj H
                      first
                      | exact absurd HRT.out (by decide)
                      | (go_wp2_with (first | ((with_reducible refine gate_callee (f := 17) rfl ?_); refine goesL_ (some 72) rfl rfl Tryd.func17 (by kernel_rfl) rfl #[.int .i64 t396, .int .i64 a1] rfl (by (try simp only [List.map_toArray, List.map_cons, List.map_nil]); first | done | rfl | (simp only [List.length_drop, List.length_take]; rfl)) ?_; (with_reducible refine (num_Sub.calls t396 a1 t398 t399 _ A26.out).mono ?_); rintro e w' ⟨rfl, ⟨nd, rfl⟩⟩; refine ⟨_, rfl, ?_⟩))
                         go_ret
                         exact ⟨by first | rfl | (simp [errW_none, errW_some] <;> rfl) | (simp [*, errW_none, errW_some] <;> rfl), by repeat (first | (with_reducible first | exact HB.out | apply below_alloc | apply pw_below_drewN | apply below_drew1) | exact HB.out)⟩)
                  · rw [if_neg c25] at H
                    have c25b0 : (t397 == 0) = false := beq_eq_false_iff_ne.mpr c25
                    have c25b1 : (t397 != 0) = true := bne_iff_ne.mpr c25
                    (first | rw [c25b0] | (simp only [i64_w, i32_w]; rw [c25b0]) | skip)
                    first
                    | (exfalso; have f0_ := HF_.out; (try have e0_ := (by first | exact of_decide_eq_false c4b0 | exact ne_of_beq_false c4b0)); (try have e1_ := (by first | exact of_decide_eq_false c25b0 | exact ne_of_beq_false c25b0)); omega)
                    | (as_aux_lemma =>
                       have H' := Aside0.mk H
                       clear H
                       go_wp2
                       go_meet
                       case rel => exact ⟨_, H', ⟨by have := HJ8.out; have := HJ14.out; first | omega | exact Nat.le_refl _⟩, ⟨by repeat (first | (with_reducible first | exact HB.out | apply below_alloc | apply pw_below_drewN | apply below_drew1) | exact HB.out)⟩⟩)
                case rest =>
                  clear HC24
                  try clear c1
                  try clear c2
                  try clear p2
                  try clear c4
                  try clear c4b0
                  try clear c4b1
                  try clear c6
                  try clear c8
                  try clear c11
                  try clear c12
                  try clear c12b0
                  try clear c12b1
                  try clear c13
                  try clear c15
                  try clear c17
                  try clear c17b0
                  try clear c17b1
                  try clear c19
                  try clear c19b0
                  try clear c19b1
                  try clear c22
                  try clear c25
                  try clear c25b0
                  try clear c25b1
                  try clear c27
                  try clear c27b0
                  try clear c27b1
                  try clear c28
                  try clear c28b0
                  try clear c28b1
                  try clear p2
                  obtain ⟨kq, HA, HJ23, HB⟩ := hcut
                  cases kq with
                  | zero => exact absurd HA.out (by simp [hopscotchlaw06_NumBack.j2])
                  | succ kj23 =>
                    have H := HA.out
                    clear HA
                    simp only [hopscotchlaw06_NumBack.j2] at H
                    replace H := Option.bind_eq_some_iff.mp H
                    obtain ⟨⟨t400, t401⟩, A290, H⟩ := H
                    replace H : ((num_Mod.f kj23 a0 a1).bind fun bt402 => (if a1 = 0 then (if t401 = 61 then (if bt402.2 = 61 then ((hopscotchlaw06_works.f kj23).bind fun t404 => (some t404)) else (some false)) else (some false)) else (if bt402.2 = 0 then (if bt402.1 < 0 then (if a0 ≥ 0 then (hopscotchlaw06_NumBack.j3 kj23 a0 a1 t400 t401 bt402.1 true) else (if bt402.1 > 0 then (if a0 ≤ 0 then (hopscotchlaw06_NumBack.j3 kj23 a0 a1 t400 t401 bt402.1 true) else (if a1 > 0 then (if bt402.1 ≤ (wrap64 (-a1)) then (hopscotchlaw06_NumBack.j3 kj23 a0 a1 t400 t401 bt402.1 true) else (if a1 < 0 then (if bt402.1 ≤ a1 then (hopscotchlaw06_NumBack.j3 kj23 a0 a1 t400 t401 bt402.1 true) else (if bt402.1 ≥ a1 then (hopscotchlaw06_NumBack.j3 kj23 a0 a1 t400 t401 bt402.1 true) else (hopscotchlaw06_NumBack.j3 kj23 a0 a1 t400 t401 bt402.1 (decide ((wrap64 (-bt402.1)) ≤ a1))))) else (if bt402.1 ≥ a1 then (hopscotchlaw06_NumBack.j3 kj23 a0 a1 t400 t401 bt402.1 true) else (hopscotchlaw06_NumBack.j3 kj23 a0 a1 t400 t401 bt402.1 false)))) else (if a1 < 0 then (if bt402.1 ≤ a1 then (hopscotchlaw06_NumBack.j3 kj23 a0 a1 t400 t401 bt402.1 true) else (hopscotchlaw06_NumBack.j3 kj23 a0 a1 t400 t401 bt402.1 (decide ((wrap64 (-bt402.1)) ≤ a1)))) else (hopscotchlaw06_NumBack.j3 kj23 a0 a1 t400 t401 bt402.1 false)))) else (if a1 > 0 then (if bt402.1 ≤ (wrap64 (-a1)) then (hopscotchlaw06_NumBack.j3 kj23 a0 a1 t400 t401 bt402.1 true) else (if a1 < 0 then (if bt402.1 ≤ a1 then (hopscotchlaw06_NumBack.j3 kj23 a0 a1 t400 t401 bt402.1 true) else (hopscotchlaw06_NumBack.j3 kj23 a0 a1 t400 t401 bt402.1 false)) else (hopscotchlaw06_NumBack.j3 kj23 a0 a1 t400 t401 bt402.1 false))) else (if a1 < 0 then (if bt402.1 ≤ a1 then (hopscotchlaw06_NumBack.j3 kj23 a0 a1 t400 t401 bt402.1 true) else (hopscotchlaw06_NumBack.j3 kj23 a0 a1 t400 t401 bt402.1 false)) else (hopscotchlaw06_NumBack.j3 kj23 a0 a1 t400 t401 bt402.1 false))))) else (if bt402.1 > 0 then (if a0 ≤ 0 then (hopscotchlaw06_NumBack.j3 kj23 a0 a1 t400 t401 bt402.1 true) else (if a1 > 0 then (if bt402.1 ≥ a1 then (hopscotchlaw06_NumBack.j3 kj23 a0 a1 t400 t401 bt402.1 true) else (if a1 < 0 then (hopscotchlaw06_NumBack.j3 kj23 a0 a1 t400 t401 bt402.1 (decide ((wrap64 (-bt402.1)) ≤ a1))) else (hopscotchlaw06_NumBack.j3 kj23 a0 a1 t400 t401 bt402.1 false))) else (if a1 < 0 then (hopscotchlaw06_NumBack.j3 kj23 a0 a1 t400 t401 bt402.1 (decide ((wrap64 (-bt402.1)) ≤ a1))) else (hopscotchlaw06_NumBack.j3 kj23 a0 a1 t400 t401 bt402.1 false)))) else (hopscotchlaw06_NumBack.j3 kj23 a0 a1 t400 t401 bt402.1 false))) else (hopscotchlaw06_NumBack.j3 kj23 a0 a1 t400 t401 bt402.1 true)))) = some r := H
                    have A29 := Aside0.mk A290
                    clear A290
                    replace H := Option.bind_eq_some_iff.mp H
                    obtain ⟨⟨t402, t403⟩, A300, H⟩ := H
                    replace H : (if a1 = 0 then (if t401 = 61 then (if t403 = 61 then ((hopscotchlaw06_works.f kj23).bind fun t404 => (some t404)) else (some false)) else (some false)) else (if t403 = 0 then (if t402 < 0 then (if a0 ≥ 0 then (hopscotchlaw06_NumBack.j3 kj23 a0 a1 t400 t401 t402 true) else (if t402 > 0 then (if a0 ≤ 0 then (hopscotchlaw06_NumBack.j3 kj23 a0 a1 t400 t401 t402 true) else (if a1 > 0 then (if t402 ≤ (wrap64 (-a1)) then (hopscotchlaw06_NumBack.j3 kj23 a0 a1 t400 t401 t402 true) else (if a1 < 0 then (if t402 ≤ a1 then (hopscotchlaw06_NumBack.j3 kj23 a0 a1 t400 t401 t402 true) else (if t402 ≥ a1 then (hopscotchlaw06_NumBack.j3 kj23 a0 a1 t400 t401 t402 true) else (hopscotchlaw06_NumBack.j3 kj23 a0 a1 t400 t401 t402 (decide ((wrap64 (-t402)) ≤ a1))))) else (if t402 ≥ a1 then (hopscotchlaw06_NumBack.j3 kj23 a0 a1 t400 t401 t402 true) else (hopscotchlaw06_NumBack.j3 kj23 a0 a1 t400 t401 t402 false)))) else (if a1 < 0 then (if t402 ≤ a1 then (hopscotchlaw06_NumBack.j3 kj23 a0 a1 t400 t401 t402 true) else (hopscotchlaw06_NumBack.j3 kj23 a0 a1 t400 t401 t402 (decide ((wrap64 (-t402)) ≤ a1)))) else (hopscotchlaw06_NumBack.j3 kj23 a0 a1 t400 t401 t402 false)))) else (if a1 > 0 then (if t402 ≤ (wrap64 (-a1)) then (hopscotchlaw06_NumBack.j3 kj23 a0 a1 t400 t401 t402 true) else (if a1 < 0 then (if t402 ≤ a1 then (hopscotchlaw06_NumBack.j3 kj23 a0 a1 t400 t401 t402 true) else (hopscotchlaw06_NumBack.j3 kj23 a0 a1 t400 t401 t402 false)) else (hopscotchlaw06_NumBack.j3 kj23 a0 a1 t400 t401 t402 false))) else (if a1 < 0 then (if t402 ≤ a1 then (hopscotchlaw06_NumBack.j3 kj23 a0 a1 t400 t401 t402 true) else (hopscotchlaw06_NumBack.j3 kj23 a0 a1 t400 t401 t402 false)) else (hopscotchlaw06_NumBack.j3 kj23 a0 a1 t400 t401 t402 false))))) else (if t402 > 0 then (if a0 ≤ 0 then (hopscotchlaw06_NumBack.j3 kj23 a0 a1 t400 t401 t402 true) else (if a1 > 0 then (if t402 ≥ a1 then (hopscotchlaw06_NumBack.j3 kj23 a0 a1 t400 t401 t402 true) else (if a1 < 0 then (hopscotchlaw06_NumBack.j3 kj23 a0 a1 t400 t401 t402 (decide ((wrap64 (-t402)) ≤ a1))) else (hopscotchlaw06_NumBack.j3 kj23 a0 a1 t400 t401 t402 false))) else (if a1 < 0 then (hopscotchlaw06_NumBack.j3 kj23 a0 a1 t400 t401 t402 (decide ((wrap64 (-t402)) ≤ a1))) else (hopscotchlaw06_NumBack.j3 kj23 a0 a1 t400 t401 t402 false)))) else (hopscotchlaw06_NumBack.j3 kj23 a0 a1 t400 t401 t402 false))) else (hopscotchlaw06_NumBack.j3 kj23 a0 a1 t400 t401 t402 true))) = some r := H
                    have A30 := Aside0.mk A300
                    clear A300
                    have HF_ := Aside0.mk (M.mod_fact HI.out.1 HI.out.2 A30.out)
                    by_cases c31 : a1 = 0
                    · rw [if_pos c31] at H
                      have c31b0 : (a1 == 0) = true := beq_iff_eq.mpr c31
                      have c31b1 : (a1 != 0) = false := bne_eq_false_iff_eq.mpr c31
                      clear c31
                      by_cases c32 : t401 = 61
                      · rw [if_pos c32] at H
                        have c32b0 : (t401 == 61) = true := beq_iff_eq.mpr c32
                        have c32b1 : (t401 != 61) = false := bne_eq_false_iff_eq.mpr c32
                        clear c32
                        by_cases c33 : t403 = 61
                        · rw [if_pos c33] at H
                          have c33b0 : (t403 == 61) = true := beq_iff_eq.mpr c33
                          have c33b1 : (t403 != 61) = false := bne_eq_false_iff_eq.mpr c33
                          clear c33
                          replace H := Option.bind_eq_some_iff.mp H
                          obtain ⟨t404, A340, H⟩ := H
                          replace H : (some t404) = some r := H
                          have A34 := Aside0.mk A340
                          clear A340
                          obtain rfl := Option.some.inj H
                          first
                          | exact absurd HRT.out (by decide)
                          | (go_wp2_with (first | ((with_reducible refine gate_callee (f := 21) rfl ?_); refine goesL_ (some 85) rfl rfl Tryd.func21 (by kernel_rfl) rfl #[.int .i64 a0, .int .i64 a1] rfl (by (try simp only [List.map_toArray, List.map_cons, List.map_nil]); first | done | rfl | (simp only [List.length_drop, List.length_take]; rfl)) ?_; (with_reducible refine (num_Div.calls kj23 a0 a1 t400 t401 _ A29.out).mono ?_); rintro e w' ⟨rfl, ⟨nd, rfl⟩⟩; refine ⟨_, rfl, ?_⟩) | ((with_reducible refine gate_callee (f := 23) rfl ?_); refine goesL_ (some 91) rfl rfl Tryd.func23 (by kernel_rfl) rfl #[.int .i64 a0, .int .i64 a1] rfl (by (try simp only [List.map_toArray, List.map_cons, List.map_nil]); first | done | rfl | (simp only [List.length_drop, List.length_take]; rfl)) ?_; (with_reducible refine (num_Mod.calls kj23 a0 a1 t402 t403 _ A30.out).mono ?_); rintro e w' ⟨rfl, ⟨nd, rfl⟩⟩; refine ⟨_, rfl, ?_⟩) | (go_at_call 8; (with_reducible refine (hopscotchlaw06_works.calls kj23  t404 _ ?side1 A34.out).mono ?_); (case side1 => exact Glob.of_below hG (by repeat (first | (with_reducible first | exact HB.out | apply below_alloc | apply pw_below_drewN | apply below_drew1) | exact HB.out))); rintro e w35 ⟨rfl, hb⟩; have n0_ := Aside0.mk (below_step (by repeat (first | (with_reducible first | exact HB.out | apply below_alloc | apply pw_below_drewN | apply below_drew1) | exact HB.out)) hb); clear HB; have HB := n0_; clear n0_; (try clear hb); (try clear hb2); (try clear hk); (try clear hi)))
                             go_ret
                             exact ⟨by first | rfl | (simp [errW_none, errW_some] <;> rfl) | (simp [*, errW_none, errW_some] <;> rfl), by repeat (first | (with_reducible first | exact HB.out | apply below_alloc | apply pw_below_drewN | apply below_drew1) | exact HB.out)⟩)
                        · rw [if_neg c33] at H
                          have c33b0 : (t403 == 61) = false := beq_eq_false_iff_ne.mpr c33
                          have c33b1 : (t403 != 61) = true := bne_iff_ne.mpr c33
                          obtain rfl := Option.some.inj H
                          first
                          | exact absurd HRT.out (by decide)
                          | (go_wp2_with (first | ((with_reducible refine gate_callee (f := 21) rfl ?_); refine goesL_ (some 85) rfl rfl Tryd.func21 (by kernel_rfl) rfl #[.int .i64 a0, .int .i64 a1] rfl (by (try simp only [List.map_toArray, List.map_cons, List.map_nil]); first | done | rfl | (simp only [List.length_drop, List.length_take]; rfl)) ?_; (with_reducible refine (num_Div.calls kj23 a0 a1 t400 t401 _ A29.out).mono ?_); rintro e w' ⟨rfl, ⟨nd, rfl⟩⟩; refine ⟨_, rfl, ?_⟩) | ((with_reducible refine gate_callee (f := 23) rfl ?_); refine goesL_ (some 91) rfl rfl Tryd.func23 (by kernel_rfl) rfl #[.int .i64 a0, .int .i64 a1] rfl (by (try simp only [List.map_toArray, List.map_cons, List.map_nil]); first | done | rfl | (simp only [List.length_drop, List.length_take]; rfl)) ?_; (with_reducible refine (num_Mod.calls kj23 a0 a1 t402 t403 _ A30.out).mono ?_); rintro e w' ⟨rfl, ⟨nd, rfl⟩⟩; refine ⟨_, rfl, ?_⟩))
                             go_ret
                             exact ⟨by first | rfl | (simp [errW_none, errW_some] <;> rfl) | (simp [*, errW_none, errW_some] <;> rfl), by repeat (first | (with_reducible first | exact HB.out | apply below_alloc | apply pw_below_drewN | apply below_drew1) | exact HB.out)⟩)
                      · rw [if_neg c32] at H
                        have c32b0 : (t401 == 61) = false := beq_eq_false_iff_ne.mpr c32
                        have c32b1 : (t401 != 61) = true := bne_iff_ne.mpr c32
                        obtain rfl := Option.some.inj H
                        first
                        | exact absurd HRT.out (by decide)
                        | (go_wp2_with (first | ((with_reducible refine gate_callee (f := 21) rfl ?_); refine goesL_ (some 85) rfl rfl Tryd.func21 (by kernel_rfl) rfl #[.int .i64 a0, .int .i64 a1] rfl (by (try simp only [List.map_toArray, List.map_cons, List.map_nil]); first | done | rfl | (simp only [List.length_drop, List.length_take]; rfl)) ?_; (with_reducible refine (num_Div.calls kj23 a0 a1 t400 t401 _ A29.out).mono ?_); rintro e w' ⟨rfl, ⟨nd, rfl⟩⟩; refine ⟨_, rfl, ?_⟩) | ((with_reducible refine gate_callee (f := 23) rfl ?_); refine goesL_ (some 91) rfl rfl Tryd.func23 (by kernel_rfl) rfl #[.int .i64 a0, .int .i64 a1] rfl (by (try simp only [List.map_toArray, List.map_cons, List.map_nil]); first | done | rfl | (simp only [List.length_drop, List.length_take]; rfl)) ?_; (with_reducible refine (num_Mod.calls kj23 a0 a1 t402 t403 _ A30.out).mono ?_); rintro e w' ⟨rfl, ⟨nd, rfl⟩⟩; refine ⟨_, rfl, ?_⟩))
                           go_ret
                           exact ⟨by first | rfl | (simp [errW_none, errW_some] <;> rfl) | (simp [*, errW_none, errW_some] <;> rfl), by repeat (first | (with_reducible first | exact HB.out | apply below_alloc | apply pw_below_drewN | apply below_drew1) | exact HB.out)⟩)
                    · rw [if_neg c31] at H
                      have c31b0 : (a1 == 0) = false := beq_eq_false_iff_ne.mpr c31
                      have c31b1 : (a1 != 0) = true := bne_iff_ne.mpr c31
                      have HC36 := Aside0.mk H
                      clear H
                      go_upto_region 18 with (first | ((with_reducible refine gate_callee (f := 21) rfl ?_); refine goesL_ (some 85) rfl rfl Tryd.func21 (by kernel_rfl) rfl #[.int .i64 a0, .int .i64 a1] rfl (by (try simp only [List.map_toArray, List.map_cons, List.map_nil]); first | done | rfl | (simp only [List.length_drop, List.length_take]; rfl)) ?_; (with_reducible refine (num_Div.calls kj23 a0 a1 t400 t401 _ A29.out).mono ?_); rintro e w' ⟨rfl, ⟨nd, rfl⟩⟩; refine ⟨_, rfl, ?_⟩) | ((with_reducible refine gate_callee (f := 23) rfl ?_); refine goesL_ (some 91) rfl rfl Tryd.func23 (by kernel_rfl) rfl #[.int .i64 a0, .int .i64 a1] rfl (by (try simp only [List.map_toArray, List.map_cons, List.map_nil]); first | done | rfl | (simp only [List.length_drop, List.length_take]; rfl)) ?_; (with_reducible refine (num_Mod.calls kj23 a0 a1 t402 t403 _ A30.out).mono ?_); rintro e w' ⟨rfl, ⟨nd, rfl⟩⟩; refine ⟨_, rfl, ?_⟩))
                      (try simp only [Act.put, List.setIfInBounds_toArray, List.set_cons_zero, List.set_cons_succ])
                      go_cut [176] (fun v176 wc => ∃ (kq : Nat) (x176_35 : Bool), v176 = .bool x176_35 ∧ Aside0 (hopscotchlaw06_NumBack.j3 kq a0 a1 t400 t401 t402 x176_35 = some r) ∧ Aside0 (kq ≤ kj23) ∧ Aside0 (Below w.heap.size w wc))
                      case first =>
                        have H := HC36.out
                        clear HC36
                        by_cases c37 : t403 = 0
                        · rw [if_pos c37] at H
                          have c37b0 : (t403 == 0) = true := beq_iff_eq.mpr c37
                          have c37b1 : (t403 != 0) = false := bne_eq_false_iff_eq.mpr c37
                          clear c37
                          (first | rw [c37b0] | (simp only [i64_w, i32_w]; rw [c37b0]) | skip)
                          by_cases c38 : t402 < 0
                          · rw [if_pos c38] at H
                            have c38b0 : decide (t402 < 0) = true := decide_eq_true c38
                            clear c38
                            by_cases c39 : a0 ≥ 0
                            · rw [if_pos c39] at H
                              have c39b0 : decide (0 ≤ a0) = true := decide_eq_true c39
                              clear c39
                              first
                              | (exfalso; have f0_ := HF_.out; (try have e0_ := (by first | exact of_decide_eq_false c4b0 | exact ne_of_beq_false c4b0)); (try have e1_ := (by first | exact of_decide_eq_false c31b0 | exact ne_of_beq_false c31b0)); (try have e2_ := (by first | exact of_decide_eq_true c37b0 | exact eq_of_beq c37b0)); (try have e3_ := (by first | exact of_decide_eq_true c38b0 | exact eq_of_beq c38b0)); (try have e4_ := (by first | exact of_decide_eq_true c39b0 | exact eq_of_beq c39b0)); omega)
                              | (as_aux_lemma =>
                                 have H' := Aside0.mk H
                                 clear H
                                 go_wp2
                                 go_meet
                                 case rel => exact ⟨_, (true), (by first | rfl | (simp; done) | (simp [*]; done) | (simp [bne, show ∀ l_ : List UInt8, (l_ == []) = l_.isEmpty from fun l_ => by cases l_ <;> rfl]; done)), H', ⟨by have := HJ8.out; have := HJ14.out; have := HJ23.out; first | omega | exact Nat.le_refl _⟩, ⟨by repeat (first | (with_reducible first | exact HB.out | apply below_alloc | apply pw_below_drewN | apply below_drew1) | exact HB.out)⟩⟩)
                            · rw [if_neg c39] at H
                              have c39b0 : decide (0 ≤ a0) = false := decide_eq_false c39
                              clear c39
                              by_cases c40 : t402 > 0
                              · rw [if_pos c40] at H
                                have c40b0 : decide (0 < t402) = true := decide_eq_true c40
                                clear c40
                                by_cases c41 : a0 ≤ 0
                                · rw [if_pos c41] at H
                                  have c41b0 : decide (a0 ≤ 0) = true := decide_eq_true c41
                                  clear c41
                                  first
                                  | (exfalso; have f0_ := HF_.out; (try have e0_ := (by first | exact of_decide_eq_false c4b0 | exact ne_of_beq_false c4b0)); (try have e1_ := (by first | exact of_decide_eq_false c31b0 | exact ne_of_beq_false c31b0)); (try have e2_ := (by first | exact of_decide_eq_true c37b0 | exact eq_of_beq c37b0)); (try have e3_ := (by first | exact of_decide_eq_true c38b0 | exact eq_of_beq c38b0)); (try have e4_ := (by first | exact of_decide_eq_false c39b0 | exact ne_of_beq_false c39b0)); (try have e5_ := (by first | exact of_decide_eq_true c40b0 | exact eq_of_beq c40b0)); (try have e6_ := (by first | exact of_decide_eq_true c41b0 | exact eq_of_beq c41b0)); omega)
                                  | (as_aux_lemma =>
                                     have H' := Aside0.mk H
                                     clear H
                                     go_wp2
                                     go_meet
                                     case rel => exact ⟨_, (true), (by first | rfl | (simp; done) | (simp [*]; done) | (simp [bne, show ∀ l_ : List UInt8, (l_ == []) = l_.isEmpty from fun l_ => by cases l_ <;> rfl]; done)), H', ⟨by have := HJ8.out; have := HJ14.out; have := HJ23.out; first | omega | exact Nat.le_refl _⟩, ⟨by repeat (first | (with_reducible first | exact HB.out | apply below_alloc | apply pw_below_drewN | apply below_drew1) | exact HB.out)⟩⟩)
                                · rw [if_neg c41] at H
                                  have c41b0 : decide (a0 ≤ 0) = false := decide_eq_false c41
                                  clear c41
                                  by_cases c42 : a1 > 0
                                  · rw [if_pos c42] at H
                                    have c42b0 : decide (0 < a1) = true := decide_eq_true c42
                                    clear c42
                                    by_cases c43 : t402 ≤ (wrap64 (-a1))
                                    · rw [if_pos c43] at H
                                      have c43b0 : decide (t402 ≤ (wrap64 (-a1))) = true := decide_eq_true c43
                                      clear c43
                                      first
                                      | (exfalso; have f0_ := HF_.out; (try have e0_ := (by first | exact of_decide_eq_false c4b0 | exact ne_of_beq_false c4b0)); (try have e1_ := (by first | exact of_decide_eq_false c31b0 | exact ne_of_beq_false c31b0)); (try have e2_ := (by first | exact of_decide_eq_true c37b0 | exact eq_of_beq c37b0)); (try have e3_ := (by first | exact of_decide_eq_true c38b0 | exact eq_of_beq c38b0)); (try have e4_ := (by first | exact of_decide_eq_false c39b0 | exact ne_of_beq_false c39b0)); (try have e5_ := (by first | exact of_decide_eq_true c40b0 | exact eq_of_beq c40b0)); (try have e6_ := (by first | exact of_decide_eq_false c41b0 | exact ne_of_beq_false c41b0)); (try have e7_ := (by first | exact of_decide_eq_true c42b0 | exact eq_of_beq c42b0)); (try have e8_ := (by first | exact of_decide_eq_true c43b0 | exact eq_of_beq c43b0)); omega)
                                      | (as_aux_lemma =>
                                         have H' := Aside0.mk H
                                         clear H
                                         go_wp2
                                         go_meet
                                         case rel => exact ⟨_, (true), (by first | rfl | (simp; done) | (simp [*]; done) | (simp [bne, show ∀ l_ : List UInt8, (l_ == []) = l_.isEmpty from fun l_ => by cases l_ <;> rfl]; done)), H', ⟨by have := HJ8.out; have := HJ14.out; have := HJ23.out; first | omega | exact Nat.le_refl _⟩, ⟨by repeat (first | (with_reducible first | exact HB.out | apply below_alloc | apply pw_below_drewN | apply below_drew1) | exact HB.out)⟩⟩)
                                    · rw [if_neg c43] at H
                                      have c43b0 : decide (t402 ≤ (wrap64 (-a1))) = false := decide_eq_false c43
                                      clear c43
                                      by_cases c44 : a1 < 0
                                      · rw [if_pos c44] at H
                                        have c44b0 : decide (a1 < 0) = true := decide_eq_true c44
                                        clear c44
                                        by_cases c45 : t402 ≤ a1
                                        · rw [if_pos c45] at H
                                          have c45b0 : decide (t402 ≤ a1) = true := decide_eq_true c45
                                          clear c45
                                          first
                                          | (exfalso; have f0_ := HF_.out; (try have e0_ := (by first | exact of_decide_eq_false c4b0 | exact ne_of_beq_false c4b0)); (try have e1_ := (by first | exact of_decide_eq_false c31b0 | exact ne_of_beq_false c31b0)); (try have e2_ := (by first | exact of_decide_eq_true c37b0 | exact eq_of_beq c37b0)); (try have e3_ := (by first | exact of_decide_eq_true c38b0 | exact eq_of_beq c38b0)); (try have e4_ := (by first | exact of_decide_eq_false c39b0 | exact ne_of_beq_false c39b0)); (try have e5_ := (by first | exact of_decide_eq_true c40b0 | exact eq_of_beq c40b0)); (try have e6_ := (by first | exact of_decide_eq_false c41b0 | exact ne_of_beq_false c41b0)); (try have e7_ := (by first | exact of_decide_eq_true c42b0 | exact eq_of_beq c42b0)); (try have e8_ := (by first | exact of_decide_eq_false c43b0 | exact ne_of_beq_false c43b0)); (try have e9_ := (by first | exact of_decide_eq_true c44b0 | exact eq_of_beq c44b0)); (try have e10_ := (by first | exact of_decide_eq_true c45b0 | exact eq_of_beq c45b0)); omega)
                                          | (as_aux_lemma =>
                                             have H' := Aside0.mk H
                                             clear H
                                             go_wp2
                                             go_meet
                                             case rel => exact ⟨_, (true), (by first | rfl | (simp; done) | (simp [*]; done) | (simp [bne, show ∀ l_ : List UInt8, (l_ == []) = l_.isEmpty from fun l_ => by cases l_ <;> rfl]; done)), H', ⟨by have := HJ8.out; have := HJ14.out; have := HJ23.out; first | omega | exact Nat.le_refl _⟩, ⟨by repeat (first | (with_reducible first | exact HB.out | apply below_alloc | apply pw_below_drewN | apply below_drew1) | exact HB.out)⟩⟩)
                                        · rw [if_neg c45] at H
                                          have c45b0 : decide (t402 ≤ a1) = false := decide_eq_false c45
                                          clear c45
                                          by_cases c46 : t402 ≥ a1
                                          · rw [if_pos c46] at H
                                            have c46b0 : decide (a1 ≤ t402) = true := decide_eq_true c46
                                            clear c46
                                            first
                                            | (exfalso; have f0_ := HF_.out; (try have e0_ := (by first | exact of_decide_eq_false c4b0 | exact ne_of_beq_false c4b0)); (try have e1_ := (by first | exact of_decide_eq_false c31b0 | exact ne_of_beq_false c31b0)); (try have e2_ := (by first | exact of_decide_eq_true c37b0 | exact eq_of_beq c37b0)); (try have e3_ := (by first | exact of_decide_eq_true c38b0 | exact eq_of_beq c38b0)); (try have e4_ := (by first | exact of_decide_eq_false c39b0 | exact ne_of_beq_false c39b0)); (try have e5_ := (by first | exact of_decide_eq_true c40b0 | exact eq_of_beq c40b0)); (try have e6_ := (by first | exact of_decide_eq_false c41b0 | exact ne_of_beq_false c41b0)); (try have e7_ := (by first | exact of_decide_eq_true c42b0 | exact eq_of_beq c42b0)); (try have e8_ := (by first | exact of_decide_eq_false c43b0 | exact ne_of_beq_false c43b0)); (try have e9_ := (by first | exact of_decide_eq_true c44b0 | exact eq_of_beq c44b0)); (try have e10_ := (by first | exact of_decide_eq_false c45b0 | exact ne_of_beq_false c45b0)); (try have e11_ := (by first | exact of_decide_eq_true c46b0 | exact eq_of_beq c46b0)); omega)
                                            | (as_aux_lemma =>
                                               have H' := Aside0.mk H
                                               clear H
                                               go_wp2
                                               go_meet
                                               case rel => exact ⟨_, (true), (by first | rfl | (simp; done) | (simp [*]; done) | (simp [bne, show ∀ l_ : List UInt8, (l_ == []) = l_.isEmpty from fun l_ => by cases l_ <;> rfl]; done)), H', ⟨by have := HJ8.out; have := HJ14.out; have := HJ23.out; first | omega | exact Nat.le_refl _⟩, ⟨by repeat (first | (with_reducible first | exact HB.out | apply below_alloc | apply pw_below_drewN | apply below_drew1) | exact HB.out)⟩⟩)
                                          · rw [if_neg c46] at H
                                            have c46b0 : decide (a1 ≤ t402) = false := decide_eq_false c46
                                            clear c46
                                            first
                                            | (exfalso; have f0_ := HF_.out; (try have e0_ := (by first | exact of_decide_eq_false c4b0 | exact ne_of_beq_false c4b0)); (try have e1_ := (by first | exact of_decide_eq_false c31b0 | exact ne_of_beq_false c31b0)); (try have e2_ := (by first | exact of_decide_eq_true c37b0 | exact eq_of_beq c37b0)); (try have e3_ := (by first | exact of_decide_eq_true c38b0 | exact eq_of_beq c38b0)); (try have e4_ := (by first | exact of_decide_eq_false c39b0 | exact ne_of_beq_false c39b0)); (try have e5_ := (by first | exact of_decide_eq_true c40b0 | exact eq_of_beq c40b0)); (try have e6_ := (by first | exact of_decide_eq_false c41b0 | exact ne_of_beq_false c41b0)); (try have e7_ := (by first | exact of_decide_eq_true c42b0 | exact eq_of_beq c42b0)); (try have e8_ := (by first | exact of_decide_eq_false c43b0 | exact ne_of_beq_false c43b0)); (try have e9_ := (by first | exact of_decide_eq_true c44b0 | exact eq_of_beq c44b0)); (try have e10_ := (by first | exact of_decide_eq_false c45b0 | exact ne_of_beq_false c45b0)); (try have e11_ := (by first | exact of_decide_eq_false c46b0 | exact ne_of_beq_false c46b0)); omega)
                                            | (as_aux_lemma =>
                                               have H' := Aside0.mk H
                                               clear H
                                               go_wp2
                                               go_meet
                                               case rel => exact ⟨_, (decide ((wrap64 (-t402)) ≤ a1)), (by first | rfl | (simp; done) | (simp [*]; done) | (simp [bne, show ∀ l_ : List UInt8, (l_ == []) = l_.isEmpty from fun l_ => by cases l_ <;> rfl]; done)), H', ⟨by have := HJ8.out; have := HJ14.out; have := HJ23.out; first | omega | exact Nat.le_refl _⟩, ⟨by repeat (first | (with_reducible first | exact HB.out | apply below_alloc | apply pw_below_drewN | apply below_drew1) | exact HB.out)⟩⟩)
                                      · rw [if_neg c44] at H
                                        have c44b0 : decide (a1 < 0) = false := decide_eq_false c44
                                        clear c44
                                        by_cases c47 : t402 ≥ a1
                                        · rw [if_pos c47] at H
                                          have c47b0 : decide (a1 ≤ t402) = true := decide_eq_true c47
                                          clear c47
                                          first
                                          | (exfalso; have f0_ := HF_.out; (try have e0_ := (by first | exact of_decide_eq_false c4b0 | exact ne_of_beq_false c4b0)); (try have e1_ := (by first | exact of_decide_eq_false c31b0 | exact ne_of_beq_false c31b0)); (try have e2_ := (by first | exact of_decide_eq_true c37b0 | exact eq_of_beq c37b0)); (try have e3_ := (by first | exact of_decide_eq_true c38b0 | exact eq_of_beq c38b0)); (try have e4_ := (by first | exact of_decide_eq_false c39b0 | exact ne_of_beq_false c39b0)); (try have e5_ := (by first | exact of_decide_eq_true c40b0 | exact eq_of_beq c40b0)); (try have e6_ := (by first | exact of_decide_eq_false c41b0 | exact ne_of_beq_false c41b0)); (try have e7_ := (by first | exact of_decide_eq_true c42b0 | exact eq_of_beq c42b0)); (try have e8_ := (by first | exact of_decide_eq_false c43b0 | exact ne_of_beq_false c43b0)); (try have e9_ := (by first | exact of_decide_eq_false c44b0 | exact ne_of_beq_false c44b0)); (try have e10_ := (by first | exact of_decide_eq_true c47b0 | exact eq_of_beq c47b0)); omega)
                                          | (as_aux_lemma =>
                                             have H' := Aside0.mk H
                                             clear H
                                             go_wp2
                                             go_meet
                                             case rel => exact ⟨_, (true), (by first | rfl | (simp; done) | (simp [*]; done) | (simp [bne, show ∀ l_ : List UInt8, (l_ == []) = l_.isEmpty from fun l_ => by cases l_ <;> rfl]; done)), H', ⟨by have := HJ8.out; have := HJ14.out; have := HJ23.out; first | omega | exact Nat.le_refl _⟩, ⟨by repeat (first | (with_reducible first | exact HB.out | apply below_alloc | apply pw_below_drewN | apply below_drew1) | exact HB.out)⟩⟩)
                                        · rw [if_neg c47] at H
                                          have c47b0 : decide (a1 ≤ t402) = false := decide_eq_false c47
                                          clear c47
                                          first
                                          | (exfalso; have f0_ := HF_.out; (try have e0_ := (by first | exact of_decide_eq_false c4b0 | exact ne_of_beq_false c4b0)); (try have e1_ := (by first | exact of_decide_eq_false c31b0 | exact ne_of_beq_false c31b0)); (try have e2_ := (by first | exact of_decide_eq_true c37b0 | exact eq_of_beq c37b0)); (try have e3_ := (by first | exact of_decide_eq_true c38b0 | exact eq_of_beq c38b0)); (try have e4_ := (by first | exact of_decide_eq_false c39b0 | exact ne_of_beq_false c39b0)); (try have e5_ := (by first | exact of_decide_eq_true c40b0 | exact eq_of_beq c40b0)); (try have e6_ := (by first | exact of_decide_eq_false c41b0 | exact ne_of_beq_false c41b0)); (try have e7_ := (by first | exact of_decide_eq_true c42b0 | exact eq_of_beq c42b0)); (try have e8_ := (by first | exact of_decide_eq_false c43b0 | exact ne_of_beq_false c43b0)); (try have e9_ := (by first | exact of_decide_eq_false c44b0 | exact ne_of_beq_false c44b0)); (try have e10_ := (by first | exact of_decide_eq_false c47b0 | exact ne_of_beq_false c47b0)); omega)
                                          | (as_aux_lemma =>
                                             have H' := Aside0.mk H
                                             clear H
                                             go_wp2
                                             go_meet
                                             case rel => exact ⟨_, (false), (by first | rfl | (simp; done) | (simp [*]; done) | (simp [bne, show ∀ l_ : List UInt8, (l_ == []) = l_.isEmpty from fun l_ => by cases l_ <;> rfl]; done)), H', ⟨by have := HJ8.out; have := HJ14.out; have := HJ23.out; first | omega | exact Nat.le_refl _⟩, ⟨by repeat (first | (with_reducible first | exact HB.out | apply below_alloc | apply pw_below_drewN | apply below_drew1) | exact HB.out)⟩⟩)
                                  · rw [if_neg c42] at H
                                    have c42b0 : decide (0 < a1) = false := decide_eq_false c42
                                    clear c42
                                    by_cases c48 : a1 < 0
                                    · rw [if_pos c48] at H
                                      have c48b0 : decide (a1 < 0) = true := decide_eq_true c48
                                      clear c48
                                      by_cases c49 : t402 ≤ a1
                                      · rw [if_pos c49] at H
                                        have c49b0 : decide (t402 ≤ a1) = true := decide_eq_true c49
                                        clear c49
                                        first
                                        | (exfalso; have f0_ := HF_.out; (try have e0_ := (by first | exact of_decide_eq_false c4b0 | exact ne_of_beq_false c4b0)); (try have e1_ := (by first | exact of_decide_eq_false c31b0 | exact ne_of_beq_false c31b0)); (try have e2_ := (by first | exact of_decide_eq_true c37b0 | exact eq_of_beq c37b0)); (try have e3_ := (by first | exact of_decide_eq_true c38b0 | exact eq_of_beq c38b0)); (try have e4_ := (by first | exact of_decide_eq_false c39b0 | exact ne_of_beq_false c39b0)); (try have e5_ := (by first | exact of_decide_eq_true c40b0 | exact eq_of_beq c40b0)); (try have e6_ := (by first | exact of_decide_eq_false c41b0 | exact ne_of_beq_false c41b0)); (try have e7_ := (by first | exact of_decide_eq_false c42b0 | exact ne_of_beq_false c42b0)); (try have e8_ := (by first | exact of_decide_eq_true c48b0 | exact eq_of_beq c48b0)); (try have e9_ := (by first | exact of_decide_eq_true c49b0 | exact eq_of_beq c49b0)); omega)
                                        | (as_aux_lemma =>
                                           have H' := Aside0.mk H
                                           clear H
                                           go_wp2
                                           go_meet
                                           case rel => exact ⟨_, (true), (by first | rfl | (simp; done) | (simp [*]; done) | (simp [bne, show ∀ l_ : List UInt8, (l_ == []) = l_.isEmpty from fun l_ => by cases l_ <;> rfl]; done)), H', ⟨by have := HJ8.out; have := HJ14.out; have := HJ23.out; first | omega | exact Nat.le_refl _⟩, ⟨by repeat (first | (with_reducible first | exact HB.out | apply below_alloc | apply pw_below_drewN | apply below_drew1) | exact HB.out)⟩⟩)
                                      · rw [if_neg c49] at H
                                        have c49b0 : decide (t402 ≤ a1) = false := decide_eq_false c49
                                        clear c49
                                        first
                                        | (exfalso; have f0_ := HF_.out; (try have e0_ := (by first | exact of_decide_eq_false c4b0 | exact ne_of_beq_false c4b0)); (try have e1_ := (by first | exact of_decide_eq_false c31b0 | exact ne_of_beq_false c31b0)); (try have e2_ := (by first | exact of_decide_eq_true c37b0 | exact eq_of_beq c37b0)); (try have e3_ := (by first | exact of_decide_eq_true c38b0 | exact eq_of_beq c38b0)); (try have e4_ := (by first | exact of_decide_eq_false c39b0 | exact ne_of_beq_false c39b0)); (try have e5_ := (by first | exact of_decide_eq_true c40b0 | exact eq_of_beq c40b0)); (try have e6_ := (by first | exact of_decide_eq_false c41b0 | exact ne_of_beq_false c41b0)); (try have e7_ := (by first | exact of_decide_eq_false c42b0 | exact ne_of_beq_false c42b0)); (try have e8_ := (by first | exact of_decide_eq_true c48b0 | exact eq_of_beq c48b0)); (try have e9_ := (by first | exact of_decide_eq_false c49b0 | exact ne_of_beq_false c49b0)); omega)
                                        | (as_aux_lemma =>
                                           have H' := Aside0.mk H
                                           clear H
                                           go_wp2
                                           go_meet
                                           case rel => exact ⟨_, (decide ((wrap64 (-t402)) ≤ a1)), (by first | rfl | (simp; done) | (simp [*]; done) | (simp [bne, show ∀ l_ : List UInt8, (l_ == []) = l_.isEmpty from fun l_ => by cases l_ <;> rfl]; done)), H', ⟨by have := HJ8.out; have := HJ14.out; have := HJ23.out; first | omega | exact Nat.le_refl _⟩, ⟨by repeat (first | (with_reducible first | exact HB.out | apply below_alloc | apply pw_below_drewN | apply below_drew1) | exact HB.out)⟩⟩)
                                    · rw [if_neg c48] at H
                                      have c48b0 : decide (a1 < 0) = false := decide_eq_false c48
                                      clear c48
                                      first
                                      | (exfalso; have f0_ := HF_.out; (try have e0_ := (by first | exact of_decide_eq_false c4b0 | exact ne_of_beq_false c4b0)); (try have e1_ := (by first | exact of_decide_eq_false c31b0 | exact ne_of_beq_false c31b0)); (try have e2_ := (by first | exact of_decide_eq_true c37b0 | exact eq_of_beq c37b0)); (try have e3_ := (by first | exact of_decide_eq_true c38b0 | exact eq_of_beq c38b0)); (try have e4_ := (by first | exact of_decide_eq_false c39b0 | exact ne_of_beq_false c39b0)); (try have e5_ := (by first | exact of_decide_eq_true c40b0 | exact eq_of_beq c40b0)); (try have e6_ := (by first | exact of_decide_eq_false c41b0 | exact ne_of_beq_false c41b0)); (try have e7_ := (by first | exact of_decide_eq_false c42b0 | exact ne_of_beq_false c42b0)); (try have e8_ := (by first | exact of_decide_eq_false c48b0 | exact ne_of_beq_false c48b0)); omega)
                                      | (as_aux_lemma =>
                                         have H' := Aside0.mk H
                                         clear H
                                         go_wp2
                                         go_meet
                                         case rel => exact ⟨_, (false), (by first | rfl | (simp; done) | (simp [*]; done) | (simp [bne, show ∀ l_ : List UInt8, (l_ == []) = l_.isEmpty from fun l_ => by cases l_ <;> rfl]; done)), H', ⟨by have := HJ8.out; have := HJ14.out; have := HJ23.out; first | omega | exact Nat.le_refl _⟩, ⟨by repeat (first | (with_reducible first | exact HB.out | apply below_alloc | apply pw_below_drewN | apply below_drew1) | exact HB.out)⟩⟩)
                              · rw [if_neg c40] at H
                                have c40b0 : decide (0 < t402) = false := decide_eq_false c40
                                clear c40
                                by_cases c50 : a1 > 0
                                · rw [if_pos c50] at H
                                  have c50b0 : decide (0 < a1) = true := decide_eq_true c50
                                  clear c50
                                  by_cases c51 : t402 ≤ (wrap64 (-a1))
                                  · rw [if_pos c51] at H
                                    have c51b0 : decide (t402 ≤ (wrap64 (-a1))) = true := decide_eq_true c51
                                    clear c51
                                    first
                                    | (exfalso; have f0_ := HF_.out; (try have e0_ := (by first | exact of_decide_eq_false c4b0 | exact ne_of_beq_false c4b0)); (try have e1_ := (by first | exact of_decide_eq_false c31b0 | exact ne_of_beq_false c31b0)); (try have e2_ := (by first | exact of_decide_eq_true c37b0 | exact eq_of_beq c37b0)); (try have e3_ := (by first | exact of_decide_eq_true c38b0 | exact eq_of_beq c38b0)); (try have e4_ := (by first | exact of_decide_eq_false c39b0 | exact ne_of_beq_false c39b0)); (try have e5_ := (by first | exact of_decide_eq_false c40b0 | exact ne_of_beq_false c40b0)); (try have e6_ := (by first | exact of_decide_eq_true c50b0 | exact eq_of_beq c50b0)); (try have e7_ := (by first | exact of_decide_eq_true c51b0 | exact eq_of_beq c51b0)); omega)
                                    | (as_aux_lemma =>
                                       have H' := Aside0.mk H
                                       clear H
                                       go_wp2
                                       go_meet
                                       case rel => exact ⟨_, (true), (by first | rfl | (simp; done) | (simp [*]; done) | (simp [bne, show ∀ l_ : List UInt8, (l_ == []) = l_.isEmpty from fun l_ => by cases l_ <;> rfl]; done)), H', ⟨by have := HJ8.out; have := HJ14.out; have := HJ23.out; first | omega | exact Nat.le_refl _⟩, ⟨by repeat (first | (with_reducible first | exact HB.out | apply below_alloc | apply pw_below_drewN | apply below_drew1) | exact HB.out)⟩⟩)
                                  · rw [if_neg c51] at H
                                    have c51b0 : decide (t402 ≤ (wrap64 (-a1))) = false := decide_eq_false c51
                                    clear c51
                                    by_cases c52 : a1 < 0
                                    · rw [if_pos c52] at H
                                      have c52b0 : decide (a1 < 0) = true := decide_eq_true c52
                                      clear c52
                                      by_cases c53 : t402 ≤ a1
                                      · rw [if_pos c53] at H
                                        have c53b0 : decide (t402 ≤ a1) = true := decide_eq_true c53
                                        clear c53
                                        first
                                        | (exfalso; have f0_ := HF_.out; (try have e0_ := (by first | exact of_decide_eq_false c4b0 | exact ne_of_beq_false c4b0)); (try have e1_ := (by first | exact of_decide_eq_false c31b0 | exact ne_of_beq_false c31b0)); (try have e2_ := (by first | exact of_decide_eq_true c37b0 | exact eq_of_beq c37b0)); (try have e3_ := (by first | exact of_decide_eq_true c38b0 | exact eq_of_beq c38b0)); (try have e4_ := (by first | exact of_decide_eq_false c39b0 | exact ne_of_beq_false c39b0)); (try have e5_ := (by first | exact of_decide_eq_false c40b0 | exact ne_of_beq_false c40b0)); (try have e6_ := (by first | exact of_decide_eq_true c50b0 | exact eq_of_beq c50b0)); (try have e7_ := (by first | exact of_decide_eq_false c51b0 | exact ne_of_beq_false c51b0)); (try have e8_ := (by first | exact of_decide_eq_true c52b0 | exact eq_of_beq c52b0)); (try have e9_ := (by first | exact of_decide_eq_true c53b0 | exact eq_of_beq c53b0)); omega)
                                        | (as_aux_lemma =>
                                           have H' := Aside0.mk H
                                           clear H
                                           go_wp2
                                           go_meet
                                           case rel => exact ⟨_, (true), (by first | rfl | (simp; done) | (simp [*]; done) | (simp [bne, show ∀ l_ : List UInt8, (l_ == []) = l_.isEmpty from fun l_ => by cases l_ <;> rfl]; done)), H', ⟨by have := HJ8.out; have := HJ14.out; have := HJ23.out; first | omega | exact Nat.le_refl _⟩, ⟨by repeat (first | (with_reducible first | exact HB.out | apply below_alloc | apply pw_below_drewN | apply below_drew1) | exact HB.out)⟩⟩)
                                      · rw [if_neg c53] at H
                                        have c53b0 : decide (t402 ≤ a1) = false := decide_eq_false c53
                                        clear c53
                                        first
                                        | (exfalso; have f0_ := HF_.out; (try have e0_ := (by first | exact of_decide_eq_false c4b0 | exact ne_of_beq_false c4b0)); (try have e1_ := (by first | exact of_decide_eq_false c31b0 | exact ne_of_beq_false c31b0)); (try have e2_ := (by first | exact of_decide_eq_true c37b0 | exact eq_of_beq c37b0)); (try have e3_ := (by first | exact of_decide_eq_true c38b0 | exact eq_of_beq c38b0)); (try have e4_ := (by first | exact of_decide_eq_false c39b0 | exact ne_of_beq_false c39b0)); (try have e5_ := (by first | exact of_decide_eq_false c40b0 | exact ne_of_beq_false c40b0)); (try have e6_ := (by first | exact of_decide_eq_true c50b0 | exact eq_of_beq c50b0)); (try have e7_ := (by first | exact of_decide_eq_false c51b0 | exact ne_of_beq_false c51b0)); (try have e8_ := (by first | exact of_decide_eq_true c52b0 | exact eq_of_beq c52b0)); (try have e9_ := (by first | exact of_decide_eq_false c53b0 | exact ne_of_beq_false c53b0)); omega)
                                        | (as_aux_lemma =>
                                           have H' := Aside0.mk H
                                           clear H
                                           go_wp2
                                           go_meet
                                           case rel => exact ⟨_, (false), (by first | rfl | (simp; done) | (simp [*]; done) | (simp [bne, show ∀ l_ : List UInt8, (l_ == []) = l_.isEmpty from fun l_ => by cases l_ <;> rfl]; done)), H', ⟨by have := HJ8.out; have := HJ14.out; have := HJ23.out; first | omega | exact Nat.le_refl _⟩, ⟨by repeat (first | (with_reducible first | exact HB.out | apply below_alloc | apply pw_below_drewN | apply below_drew1) | exact HB.out)⟩⟩)
                                    · rw [if_neg c52] at H
                                      have c52b0 : decide (a1 < 0) = false := decide_eq_false c52
                                      clear c52
                                      first
                                      | (exfalso; have f0_ := HF_.out; (try have e0_ := (by first | exact of_decide_eq_false c4b0 | exact ne_of_beq_false c4b0)); (try have e1_ := (by first | exact of_decide_eq_false c31b0 | exact ne_of_beq_false c31b0)); (try have e2_ := (by first | exact of_decide_eq_true c37b0 | exact eq_of_beq c37b0)); (try have e3_ := (by first | exact of_decide_eq_true c38b0 | exact eq_of_beq c38b0)); (try have e4_ := (by first | exact of_decide_eq_false c39b0 | exact ne_of_beq_false c39b0)); (try have e5_ := (by first | exact of_decide_eq_false c40b0 | exact ne_of_beq_false c40b0)); (try have e6_ := (by first | exact of_decide_eq_true c50b0 | exact eq_of_beq c50b0)); (try have e7_ := (by first | exact of_decide_eq_false c51b0 | exact ne_of_beq_false c51b0)); (try have e8_ := (by first | exact of_decide_eq_false c52b0 | exact ne_of_beq_false c52b0)); omega)
                                      | (as_aux_lemma =>
                                         have H' := Aside0.mk H
                                         clear H
                                         go_wp2
                                         go_meet
                                         case rel => exact ⟨_, (false), (by first | rfl | (simp; done) | (simp [*]; done) | (simp [bne, show ∀ l_ : List UInt8, (l_ == []) = l_.isEmpty from fun l_ => by cases l_ <;> rfl]; done)), H', ⟨by have := HJ8.out; have := HJ14.out; have := HJ23.out; first | omega | exact Nat.le_refl _⟩, ⟨by repeat (first | (with_reducible first | exact HB.out | apply below_alloc | apply pw_below_drewN | apply below_drew1) | exact HB.out)⟩⟩)
                                · rw [if_neg c50] at H
                                  have c50b0 : decide (0 < a1) = false := decide_eq_false c50
                                  clear c50
                                  by_cases c54 : a1 < 0
                                  · rw [if_pos c54] at H
                                    have c54b0 : decide (a1 < 0) = true := decide_eq_true c54
                                    clear c54
                                    by_cases c55 : t402 ≤ a1
                                    · rw [if_pos c55] at H
                                      have c55b0 : decide (t402 ≤ a1) = true := decide_eq_true c55
                                      clear c55
                                      first
                                      | (exfalso; have f0_ := HF_.out; (try have e0_ := (by first | exact of_decide_eq_false c4b0 | exact ne_of_beq_false c4b0)); (try have e1_ := (by first | exact of_decide_eq_false c31b0 | exact ne_of_beq_false c31b0)); (try have e2_ := (by first | exact of_decide_eq_true c37b0 | exact eq_of_beq c37b0)); (try have e3_ := (by first | exact of_decide_eq_true c38b0 | exact eq_of_beq c38b0)); (try have e4_ := (by first | exact of_decide_eq_false c39b0 | exact ne_of_beq_false c39b0)); (try have e5_ := (by first | exact of_decide_eq_false c40b0 | exact ne_of_beq_false c40b0)); (try have e6_ := (by first | exact of_decide_eq_false c50b0 | exact ne_of_beq_false c50b0)); (try have e7_ := (by first | exact of_decide_eq_true c54b0 | exact eq_of_beq c54b0)); (try have e8_ := (by first | exact of_decide_eq_true c55b0 | exact eq_of_beq c55b0)); omega)
                                      | (as_aux_lemma =>
                                         have H' := Aside0.mk H
                                         clear H
                                         go_wp2
                                         go_meet
                                         case rel => exact ⟨_, (true), (by first | rfl | (simp; done) | (simp [*]; done) | (simp [bne, show ∀ l_ : List UInt8, (l_ == []) = l_.isEmpty from fun l_ => by cases l_ <;> rfl]; done)), H', ⟨by have := HJ8.out; have := HJ14.out; have := HJ23.out; first | omega | exact Nat.le_refl _⟩, ⟨by repeat (first | (with_reducible first | exact HB.out | apply below_alloc | apply pw_below_drewN | apply below_drew1) | exact HB.out)⟩⟩)
                                    · rw [if_neg c55] at H
                                      have c55b0 : decide (t402 ≤ a1) = false := decide_eq_false c55
                                      clear c55
                                      first
                                      | (exfalso; have f0_ := HF_.out; (try have e0_ := (by first | exact of_decide_eq_false c4b0 | exact ne_of_beq_false c4b0)); (try have e1_ := (by first | exact of_decide_eq_false c31b0 | exact ne_of_beq_false c31b0)); (try have e2_ := (by first | exact of_decide_eq_true c37b0 | exact eq_of_beq c37b0)); (try have e3_ := (by first | exact of_decide_eq_true c38b0 | exact eq_of_beq c38b0)); (try have e4_ := (by first | exact of_decide_eq_false c39b0 | exact ne_of_beq_false c39b0)); (try have e5_ := (by first | exact of_decide_eq_false c40b0 | exact ne_of_beq_false c40b0)); (try have e6_ := (by first | exact of_decide_eq_false c50b0 | exact ne_of_beq_false c50b0)); (try have e7_ := (by first | exact of_decide_eq_true c54b0 | exact eq_of_beq c54b0)); (try have e8_ := (by first | exact of_decide_eq_false c55b0 | exact ne_of_beq_false c55b0)); omega)
                                      | (as_aux_lemma =>
                                         have H' := Aside0.mk H
                                         clear H
                                         go_wp2
                                         go_meet
                                         case rel => exact ⟨_, (false), (by first | rfl | (simp; done) | (simp [*]; done) | (simp [bne, show ∀ l_ : List UInt8, (l_ == []) = l_.isEmpty from fun l_ => by cases l_ <;> rfl]; done)), H', ⟨by have := HJ8.out; have := HJ14.out; have := HJ23.out; first | omega | exact Nat.le_refl _⟩, ⟨by repeat (first | (with_reducible first | exact HB.out | apply below_alloc | apply pw_below_drewN | apply below_drew1) | exact HB.out)⟩⟩)
                                  · rw [if_neg c54] at H
                                    have c54b0 : decide (a1 < 0) = false := decide_eq_false c54
                                    clear c54
                                    first
                                    | (exfalso; have f0_ := HF_.out; (try have e0_ := (by first | exact of_decide_eq_false c4b0 | exact ne_of_beq_false c4b0)); (try have e1_ := (by first | exact of_decide_eq_false c31b0 | exact ne_of_beq_false c31b0)); (try have e2_ := (by first | exact of_decide_eq_true c37b0 | exact eq_of_beq c37b0)); (try have e3_ := (by first | exact of_decide_eq_true c38b0 | exact eq_of_beq c38b0)); (try have e4_ := (by first | exact of_decide_eq_false c39b0 | exact ne_of_beq_false c39b0)); (try have e5_ := (by first | exact of_decide_eq_false c40b0 | exact ne_of_beq_false c40b0)); (try have e6_ := (by first | exact of_decide_eq_false c50b0 | exact ne_of_beq_false c50b0)); (try have e7_ := (by first | exact of_decide_eq_false c54b0 | exact ne_of_beq_false c54b0)); omega)
                                    | (as_aux_lemma =>
                                       have H' := Aside0.mk H
                                       clear H
                                       go_wp2
                                       go_meet
                                       case rel => exact ⟨_, (false), (by first | rfl | (simp; done) | (simp [*]; done) | (simp [bne, show ∀ l_ : List UInt8, (l_ == []) = l_.isEmpty from fun l_ => by cases l_ <;> rfl]; done)), H', ⟨by have := HJ8.out; have := HJ14.out; have := HJ23.out; first | omega | exact Nat.le_refl _⟩, ⟨by repeat (first | (with_reducible first | exact HB.out | apply below_alloc | apply pw_below_drewN | apply below_drew1) | exact HB.out)⟩⟩)
                          · rw [if_neg c38] at H
                            have c38b0 : decide (t402 < 0) = false := decide_eq_false c38
                            clear c38
                            by_cases c56 : t402 > 0
                            · rw [if_pos c56] at H
                              have c56b0 : decide (0 < t402) = true := decide_eq_true c56
                              clear c56
                              by_cases c57 : a0 ≤ 0
                              · rw [if_pos c57] at H
                                have c57b0 : decide (a0 ≤ 0) = true := decide_eq_true c57
                                clear c57
                                first
                                | (exfalso; have f0_ := HF_.out; (try have e0_ := (by first | exact of_decide_eq_false c4b0 | exact ne_of_beq_false c4b0)); (try have e1_ := (by first | exact of_decide_eq_false c31b0 | exact ne_of_beq_false c31b0)); (try have e2_ := (by first | exact of_decide_eq_true c37b0 | exact eq_of_beq c37b0)); (try have e3_ := (by first | exact of_decide_eq_false c38b0 | exact ne_of_beq_false c38b0)); (try have e4_ := (by first | exact of_decide_eq_true c56b0 | exact eq_of_beq c56b0)); (try have e5_ := (by first | exact of_decide_eq_true c57b0 | exact eq_of_beq c57b0)); omega)
                                | (as_aux_lemma =>
                                   have H' := Aside0.mk H
                                   clear H
                                   go_wp2
                                   go_meet
                                   case rel => exact ⟨_, (true), (by first | rfl | (simp; done) | (simp [*]; done) | (simp [bne, show ∀ l_ : List UInt8, (l_ == []) = l_.isEmpty from fun l_ => by cases l_ <;> rfl]; done)), H', ⟨by have := HJ8.out; have := HJ14.out; have := HJ23.out; first | omega | exact Nat.le_refl _⟩, ⟨by repeat (first | (with_reducible first | exact HB.out | apply below_alloc | apply pw_below_drewN | apply below_drew1) | exact HB.out)⟩⟩)
                              · rw [if_neg c57] at H
                                have c57b0 : decide (a0 ≤ 0) = false := decide_eq_false c57
                                clear c57
                                by_cases c58 : a1 > 0
                                · rw [if_pos c58] at H
                                  have c58b0 : decide (0 < a1) = true := decide_eq_true c58
                                  clear c58
                                  by_cases c59 : t402 ≥ a1
                                  · rw [if_pos c59] at H
                                    have c59b0 : decide (a1 ≤ t402) = true := decide_eq_true c59
                                    clear c59
                                    first
                                    | (exfalso; have f0_ := HF_.out; (try have e0_ := (by first | exact of_decide_eq_false c4b0 | exact ne_of_beq_false c4b0)); (try have e1_ := (by first | exact of_decide_eq_false c31b0 | exact ne_of_beq_false c31b0)); (try have e2_ := (by first | exact of_decide_eq_true c37b0 | exact eq_of_beq c37b0)); (try have e3_ := (by first | exact of_decide_eq_false c38b0 | exact ne_of_beq_false c38b0)); (try have e4_ := (by first | exact of_decide_eq_true c56b0 | exact eq_of_beq c56b0)); (try have e5_ := (by first | exact of_decide_eq_false c57b0 | exact ne_of_beq_false c57b0)); (try have e6_ := (by first | exact of_decide_eq_true c58b0 | exact eq_of_beq c58b0)); (try have e7_ := (by first | exact of_decide_eq_true c59b0 | exact eq_of_beq c59b0)); omega)
                                    | (as_aux_lemma =>
                                       have H' := Aside0.mk H
                                       clear H
                                       go_wp2
                                       go_meet
                                       case rel => exact ⟨_, (true), (by first | rfl | (simp; done) | (simp [*]; done) | (simp [bne, show ∀ l_ : List UInt8, (l_ == []) = l_.isEmpty from fun l_ => by cases l_ <;> rfl]; done)), H', ⟨by have := HJ8.out; have := HJ14.out; have := HJ23.out; first | omega | exact Nat.le_refl _⟩, ⟨by repeat (first | (with_reducible first | exact HB.out | apply below_alloc | apply pw_below_drewN | apply below_drew1) | exact HB.out)⟩⟩)
                                  · rw [if_neg c59] at H
                                    have c59b0 : decide (a1 ≤ t402) = false := decide_eq_false c59
                                    clear c59
                                    by_cases c60 : a1 < 0
                                    · rw [if_pos c60] at H
                                      have c60b0 : decide (a1 < 0) = true := decide_eq_true c60
                                      clear c60
                                      first
                                      | (exfalso; have f0_ := HF_.out; (try have e0_ := (by first | exact of_decide_eq_false c4b0 | exact ne_of_beq_false c4b0)); (try have e1_ := (by first | exact of_decide_eq_false c31b0 | exact ne_of_beq_false c31b0)); (try have e2_ := (by first | exact of_decide_eq_true c37b0 | exact eq_of_beq c37b0)); (try have e3_ := (by first | exact of_decide_eq_false c38b0 | exact ne_of_beq_false c38b0)); (try have e4_ := (by first | exact of_decide_eq_true c56b0 | exact eq_of_beq c56b0)); (try have e5_ := (by first | exact of_decide_eq_false c57b0 | exact ne_of_beq_false c57b0)); (try have e6_ := (by first | exact of_decide_eq_true c58b0 | exact eq_of_beq c58b0)); (try have e7_ := (by first | exact of_decide_eq_false c59b0 | exact ne_of_beq_false c59b0)); (try have e8_ := (by first | exact of_decide_eq_true c60b0 | exact eq_of_beq c60b0)); omega)
                                      | (as_aux_lemma =>
                                         have H' := Aside0.mk H
                                         clear H
                                         go_wp2
                                         go_meet
                                         case rel => exact ⟨_, (decide ((wrap64 (-t402)) ≤ a1)), (by first | rfl | (simp; done) | (simp [*]; done) | (simp [bne, show ∀ l_ : List UInt8, (l_ == []) = l_.isEmpty from fun l_ => by cases l_ <;> rfl]; done)), H', ⟨by have := HJ8.out; have := HJ14.out; have := HJ23.out; first | omega | exact Nat.le_refl _⟩, ⟨by repeat (first | (with_reducible first | exact HB.out | apply below_alloc | apply pw_below_drewN | apply below_drew1) | exact HB.out)⟩⟩)
                                    · rw [if_neg c60] at H
                                      have c60b0 : decide (a1 < 0) = false := decide_eq_false c60
                                      clear c60
                                      first
                                      | (exfalso; have f0_ := HF_.out; (try have e0_ := (by first | exact of_decide_eq_false c4b0 | exact ne_of_beq_false c4b0)); (try have e1_ := (by first | exact of_decide_eq_false c31b0 | exact ne_of_beq_false c31b0)); (try have e2_ := (by first | exact of_decide_eq_true c37b0 | exact eq_of_beq c37b0)); (try have e3_ := (by first | exact of_decide_eq_false c38b0 | exact ne_of_beq_false c38b0)); (try have e4_ := (by first | exact of_decide_eq_true c56b0 | exact eq_of_beq c56b0)); (try have e5_ := (by first | exact of_decide_eq_false c57b0 | exact ne_of_beq_false c57b0)); (try have e6_ := (by first | exact of_decide_eq_true c58b0 | exact eq_of_beq c58b0)); (try have e7_ := (by first | exact of_decide_eq_false c59b0 | exact ne_of_beq_false c59b0)); (try have e8_ := (by first | exact of_decide_eq_false c60b0 | exact ne_of_beq_false c60b0)); omega)
                                      | (as_aux_lemma =>
                                         have H' := Aside0.mk H
                                         clear H
                                         go_wp2
                                         go_meet
                                         case rel => exact ⟨_, (false), (by first | rfl | (simp; done) | (simp [*]; done) | (simp [bne, show ∀ l_ : List UInt8, (l_ == []) = l_.isEmpty from fun l_ => by cases l_ <;> rfl]; done)), H', ⟨by have := HJ8.out; have := HJ14.out; have := HJ23.out; first | omega | exact Nat.le_refl _⟩, ⟨by repeat (first | (with_reducible first | exact HB.out | apply below_alloc | apply pw_below_drewN | apply below_drew1) | exact HB.out)⟩⟩)
                                · rw [if_neg c58] at H
                                  have c58b0 : decide (0 < a1) = false := decide_eq_false c58
                                  clear c58
                                  by_cases c61 : a1 < 0
                                  · rw [if_pos c61] at H
                                    have c61b0 : decide (a1 < 0) = true := decide_eq_true c61
                                    clear c61
                                    first
                                    | (exfalso; have f0_ := HF_.out; (try have e0_ := (by first | exact of_decide_eq_false c4b0 | exact ne_of_beq_false c4b0)); (try have e1_ := (by first | exact of_decide_eq_false c31b0 | exact ne_of_beq_false c31b0)); (try have e2_ := (by first | exact of_decide_eq_true c37b0 | exact eq_of_beq c37b0)); (try have e3_ := (by first | exact of_decide_eq_false c38b0 | exact ne_of_beq_false c38b0)); (try have e4_ := (by first | exact of_decide_eq_true c56b0 | exact eq_of_beq c56b0)); (try have e5_ := (by first | exact of_decide_eq_false c57b0 | exact ne_of_beq_false c57b0)); (try have e6_ := (by first | exact of_decide_eq_false c58b0 | exact ne_of_beq_false c58b0)); (try have e7_ := (by first | exact of_decide_eq_true c61b0 | exact eq_of_beq c61b0)); omega)
                                    | (as_aux_lemma =>
                                       have H' := Aside0.mk H
                                       clear H
                                       go_wp2
                                       go_meet
                                       case rel => exact ⟨_, (decide ((wrap64 (-t402)) ≤ a1)), (by first | rfl | (simp; done) | (simp [*]; done) | (simp [bne, show ∀ l_ : List UInt8, (l_ == []) = l_.isEmpty from fun l_ => by cases l_ <;> rfl]; done)), H', ⟨by have := HJ8.out; have := HJ14.out; have := HJ23.out; first | omega | exact Nat.le_refl _⟩, ⟨by repeat (first | (with_reducible first | exact HB.out | apply below_alloc | apply pw_below_drewN | apply below_drew1) | exact HB.out)⟩⟩)
                                  · rw [if_neg c61] at H
                                    have c61b0 : decide (a1 < 0) = false := decide_eq_false c61
                                    clear c61
                                    first
                                    | (exfalso; have f0_ := HF_.out; (try have e0_ := (by first | exact of_decide_eq_false c4b0 | exact ne_of_beq_false c4b0)); (try have e1_ := (by first | exact of_decide_eq_false c31b0 | exact ne_of_beq_false c31b0)); (try have e2_ := (by first | exact of_decide_eq_true c37b0 | exact eq_of_beq c37b0)); (try have e3_ := (by first | exact of_decide_eq_false c38b0 | exact ne_of_beq_false c38b0)); (try have e4_ := (by first | exact of_decide_eq_true c56b0 | exact eq_of_beq c56b0)); (try have e5_ := (by first | exact of_decide_eq_false c57b0 | exact ne_of_beq_false c57b0)); (try have e6_ := (by first | exact of_decide_eq_false c58b0 | exact ne_of_beq_false c58b0)); (try have e7_ := (by first | exact of_decide_eq_false c61b0 | exact ne_of_beq_false c61b0)); omega)
                                    | (as_aux_lemma =>
                                       have H' := Aside0.mk H
                                       clear H
                                       go_wp2
                                       go_meet
                                       case rel => exact ⟨_, (false), (by first | rfl | (simp; done) | (simp [*]; done) | (simp [bne, show ∀ l_ : List UInt8, (l_ == []) = l_.isEmpty from fun l_ => by cases l_ <;> rfl]; done)), H', ⟨by have := HJ8.out; have := HJ14.out; have := HJ23.out; first | omega | exact Nat.le_refl _⟩, ⟨by repeat (first | (with_reducible first | exact HB.out | apply below_alloc | apply pw_below_drewN | apply below_drew1) | exact HB.out)⟩⟩)
                            · rw [if_neg c56] at H
                              have c56b0 : decide (0 < t402) = false := decide_eq_false c56
                              clear c56
                              first
                              | (exfalso; have f0_ := HF_.out; (try have e0_ := (by first | exact of_decide_eq_false c4b0 | exact ne_of_beq_false c4b0)); (try have e1_ := (by first | exact of_decide_eq_false c31b0 | exact ne_of_beq_false c31b0)); (try have e2_ := (by first | exact of_decide_eq_true c37b0 | exact eq_of_beq c37b0)); (try have e3_ := (by first | exact of_decide_eq_false c38b0 | exact ne_of_beq_false c38b0)); (try have e4_ := (by first | exact of_decide_eq_false c56b0 | exact ne_of_beq_false c56b0)); omega)
                              | (as_aux_lemma =>
                                 have H' := Aside0.mk H
                                 clear H
                                 go_wp2
                                 go_meet
                                 case rel => exact ⟨_, (false), (by first | rfl | (simp; done) | (simp [*]; done) | (simp [bne, show ∀ l_ : List UInt8, (l_ == []) = l_.isEmpty from fun l_ => by cases l_ <;> rfl]; done)), H', ⟨by have := HJ8.out; have := HJ14.out; have := HJ23.out; first | omega | exact Nat.le_refl _⟩, ⟨by repeat (first | (with_reducible first | exact HB.out | apply below_alloc | apply pw_below_drewN | apply below_drew1) | exact HB.out)⟩⟩)
                        · rw [if_neg c37] at H
                          have c37b0 : (t403 == 0) = false := beq_eq_false_iff_ne.mpr c37
                          have c37b1 : (t403 != 0) = true := bne_iff_ne.mpr c37
                          (first | rw [c37b0] | (simp only [i64_w, i32_w]; rw [c37b0]) | skip)
                          first
                          | (exfalso; have f0_ := HF_.out; (try have e0_ := (by first | exact of_decide_eq_false c4b0 | exact ne_of_beq_false c4b0)); (try have e1_ := (by first | exact of_decide_eq_false c31b0 | exact ne_of_beq_false c31b0)); (try have e2_ := (by first | exact of_decide_eq_false c37b0 | exact ne_of_beq_false c37b0)); omega)
                          | (as_aux_lemma =>
                             have H' := Aside0.mk H
                             clear H
                             go_wp2
                             go_meet
                             case rel => exact ⟨_, (true), (by first | rfl | (simp; done) | (simp [*]; done) | (simp [bne, show ∀ l_ : List UInt8, (l_ == []) = l_.isEmpty from fun l_ => by cases l_ <;> rfl]; done)), H', ⟨by have := HJ8.out; have := HJ14.out; have := HJ23.out; first | omega | exact Nat.le_refl _⟩, ⟨by repeat (first | (with_reducible first | exact HB.out | apply below_alloc | apply pw_below_drewN | apply below_drew1) | exact HB.out)⟩⟩)
                      case rest =>
                        clear HC36
                        try clear c1
                        try clear c2
                        try clear p2
                        try clear c3
                        try clear c4
                        try clear c4b0
                        try clear c4b1
                        try clear c5
                        try clear c6
                        try clear p6
                        try clear c8
                        try clear c11
                        try clear c12
                        try clear c12b0
                        try clear c12b1
                        try clear c13
                        try clear c15
                        try clear c17
                        try clear c17b0
                        try clear c17b1
                        try clear c19
                        try clear c19b0
                        try clear c19b1
                        try clear c21
                        try clear c22
                        try clear c23
                        try clear c25
                        try clear c25b0
                        try clear c25b1
                        try clear c27
                        try clear c27b0
                        try clear c27b1
                        try clear c28
                        try clear c28b0
                        try clear c28b1
                        try clear c31
                        try clear c31b0
                        try clear c31b1
                        try clear c32
                        try clear c32b0
                        try clear c32b1
                        try clear c33
                        try clear c33b0
                        try clear c33b1
                        try clear c37
                        try clear c37b0
                        try clear c37b1
                        try clear c38
                        try clear c38b0
                        try clear c39
                        try clear c39b0
                        try clear c40
                        try clear c40b0
                        try clear c41
                        try clear c41b0
                        try clear c42
                        try clear c42b0
                        try clear c43
                        try clear c43b0
                        try clear c44
                        try clear c44b0
                        try clear c45
                        try clear c45b0
                        try clear c46
                        try clear c46b0
                        try clear c47
                        try clear c47b0
                        try clear c48
                        try clear c48b0
                        try clear c49
                        try clear c49b0
                        try clear c50
                        try clear c50b0
                        try clear c51
                        try clear c51b0
                        try clear c52
                        try clear c52b0
                        try clear c53
                        try clear c53b0
                        try clear c54
                        try clear c54b0
                        try clear c55
                        try clear c55b0
                        try clear c56
                        try clear c56b0
                        try clear c57
                        try clear c57b0
                        try clear c58
                        try clear c58b0
                        try clear c59
                        try clear c59b0
                        try clear c60
                        try clear c60b0
                        try clear c61
                        try clear c61b0
                        try clear p2
                        obtain ⟨kq, x176_35, rfl, HA, HJ35, HB⟩ := hcut
                        cases kq with
                        | zero => exact absurd HA.out (by simp [hopscotchlaw06_NumBack.j3])
                        | succ kj35 =>
                          have H := HA.out
                          clear HA
                          simp only [hopscotchlaw06_NumBack.j3] at H
                          by_cases c62 : x176_35 = true
                          · subst c62
                            have H1 : (some false) = some r := by rw [if_pos rfl] at H; exact H
                            clear H
                            have H := H1
                            clear H1
                            obtain rfl := Option.some.inj H
                            first
                            | exact absurd HRT.out (by decide)
                            | (go_wp2
                               go_ret
                               exact ⟨by first | rfl | (simp [errW_none, errW_some] <;> rfl) | (simp [*, errW_none, errW_some] <;> rfl), by repeat (first | (with_reducible first | exact HB.out | apply below_alloc | apply pw_below_drewN | apply below_drew1) | exact HB.out)⟩)
                          · replace c62 := Bool.eq_false_iff.mpr c62
                            subst c62
                            have H1 : (if t401 = 0 then ((num_Mul.f kj35 t400 a1).bind fun bt406 => (if bt406.2 = 0 then ((num_Add.f bt406.1 t402).bind fun bt408 => (if bt408.2 = 0 then (if bt408.1 = a0 then ((hopscotchlaw06_works.f kj35).bind fun t410 => (some t410)) else (some false)) else (some false))) else (some false))) else (if t401 = 60 then (if a0 = (-9223372036854775808) then (if a1 = (-1) then (if t402 = 0 then ((hopscotchlaw06_works.f kj35).bind fun t405 => (some t405)) else (some false)) else (some false)) else (some false)) else (some false))) = some r := by rw [if_neg (show ¬ (false = true) by decide)] at H; exact H
                            clear H
                            have H := H1
                            clear H1
                            by_cases c63 : t401 = 0
                            · rw [if_pos c63] at H
                              have c63b0 : (t401 == 0) = true := beq_iff_eq.mpr c63
                              have c63b1 : (t401 != 0) = false := bne_eq_false_iff_eq.mpr c63
                              clear c63
                              replace H := Option.bind_eq_some_iff.mp H
                              obtain ⟨⟨t406, t407⟩, A640, H⟩ := H
                              replace H : (if t407 = 0 then ((num_Add.f t406 t402).bind fun bt408 => (if bt408.2 = 0 then (if bt408.1 = a0 then ((hopscotchlaw06_works.f kj35).bind fun t410 => (some t410)) else (some false)) else (some false))) else (some false)) = some r := H
                              have A64 := Aside0.mk A640
                              clear A640
                              by_cases c65 : t407 = 0
                              · rw [if_pos c65] at H
                                have c65b0 : (t407 == 0) = true := beq_iff_eq.mpr c65
                                have c65b1 : (t407 != 0) = false := bne_eq_false_iff_eq.mpr c65
                                clear c65
                                replace H := Option.bind_eq_some_iff.mp H
                                obtain ⟨⟨t408, t409⟩, A660, H⟩ := H
                                replace H : (if t409 = 0 then (if t408 = a0 then ((hopscotchlaw06_works.f kj35).bind fun t410 => (some t410)) else (some false)) else (some false)) = some r := H
                                have A66 := Aside0.mk A660
                                clear A660
                                by_cases c67 : t409 = 0
                                · rw [if_pos c67] at H
                                  have c67b0 : (t409 == 0) = true := beq_iff_eq.mpr c67
                                  have c67b1 : (t409 != 0) = false := bne_eq_false_iff_eq.mpr c67
                                  clear c67
                                  by_cases c68 : t408 = a0
                                  · rw [if_pos c68] at H
                                    have c68b0 : (t408 == a0) = true := beq_iff_eq.mpr c68
                                    have c68b1 : (t408 != a0) = false := bne_eq_false_iff_eq.mpr c68
                                    clear c68
                                    replace H := Option.bind_eq_some_iff.mp H
                                    obtain ⟨t410, A690, H⟩ := H
                                    replace H : (some t410) = some r := H
                                    have A69 := Aside0.mk A690
                                    clear A690
                                    obtain rfl := Option.some.inj H
                                    first
                                    | exact absurd HRT.out (by decide)
                                    | (go_wp2_with (first | ((with_reducible refine gate_callee (f := 19) rfl ?_); refine goesL_ (some 199) rfl rfl Tryd.func19 (by kernel_rfl) rfl #[.int .i64 t400, .int .i64 a1] rfl (by (try simp only [List.map_toArray, List.map_cons, List.map_nil]); first | done | rfl | (simp only [List.length_drop, List.length_take]; rfl)) ?_; (with_reducible refine (num_Mul.calls kj35 t400 a1 t406 t407 _ A64.out).mono ?_); rintro e w' ⟨rfl, ⟨nd, rfl⟩⟩; refine ⟨_, rfl, ?_⟩) | ((with_reducible refine gate_callee (f := 15) rfl ?_); refine goesL_ (some 207) rfl rfl Tryd.func15 (by kernel_rfl) rfl #[.int .i64 t406, .int .i64 t402] rfl (by (try simp only [List.map_toArray, List.map_cons, List.map_nil]); first | done | rfl | (simp only [List.length_drop, List.length_take]; rfl)) ?_; (with_reducible refine (num_Add.calls t406 t402 t408 t409 _ A66.out).mono ?_); rintro e w' ⟨rfl, ⟨nd, rfl⟩⟩; refine ⟨_, rfl, ?_⟩) | (go_at_call 8; (with_reducible refine (hopscotchlaw06_works.calls kj35  t410 _ ?side1 A69.out).mono ?_); (case side1 => exact Glob.of_below hG (by repeat (first | (with_reducible first | exact HB.out | apply below_alloc | apply pw_below_drewN | apply below_drew1) | exact HB.out))); rintro e w70 ⟨rfl, hb⟩; have n0_ := Aside0.mk (below_step (by repeat (first | (with_reducible first | exact HB.out | apply below_alloc | apply pw_below_drewN | apply below_drew1) | exact HB.out)) hb); clear HB; have HB := n0_; clear n0_; (try clear hb); (try clear hb2); (try clear hk); (try clear hi)))
                                       go_ret
                                       exact ⟨by first | rfl | (simp [errW_none, errW_some] <;> rfl) | (simp [*, errW_none, errW_some] <;> rfl), by repeat (first | (with_reducible first | exact HB.out | apply below_alloc | apply pw_below_drewN | apply below_drew1) | exact HB.out)⟩)
                                  · rw [if_neg c68] at H
                                    have c68b0 : (t408 == a0) = false := beq_eq_false_iff_ne.mpr c68
                                    have c68b1 : (t408 != a0) = true := bne_iff_ne.mpr c68
                                    obtain rfl := Option.some.inj H
                                    first
                                    | exact absurd HRT.out (by decide)
                                    | (go_wp2_with (first | ((with_reducible refine gate_callee (f := 19) rfl ?_); refine goesL_ (some 199) rfl rfl Tryd.func19 (by kernel_rfl) rfl #[.int .i64 t400, .int .i64 a1] rfl (by (try simp only [List.map_toArray, List.map_cons, List.map_nil]); first | done | rfl | (simp only [List.length_drop, List.length_take]; rfl)) ?_; (with_reducible refine (num_Mul.calls kj35 t400 a1 t406 t407 _ A64.out).mono ?_); rintro e w' ⟨rfl, ⟨nd, rfl⟩⟩; refine ⟨_, rfl, ?_⟩) | ((with_reducible refine gate_callee (f := 15) rfl ?_); refine goesL_ (some 207) rfl rfl Tryd.func15 (by kernel_rfl) rfl #[.int .i64 t406, .int .i64 t402] rfl (by (try simp only [List.map_toArray, List.map_cons, List.map_nil]); first | done | rfl | (simp only [List.length_drop, List.length_take]; rfl)) ?_; (with_reducible refine (num_Add.calls t406 t402 t408 t409 _ A66.out).mono ?_); rintro e w' ⟨rfl, ⟨nd, rfl⟩⟩; refine ⟨_, rfl, ?_⟩))
                                       go_ret
                                       exact ⟨by first | rfl | (simp [errW_none, errW_some] <;> rfl) | (simp [*, errW_none, errW_some] <;> rfl), by repeat (first | (with_reducible first | exact HB.out | apply below_alloc | apply pw_below_drewN | apply below_drew1) | exact HB.out)⟩)
                                · rw [if_neg c67] at H
                                  have c67b0 : (t409 == 0) = false := beq_eq_false_iff_ne.mpr c67
                                  have c67b1 : (t409 != 0) = true := bne_iff_ne.mpr c67
                                  obtain rfl := Option.some.inj H
                                  first
                                  | exact absurd HRT.out (by decide)
                                  | (go_wp2_with (first | ((with_reducible refine gate_callee (f := 19) rfl ?_); refine goesL_ (some 199) rfl rfl Tryd.func19 (by kernel_rfl) rfl #[.int .i64 t400, .int .i64 a1] rfl (by (try simp only [List.map_toArray, List.map_cons, List.map_nil]); first | done | rfl | (simp only [List.length_drop, List.length_take]; rfl)) ?_; (with_reducible refine (num_Mul.calls kj35 t400 a1 t406 t407 _ A64.out).mono ?_); rintro e w' ⟨rfl, ⟨nd, rfl⟩⟩; refine ⟨_, rfl, ?_⟩) | ((with_reducible refine gate_callee (f := 15) rfl ?_); refine goesL_ (some 207) rfl rfl Tryd.func15 (by kernel_rfl) rfl #[.int .i64 t406, .int .i64 t402] rfl (by (try simp only [List.map_toArray, List.map_cons, List.map_nil]); first | done | rfl | (simp only [List.length_drop, List.length_take]; rfl)) ?_; (with_reducible refine (num_Add.calls t406 t402 t408 t409 _ A66.out).mono ?_); rintro e w' ⟨rfl, ⟨nd, rfl⟩⟩; refine ⟨_, rfl, ?_⟩))
                                     go_ret
                                     exact ⟨by first | rfl | (simp [errW_none, errW_some] <;> rfl) | (simp [*, errW_none, errW_some] <;> rfl), by repeat (first | (with_reducible first | exact HB.out | apply below_alloc | apply pw_below_drewN | apply below_drew1) | exact HB.out)⟩)
                              · rw [if_neg c65] at H
                                have c65b0 : (t407 == 0) = false := beq_eq_false_iff_ne.mpr c65
                                have c65b1 : (t407 != 0) = true := bne_iff_ne.mpr c65
                                obtain rfl := Option.some.inj H
                                first
                                | exact absurd HRT.out (by decide)
                                | (go_wp2_with (first | ((with_reducible refine gate_callee (f := 19) rfl ?_); refine goesL_ (some 199) rfl rfl Tryd.func19 (by kernel_rfl) rfl #[.int .i64 t400, .int .i64 a1] rfl (by (try simp only [List.map_toArray, List.map_cons, List.map_nil]); first | done | rfl | (simp only [List.length_drop, List.length_take]; rfl)) ?_; (with_reducible refine (num_Mul.calls kj35 t400 a1 t406 t407 _ A64.out).mono ?_); rintro e w' ⟨rfl, ⟨nd, rfl⟩⟩; refine ⟨_, rfl, ?_⟩))
                                   go_ret
                                   exact ⟨by first | rfl | (simp [errW_none, errW_some] <;> rfl) | (simp [*, errW_none, errW_some] <;> rfl), by repeat (first | (with_reducible first | exact HB.out | apply below_alloc | apply pw_below_drewN | apply below_drew1) | exact HB.out)⟩)
                            · rw [if_neg c63] at H
                              have c63b0 : (t401 == 0) = false := beq_eq_false_iff_ne.mpr c63
                              have c63b1 : (t401 != 0) = true := bne_iff_ne.mpr c63
                              by_cases c71 : t401 = 60
                              · rw [if_pos c71] at H
                                have c71b0 : (t401 == 60) = true := beq_iff_eq.mpr c71
                                have c71b1 : (t401 != 60) = false := bne_eq_false_iff_eq.mpr c71
                                clear c71
                                by_cases c72 : a0 = (-9223372036854775808)
                                · rw [if_pos c72] at H
                                  have c72b0 : (a0 == (-9223372036854775808)) = true := beq_iff_eq.mpr c72
                                  have c72b1 : (a0 != (-9223372036854775808)) = false := bne_eq_false_iff_eq.mpr c72
                                  clear c72
                                  by_cases c73 : a1 = (-1)
                                  · rw [if_pos c73] at H
                                    have c73b0 : (a1 == (-1)) = true := beq_iff_eq.mpr c73
                                    have c73b1 : (a1 != (-1)) = false := bne_eq_false_iff_eq.mpr c73
                                    clear c73
                                    by_cases c74 : t402 = 0
                                    · rw [if_pos c74] at H
                                      have c74b0 : (t402 == 0) = true := beq_iff_eq.mpr c74
                                      have c74b1 : (t402 != 0) = false := bne_eq_false_iff_eq.mpr c74
                                      clear c74
                                      replace H := Option.bind_eq_some_iff.mp H
                                      obtain ⟨t405, A750, H⟩ := H
                                      replace H : (some t405) = some r := H
                                      have A75 := Aside0.mk A750
                                      clear A750
                                      obtain rfl := Option.some.inj H
                                      first
                                      | exact absurd HRT.out (by decide)
                                      | (go_wp2_with (first | (go_at_call 8; (with_reducible refine (hopscotchlaw06_works.calls kj35  t405 _ ?side1 A75.out).mono ?_); (case side1 => exact Glob.of_below hG (by repeat (first | (with_reducible first | exact HB.out | apply below_alloc | apply pw_below_drewN | apply below_drew1) | exact HB.out))); rintro e w76 ⟨rfl, hb⟩; have n0_ := Aside0.mk (below_step (by repeat (first | (with_reducible first | exact HB.out | apply below_alloc | apply pw_below_drewN | apply below_drew1) | exact HB.out)) hb); clear HB; have HB := n0_; clear n0_; (try clear hb); (try clear hb2); (try clear hk); (try clear hi)))
                                         go_ret
                                         exact ⟨by first | rfl | (simp [errW_none, errW_some] <;> rfl) | (simp [*, errW_none, errW_some] <;> rfl), by repeat (first | (with_reducible first | exact HB.out | apply below_alloc | apply pw_below_drewN | apply below_drew1) | exact HB.out)⟩)
                                    · rw [if_neg c74] at H
                                      have c74b0 : (t402 == 0) = false := beq_eq_false_iff_ne.mpr c74
                                      have c74b1 : (t402 != 0) = true := bne_iff_ne.mpr c74
                                      obtain rfl := Option.some.inj H
                                      first
                                      | exact absurd HRT.out (by decide)
                                      | (go_wp2
                                         go_ret
                                         exact ⟨by first | rfl | (simp [errW_none, errW_some] <;> rfl) | (simp [*, errW_none, errW_some] <;> rfl), by repeat (first | (with_reducible first | exact HB.out | apply below_alloc | apply pw_below_drewN | apply below_drew1) | exact HB.out)⟩)
                                  · rw [if_neg c73] at H
                                    have c73b0 : (a1 == (-1)) = false := beq_eq_false_iff_ne.mpr c73
                                    have c73b1 : (a1 != (-1)) = true := bne_iff_ne.mpr c73
                                    obtain rfl := Option.some.inj H
                                    first
                                    | exact absurd HRT.out (by decide)
                                    | (go_wp2
                                       go_ret
                                       exact ⟨by first | rfl | (simp [errW_none, errW_some] <;> rfl) | (simp [*, errW_none, errW_some] <;> rfl), by repeat (first | (with_reducible first | exact HB.out | apply below_alloc | apply pw_below_drewN | apply below_drew1) | exact HB.out)⟩)
                                · rw [if_neg c72] at H
                                  have c72b0 : (a0 == (-9223372036854775808)) = false := beq_eq_false_iff_ne.mpr c72
                                  have c72b1 : (a0 != (-9223372036854775808)) = true := bne_iff_ne.mpr c72
                                  obtain rfl := Option.some.inj H
                                  first
                                  | exact absurd HRT.out (by decide)
                                  | (go_wp2
                                     go_ret
                                     exact ⟨by first | rfl | (simp [errW_none, errW_some] <;> rfl) | (simp [*, errW_none, errW_some] <;> rfl), by repeat (first | (with_reducible first | exact HB.out | apply below_alloc | apply pw_below_drewN | apply below_drew1) | exact HB.out)⟩)
                              · rw [if_neg c71] at H
                                have c71b0 : (t401 == 60) = false := beq_eq_false_iff_ne.mpr c71
                                have c71b1 : (t401 != 60) = true := bne_iff_ne.mpr c71
                                obtain rfl := Option.some.inj H
                                first
                                | exact absurd HRT.out (by decide)
                                | (go_wp2
                                   go_ret
                                   exact ⟨by first | rfl | (simp [errW_none, errW_some] <;> rfl) | (simp [*, errW_none, errW_some] <;> rfl), by repeat (first | (with_reducible first | exact HB.out | apply below_alloc | apply pw_below_drewN | apply below_drew1) | exact HB.out)⟩)
end Go.Proofs.YtebekjenmoijhaaDoor.PM
