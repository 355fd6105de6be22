/- A text of the claim, with what no other text of it needs taken out. -/
import Derived.Test.YtpknhgejnfmijaaGreatDoorPC0
import Derived.Test.YtpknhgejnfmijaaGreatDoorPC2
import Derived.Test.YtpknhgejnfmijaaGreatDoorPC4
import Derived.Test.YtpknhgejnfmijaaGreatDoorPC13
namespace Go.Proofs.YtpknhgejnfmijaaGreatDoor.PC
open Go.Proofs.YtpknhgejnfmijaaGreatDoor.K
open Go.RowKit Go.Proofs.YtpknhgejnfmijaaGreatDoorW.PrintWords Go.Proofs.YtpknhgejnfmijaaGreatDoorW.PrintLast Go.Proofs.YtpknhgejnfmijaaGreatDoorW.PrintMore
attribute [local go_sem] max2_int min2_int max_two min_two max_three min_three max_four min_four
set_option linter.unusedVariables false
set_option linter.unusedSimpArgs false
def w4_TokenJoins.j0 : Nat → ByteArray → ByteArray → Bool → Option (Bool)
 | 0, _, _, _ => none
 | k + 1, x0, x1, x52 => if x52 = true then ((w4_works.f k).bind fun t316 => (some t316)) else ((X.token_Tokens.f x0).bind fun bt317 => (if bt317.2.2 = 0 then ((X.token_Tokens.f x1).bind fun bt323 => (if x0.size + x1.size ≤ 9223372036854775807 then ((X.token_Tokens.f (x0 ++ x1)).bind fun bt328 => (if bt323.2.2 = 0 then (if bt328.2.2 = 0 then (if bt328.2.1 = 0 then (if (bt328.1.length : Int) = (wrap64 ((bt317.1.length : Int) + (bt323.1.length : Int))) then (if 0 ≤ (bt317.1.length : Int) then (if (bt317.1.length : Int) ≤ (bt328.1.length : Int) then ((w4_same.f k (bt328.1.take ((bt317.1.length : Int) : Int).toNat) bt317.1 0).bind fun t337 => (if t337 = true then ((w4_same.f k (bt328.1.drop ((bt317.1.length : Int) : Int).toNat) bt323.1 (x0.size : Int)).bind fun t342 => (if t342 = true then ((w4_works.f k).bind fun t343 => (some t343)) else (some false))) else (some false))) else (none)) else (none)) else (some false)) else (some false)) else (some false)) else (if (bt328.1.length : Int) = 0 then (if bt328.2.2 = bt323.2.2 then (if bt328.2.1 = (wrap64 ((x0.size : Int) + bt323.2.1)) then ((w4_works.f k).bind fun t344 => (some t344)) else (some false)) else (some false)) else (some false)))) else (none))) else ((w4_works.f k).bind fun t322 => (some t322))))
def w4_TokenJoins.f (k : Nat) (a0 : ByteArray) (a1 : ByteArray) : Option (Bool) := (r1_Valid.f k a0).bind fun bt312 => ((r1_Valid.f k a1).bind fun bt314 => (if (a0.size : Int) > 400 then (w4_TokenJoins.j0 k a0 a1 true) else (if (a1.size : Int) > 400 then (w4_TokenJoins.j0 k a0 a1 true) else (if a1.toList = ([] : List UInt8) then (w4_TokenJoins.j0 k a0 a1 true) else (if 0 < (a1.size : Int) then (if (bt a1 0) = 60 then (if bt312.2 = 0 then (w4_TokenJoins.j0 k a0 a1 (bt314.2 != 0)) else (w4_TokenJoins.j0 k a0 a1 true)) else (w4_TokenJoins.j0 k a0 a1 true)) else (none))))))
theorem w4_TokenJoins.mono_l : ∀ k, (∀ y0 y1 y2, LeO (w4_TokenJoins.j0 k y0 y1 y2) (w4_TokenJoins.j0 (k + 1) y0 y1 y2))
 | 0 => fun _ _ _ r h => by simp [w4_TokenJoins.j0] at h
 | k + 1 => by
  have ih0 := w4_TokenJoins.mono_l k
  ·intro y0 y1 y2
   unfold w4_TokenJoins.j0
   repeat' first
   | (with_reducible exact ih0 _ _ _)
   | (with_reducible exact w4_same.mono _ _ _ _)
   | (with_reducible exact w4_works.mono _)
   | (with_reducible exact r1_Valid.mono _ _)
   | (with_reducible exact LeO.refl _)
   | (with_reducible exact LeO.none _)
   | (with_reducible refine LeO.ite ?_ ?_)
   | (with_reducible refine LeO.bind ?_ (fun _ => ?_))
   | exact ih0 _ _ _
   | exact w4_same.mono _ _ _ _
   | exact w4_works.mono _
   | exact r1_Valid.mono _ _
   | exact LeO.none _
   | refine LeO.ite ?_ ?_
   | refine LeO.bind ?_ (fun _ => ?_)
set_option maxHeartbeats 8000000 in
set_option maxRecDepth 100000 in
theorem w4_TokenJoins.calls_t (k : Nat) (a0 : ByteArray) (a1 : ByteArray) (r : Bool) (w : World) (hG : Glob w) (HRT : Aside0 (r = true)) (h : w4_TokenJoins.f k a0 a1 = some r) :
  Calls Tryz.prog 5 #[.string a0, .string a1] w fun e w' => e = .returned (.bool r) ∧ Below w.heap.size w w' := by
 have HB := Aside0.mk (Below.refl w.heap.size w)
 have H : ((r1_Valid.f k a0).bind fun bt312 => ((r1_Valid.f k a1).bind fun bt314 => (if (a0.size : Int) > 400 then (w4_TokenJoins.j0 k a0 a1 true) else (if (a1.size : Int) > 400 then (w4_TokenJoins.j0 k a0 a1 true) else (if a1.toList = ([] : List UInt8) then (w4_TokenJoins.j0 k a0 a1 true) else (if 0 < (a1.size : Int) then (if (bt a1 0) = 60 then (if bt312.2 = 0 then (w4_TokenJoins.j0 k a0 a1 (bt314.2 != 0)) else (w4_TokenJoins.j0 k a0 a1 true)) else (w4_TokenJoins.j0 k a0 a1 true)) else (none))))))) = some r := h
 clear h
 replace H := Option.bind_eq_some_iff.mp H
 obtain ⟨⟨t312, t313⟩, A30, H⟩ := H
 replace H : ((r1_Valid.f k a1).bind fun bt314 => (if (a0.size : Int) > 400 then (w4_TokenJoins.j0 k a0 a1 true) else (if (a1.size : Int) > 400 then (w4_TokenJoins.j0 k a0 a1 true) else (if a1.toList = ([] : List UInt8) then (w4_TokenJoins.j0 k a0 a1 true) else (if 0 < (a1.size : Int) then (if (bt a1 0) = 60 then (if t313 = 0 then (w4_TokenJoins.j0 k a0 a1 (bt314.2 != 0)) else (w4_TokenJoins.j0 k a0 a1 true)) else (w4_TokenJoins.j0 k a0 a1 true)) else (none)))))) = some r := H
 have A3 := Aside0.mk A30
 clear A30
 replace H := Option.bind_eq_some_iff.mp H
 obtain ⟨⟨t314, t315⟩, A40, H⟩ := H
 replace H : (if (a0.size : Int) > 400 then (w4_TokenJoins.j0 k a0 a1 true) else (if (a1.size : Int) > 400 then (w4_TokenJoins.j0 k a0 a1 true) else (if a1.toList = ([] : List UInt8) then (w4_TokenJoins.j0 k a0 a1 true) else (if 0 < (a1.size : Int) then (if (bt a1 0) = 60 then (if t313 = 0 then (w4_TokenJoins.j0 k a0 a1 (t315 != 0)) else (w4_TokenJoins.j0 k a0 a1 true)) else (w4_TokenJoins.j0 k a0 a1 true)) else (none))))) = some r := H
 have A4 := Aside0.mk A40
 clear A40
 have HC5 := Aside0.mk H
 clear H
 go_enter Tryz.func5, Tryz.ntmps5
 go_upto_region 3 with (first | ((with_reducible refine gate_callee (f := 15) rfl ?_); refine goesL_ (some 20) rfl rfl Tryz.func15 (by kernel_rfl) rfl #[.string a0] rfl (by (try simp only [List.map_toArray, List.map_cons, List.map_nil]); first | done | rfl | (simp only [List.length_drop, List.length_take]; rfl)) ?_; (with_reducible refine (r1_Valid.calls k a0 t312 t313 _ A3.out).mono ?_); rintro e w6 ⟨rfl, hb⟩; refine ⟨_, rfl, ?_⟩; have n0_ := Aside0.mk (below_step (by repeat (first | (with_reducible first | exact HB.out | apply below_alloc | apply pw_below_drewN | apply below_drew1) | exact HB.out)) hb); clear HB; have HB := n0_; clear n0_; (try clear hb); (try clear hb2); (try clear hk); (try clear hi)) | ((with_reducible refine gate_callee (f := 15) rfl ?_); refine goesL_ (some 25) rfl rfl Tryz.func15 (by kernel_rfl) rfl #[.string a1] rfl (by (try simp only [List.map_toArray, List.map_cons, List.map_nil]); first | done | rfl | (simp only [List.length_drop, List.length_take]; rfl)) ?_; (with_reducible refine (r1_Valid.calls k a1 t314 t315 _ A4.out).mono ?_); rintro e w7 ⟨rfl, hb⟩; refine ⟨_, rfl, ?_⟩; have n0_ := Aside0.mk (below_step (by repeat (first | (with_reducible first | exact HB.out | apply below_alloc | apply pw_below_drewN | apply below_drew1) | exact HB.out)) hb); clear HB; have HB := n0_; clear n0_; (try clear hb); (try clear hb2); (try clear hk); (try clear hi)))
 (try simp only [Act.put, List.setIfInBounds_toArray, List.set_cons_zero, List.set_cons_succ])
 go_cut [52] (fun v52 wc => ∃ (kq : Nat) (x52_4 : Bool), v52 = .bool x52_4 ∧ Aside0 (w4_TokenJoins.j0 kq a0 a1 x52_4 = some r) ∧ Aside0 (kq ≤ k) ∧ Aside0 (Below w.heap.size w wc))
 case first =>
  have H := HC5.out
  clear HC5
  by_cases c8 : (a0.size : Int) > 400
  ·rw [if_pos c8] at H
   have c8b0 : decide (400 < (a0.size : Int)) = true := decide_eq_true c8
   have c8b1 : decide (400 < a0.size) = true := decide_eq_true (by omega)
   clear c8
   (first | rw [c8b0] | (simp only [i64_w, i32_w]; rw [c8b0]) | skip)
   have H' := Aside0.mk H
   clear H
   go_wp2
   go_meet
   case rel => exact ⟨_, (true), (by first | rfl | (simp; done) | (simp [*]; done) | (simp [bne, show ∀ l_ : List UInt8, (l_ == []) = l_.isEmpty from fun l_ => by cases l_ <;> rfl]; done)), H', ⟨by first | omega | exact Nat.le_refl _⟩, ⟨by repeat (first | (with_reducible first | exact HB.out | apply below_alloc | apply pw_below_drewN | apply below_drew1) | exact HB.out)⟩⟩
  ·rw [if_neg c8] at H
   have c8b0 : decide (400 < (a0.size : Int)) = false := decide_eq_false c8
   have c8b1 : decide (400 < a0.size) = false := decide_eq_false (by omega)
   clear c8
   (first | rw [c8b0] | (simp only [i64_w, i32_w]; rw [c8b0]) | skip)
   by_cases c9 : (a1.size : Int) > 400
   ·rw [if_pos c9] at H
    have c9b0 : decide (400 < (a1.size : Int)) = true := decide_eq_true c9
    have c9b1 : decide (400 < a1.size) = true := decide_eq_true (by omega)
    clear c9
    have H' := Aside0.mk H
    clear H
    go_wp2
    go_meet
    case rel => exact ⟨_, (true), (by first | rfl | (simp; done) | (simp [*]; done) | (simp [bne, show ∀ l_ : List UInt8, (l_ == []) = l_.isEmpty from fun l_ => by cases l_ <;> rfl]; done)), H', ⟨by first | omega | exact Nat.le_refl _⟩, ⟨by repeat (first | (with_reducible first | exact HB.out | apply below_alloc | apply pw_below_drewN | apply below_drew1) | exact HB.out)⟩⟩
   ·rw [if_neg c9] at H
    have c9b0 : decide (400 < (a1.size : Int)) = false := decide_eq_false c9
    have c9b1 : decide (400 < a1.size) = false := decide_eq_false (by omega)
    clear c9
    by_cases c10 : a1.toList = ([] : List UInt8)
    ·rw [if_pos c10] at H
     have c10b0 : (a1.toList == ([] : List UInt8)) = true := beq_iff_eq.mpr c10
     have c10b1 : (a1.toList != ([] : List UInt8)) = false := bne_eq_false_iff_eq.mpr c10
     clear c10
     have H' := Aside0.mk H
     clear H
     go_wp2
     go_meet
     case rel => exact ⟨_, (true), (by first | rfl | (simp; done) | (simp [*]; done) | (simp [bne, show ∀ l_ : List UInt8, (l_ == []) = l_.isEmpty from fun l_ => by cases l_ <;> rfl]; done)), H', ⟨by first | omega | exact Nat.le_refl _⟩, ⟨by repeat (first | (with_reducible first | exact HB.out | apply below_alloc | apply pw_below_drewN | apply below_drew1) | exact HB.out)⟩⟩
    ·rw [if_neg c10] at H
     have c10b0 : (a1.toList == ([] : List UInt8)) = false := beq_eq_false_iff_ne.mpr c10
     have c10b1 : (a1.toList != ([] : List UInt8)) = true := bne_iff_ne.mpr c10
     by_cases c11 : 0 < (a1.size : Int)
     ·rw [if_pos c11] at H
      have c11b0 : decide (0 < (a1.size : Int)) = true := decide_eq_true c11
      have c11b1 : decide (0 < a1.size) = true := decide_eq_true (by omega)
      clear c11
      by_cases c13 : (bt a1 0) = 60
      ·rw [if_pos c13] at H
       have c13b0 : ((bt a1 0) == 60) = true := beq_iff_eq.mpr c13
       have c13b1 : ((bt a1 0) != 60) = false := bne_eq_false_iff_eq.mpr c13
       clear c13
       by_cases c14 : t313 = 0
       ·rw [if_pos c14] at H
        have c14b0 : (t313 == 0) = true := beq_iff_eq.mpr c14
        have c14b1 : (t313 != 0) = false := bne_eq_false_iff_eq.mpr c14
        clear c14
        have H' := Aside0.mk H
        clear H
        have p12 : 0 ≤ (0 : Int) := (by omega)
        have q12 : 0 < a1.size := (by have : (0 : Int) < (a1.size : Int) := of_decide_eq_true (by assumption); omega)
        have hx12 : ∀ h : 0 < a1.size, ((a1[0]'h).toNat : Int) = bt a1 0 := bt_at a1 0
        clear p12
        have qi12 : (0 < (a1.size : Int)) = True := eq_true (of_decide_eq_true (by assumption))
        replace q12 := eq_true q12
        go_wp2
        go_meet
        case rel => exact ⟨_, ((t315 != 0)), (by first | rfl | (simp; done) | (simp [*]; done) | (simp [bne, show ∀ l_ : List UInt8, (l_ == []) = l_.isEmpty from fun l_ => by cases l_ <;> rfl]; done)), H', ⟨by first | omega | exact Nat.le_refl _⟩, ⟨by repeat (first | (with_reducible first | exact HB.out | apply below_alloc | apply pw_below_drewN | apply below_drew1) | exact HB.out)⟩⟩
       ·rw [if_neg c14] at H
        have c14b0 : (t313 == 0) = false := beq_eq_false_iff_ne.mpr c14
        have c14b1 : (t313 != 0) = true := bne_iff_ne.mpr c14
        have H' := Aside0.mk H
        clear H
        have p12 : 0 ≤ (0 : Int) := (by omega)
        have q12 : 0 < a1.size := (by have : (0 : Int) < (a1.size : Int) := of_decide_eq_true (by assumption); omega)
        have hx12 : ∀ h : 0 < a1.size, ((a1[0]'h).toNat : Int) = bt a1 0 := bt_at a1 0
        clear p12
        have qi12 : (0 < (a1.size : Int)) = True := eq_true (of_decide_eq_true (by assumption))
        replace q12 := eq_true q12
        go_wp2
        go_meet
        case rel => exact ⟨_, (true), (by first | rfl | (simp; done) | (simp [*]; done) | (simp [bne, show ∀ l_ : List UInt8, (l_ == []) = l_.isEmpty from fun l_ => by cases l_ <;> rfl]; done)), H', ⟨by first | omega | exact Nat.le_refl _⟩, ⟨by repeat (first | (with_reducible first | exact HB.out | apply below_alloc | apply pw_below_drewN | apply below_drew1) | exact HB.out)⟩⟩
      ·rw [if_neg c13] at H
       have c13b0 : ((bt a1 0) == 60) = false := beq_eq_false_iff_ne.mpr c13
       have c13b1 : ((bt a1 0) != 60) = true := bne_iff_ne.mpr c13
       have H' := Aside0.mk H
       clear H
       have p12 : 0 ≤ (0 : Int) := (by omega)
       have q12 : 0 < a1.size := (by have : (0 : Int) < (a1.size : Int) := of_decide_eq_true (by assumption); omega)
       have hx12 : ∀ h : 0 < a1.size, ((a1[0]'h).toNat : Int) = bt a1 0 := bt_at a1 0
       clear p12
       have qi12 : (0 < (a1.size : Int)) = True := eq_true (of_decide_eq_true (by assumption))
       replace q12 := eq_true q12
       go_wp2
       go_meet
       case rel => exact ⟨_, (true), (by first | rfl | (simp; done) | (simp [*]; done) | (simp [bne, show ∀ l_ : List UInt8, (l_ == []) = l_.isEmpty from fun l_ => by cases l_ <;> rfl]; done)), H', ⟨by first | omega | exact Nat.le_refl _⟩, ⟨by repeat (first | (with_reducible first | exact HB.out | apply below_alloc | apply pw_below_drewN | apply below_drew1) | exact HB.out)⟩⟩
     ·rw [if_neg c11] at H
      exact absurd H (by simp)
 case rest =>
  clear HC5
  try clear c1
  try clear p1
  try clear q1
  try clear hx1
  try clear qi1
  try clear p2
  try clear c5
  try clear c8
  try clear c8b0
  try clear c8b1
  try clear c9
  try clear c9b0
  try clear c9b1
  try clear c10
  try clear c10b0
  try clear c10b1
  try clear c11
  try clear c11b0
  try clear c11b1
  try clear p12
  try clear q12
  try clear hx12
  try clear qi12
  try clear c13
  try clear c13b0
  try clear c13b1
  try clear c14
  try clear c14b0
  try clear c14b1
  try clear p12
  try clear q12
  obtain ⟨kq, x52_4, rfl, HA, HJ4, HB⟩ := hcut
  cases kq with
  | zero => exact absurd HA.out (by simp [w4_TokenJoins.j0])
  | succ kj4 =>
   have H := HA.out
   clear HA
   simp only [w4_TokenJoins.j0] at H
   by_cases c15 : x52_4 = true
   ·subst c15
    have H1 : ((w4_works.f kj4).bind fun t316 => (some t316)) = some r := by rw [if_pos rfl] at H; exact H
    clear H
    have H := H1
    clear H1
    replace H := Option.bind_eq_some_iff.mp H
    obtain ⟨t316, A160, H⟩ := H
    replace H : (some t316) = some r := H
    have A16 := Aside0.mk A160
    clear A160
    obtain rfl := Option.some.inj H
    go_wp2_with (first | ((with_reducible refine gate_callee (f := 7) rfl ?_); refine goesL_ (some 53) rfl rfl Tryz.func7 (by kernel_rfl) rfl #[] rfl (by (try simp only [List.map_toArray, List.map_cons, List.map_nil]); first | done | rfl | (simp only [List.length_drop, List.length_take]; rfl)) ?_; (with_reducible refine (w4_works.calls kj4  t316 _ ?side1 A16.out).mono ?_); (case side1 => exact Glob.of_below hG (by repeat (first | (with_reducible first | exact HB.out | apply below_alloc | apply pw_below_drewN | apply below_drew1) | exact HB.out))); rintro e w17 ⟨rfl, hb⟩; refine ⟨_, rfl, ?_⟩; have n0_ := Aside0.mk (below_step (by repeat (first | (with_reducible first | exact HB.out | apply below_alloc | apply pw_below_drewN | apply below_drew1) | exact HB.out)) hb); clear HB; have HB := n0_; clear n0_; (try clear hb); (try clear hb2); (try clear hk); (try clear hi)))
    go_ret
    exact ⟨by first | rfl | (simp [errW_none, errW_some] <;> rfl) | (simp [*, errW_none, errW_some] <;> rfl), by repeat (first | (with_reducible first | exact HB.out | apply below_alloc | apply pw_below_drewN | apply below_drew1) | exact HB.out)⟩
   ·replace c15 := Bool.eq_false_iff.mpr c15
    subst c15
    have H1 : ((X.token_Tokens.f a0).bind fun bt317 => (if bt317.2.2 = 0 then ((X.token_Tokens.f a1).bind fun bt323 => (if a0.size + a1.size ≤ 9223372036854775807 then ((X.token_Tokens.f (a0 ++ a1)).bind fun bt328 => (if bt323.2.2 = 0 then (if bt328.2.2 = 0 then (if bt328.2.1 = 0 then (if (bt328.1.length : Int) = (wrap64 ((bt317.1.length : Int) + (bt323.1.length : Int))) then (if 0 ≤ (bt317.1.length : Int) then (if (bt317.1.length : Int) ≤ (bt328.1.length : Int) then ((w4_same.f kj4 (bt328.1.take ((bt317.1.length : Int) : Int).toNat) bt317.1 0).bind fun t337 => (if t337 = true then ((w4_same.f kj4 (bt328.1.drop ((bt317.1.length : Int) : Int).toNat) bt323.1 (a0.size : Int)).bind fun t342 => (if t342 = true then ((w4_works.f kj4).bind fun t343 => (some t343)) else (some false))) else (some false))) else (none)) else (none)) else (some false)) else (some false)) else (some false)) else (if (bt328.1.length : Int) = 0 then (if bt328.2.2 = bt323.2.2 then (if bt328.2.1 = (wrap64 ((a0.size : Int) + bt323.2.1)) then ((w4_works.f kj4).bind fun t344 => (some t344)) else (some false)) else (some false)) else (some false)))) else (none))) else ((w4_works.f kj4).bind fun t322 => (some t322)))) = some r := by rw [if_neg (show ¬ (false = true) by decide)] at H; exact H
    clear H
    have H := H1
    clear H1
    replace H := Option.bind_eq_some_iff.mp H
    obtain ⟨⟨t317, t318, t319⟩, A180, H⟩ := H
    replace H : (if t319 = 0 then ((X.token_Tokens.f a1).bind fun bt323 => (if a0.size + a1.size ≤ 9223372036854775807 then ((X.token_Tokens.f (a0 ++ a1)).bind fun bt328 => (if bt323.2.2 = 0 then (if bt328.2.2 = 0 then (if bt328.2.1 = 0 then (if (bt328.1.length : Int) = (wrap64 ((t317.length : Int) + (bt323.1.length : Int))) then (if 0 ≤ (t317.length : Int) then (if (t317.length : Int) ≤ (bt328.1.length : Int) then ((w4_same.f kj4 (bt328.1.take ((t317.length : Int) : Int).toNat) t317 0).bind fun t337 => (if t337 = true then ((w4_same.f kj4 (bt328.1.drop ((t317.length : Int) : Int).toNat) bt323.1 (a0.size : Int)).bind fun t342 => (if t342 = true then ((w4_works.f kj4).bind fun t343 => (some t343)) else (some false))) else (some false))) else (none)) else (none)) else (some false)) else (some false)) else (some false)) else (if (bt328.1.length : Int) = 0 then (if bt328.2.2 = bt323.2.2 then (if bt328.2.1 = (wrap64 ((a0.size : Int) + bt323.2.1)) then ((w4_works.f kj4).bind fun t344 => (some t344)) else (some false)) else (some false)) else (some false)))) else (none))) else ((w4_works.f kj4).bind fun t322 => (some t322))) = some r := H
    have A18 := Aside0.mk A180
    clear A180
    by_cases c19 : t319 = 0
    ·rw [if_pos c19] at H
     have c19b0 : (t319 == 0) = true := beq_iff_eq.mpr c19
     have c19b1 : (t319 != 0) = false := bne_eq_false_iff_eq.mpr c19
     clear c19
     replace H := Option.bind_eq_some_iff.mp H
     obtain ⟨⟨t323, t324, t325⟩, A200, H⟩ := H
     replace H : (if a0.size + a1.size ≤ 9223372036854775807 then ((X.token_Tokens.f (a0 ++ a1)).bind fun bt328 => (if t325 = 0 then (if bt328.2.2 = 0 then (if bt328.2.1 = 0 then (if (bt328.1.length : Int) = (wrap64 ((t317.length : Int) + (t323.length : Int))) then (if 0 ≤ (t317.length : Int) then (if (t317.length : Int) ≤ (bt328.1.length : Int) then ((w4_same.f kj4 (bt328.1.take ((t317.length : Int) : Int).toNat) t317 0).bind fun t337 => (if t337 = true then ((w4_same.f kj4 (bt328.1.drop ((t317.length : Int) : Int).toNat) t323 (a0.size : Int)).bind fun t342 => (if t342 = true then ((w4_works.f kj4).bind fun t343 => (some t343)) else (some false))) else (some false))) else (none)) else (none)) else (some false)) else (some false)) else (some false)) else (if (bt328.1.length : Int) = 0 then (if bt328.2.2 = t325 then (if bt328.2.1 = (wrap64 ((a0.size : Int) + t324)) then ((w4_works.f kj4).bind fun t344 => (some t344)) else (some false)) else (some false)) else (some false)))) else (none)) = some r := H
     have A20 := Aside0.mk A200
     clear A200
     by_cases c21 : a0.size + a1.size ≤ 9223372036854775807
     ·rw [if_pos c21] at H
      have c21b0 := eq_true c21
      have c21b1 : decide (a0.size + a1.size ≤ 9223372036854775807) = true := decide_eq_true c21
      try have c21b2 : (9223372036854775807 < a0.size + a1.size) = False := eq_false (Nat.not_lt.2 c21)
      replace H := Option.bind_eq_some_iff.mp H
      obtain ⟨⟨t328, t329, t330⟩, A220, H⟩ := H
      replace H : (if t325 = 0 then (if t330 = 0 then (if t329 = 0 then (if (t328.length : Int) = (wrap64 ((t317.length : Int) + (t323.length : Int))) then (if 0 ≤ (t317.length : Int) then (if (t317.length : Int) ≤ (t328.length : Int) then ((w4_same.f kj4 (t328.take ((t317.length : Int) : Int).toNat) t317 0).bind fun t337 => (if t337 = true then ((w4_same.f kj4 (t328.drop ((t317.length : Int) : Int).toNat) t323 (a0.size : Int)).bind fun t342 => (if t342 = true then ((w4_works.f kj4).bind fun t343 => (some t343)) else (some false))) else (some false))) else (none)) else (none)) else (some false)) else (some false)) else (some false)) else (if (t328.length : Int) = 0 then (if t330 = t325 then (if t329 = (wrap64 ((a0.size : Int) + t324)) then ((w4_works.f kj4).bind fun t344 => (some t344)) else (some false)) else (some false)) else (some false))) = some r := H
      have A22 := Aside0.mk A220
      clear A220
      by_cases c23 : t325 = 0
      ·rw [if_pos c23] at H
       have c23b0 : (t325 == 0) = true := beq_iff_eq.mpr c23
       have c23b1 : (t325 != 0) = false := bne_eq_false_iff_eq.mpr c23
       clear c23
       by_cases c24 : t330 = 0
       ·rw [if_pos c24] at H
        have c24b0 : (t330 == 0) = true := beq_iff_eq.mpr c24
        have c24b1 : (t330 != 0) = false := bne_eq_false_iff_eq.mpr c24
        clear c24
        by_cases c25 : t329 = 0
        ·rw [if_pos c25] at H
         have c25b0 : (t329 == 0) = true := beq_iff_eq.mpr c25
         have c25b1 : (t329 != 0) = false := bne_eq_false_iff_eq.mpr c25
         clear c25
         by_cases c26 : (t328.length : Int) = (wrap64 ((t317.length : Int) + (t323.length : Int)))
         ·rw [if_pos c26] at H
          have c26b0 : ((t328.length : Int) == (wrap64 ((t317.length : Int) + (t323.length : Int)))) = true := beq_iff_eq.mpr c26
          have c26b1 : ((t328.length : Int) != (wrap64 ((t317.length : Int) + (t323.length : Int)))) = false := bne_eq_false_iff_eq.mpr c26
          clear c26
          by_cases c27 : 0 ≤ (t317.length : Int)
          ·rw [if_pos c27] at H
           have c27b0 := eq_true c27
           have c27b1 : decide (0 ≤ (t317.length : Int)) = true := decide_eq_true c27
           clear c27
           by_cases c28 : (t317.length : Int) ≤ (t328.length : Int)
           ·rw [if_pos c28] at H
            have c28b0 := eq_true c28
            have c28b1 : decide ((t317.length : Int) ≤ (t328.length : Int)) = true := decide_eq_true c28
            clear c28
            obtain ⟨y333, hy333⟩ : ∃ y_ : List (S33), y_ = (t328.take ((t317.length : Int) : Int).toNat) := ⟨_, rfl⟩
            replace H : ((w4_same.f kj4 y333 t317 0).bind fun t337 => (if t337 = true then ((w4_same.f kj4 (t328.drop ((t317.length : Int) : Int).toNat) t323 (a0.size : Int)).bind fun t342 => (if t342 = true then ((w4_works.f kj4).bind fun t343 => (some t343)) else (some false))) else (some false))) = some r := by first | (rw [hy333]; with_reducible exact H) | (have H2_ := (Option.bind_some _ _).symm.trans H; rw [hy333]; with_reducible exact H2_) | (have H2_ := (Option.bind_some _ _).symm.trans H; with_reducible exact H2_) | with_reducible exact H | (rw [hy333]; exact H) | exact H
            have Ny333 := Aside0.mk hy333
            clear hy333
            replace H := Option.bind_eq_some_iff.mp H
            obtain ⟨t337, A290, H⟩ := H
            replace H : (if t337 = true then ((w4_same.f kj4 (t328.drop ((t317.length : Int) : Int).toNat) t323 (a0.size : Int)).bind fun t342 => (if t342 = true then ((w4_works.f kj4).bind fun t343 => (some t343)) else (some false))) else (some false)) = some r := H
            have A29 := Aside0.mk A290
            clear A290
            by_cases c30 : t337 = true
            ·subst c30
             have H1 : ((w4_same.f kj4 (t328.drop ((t317.length : Int) : Int).toNat) t323 (a0.size : Int)).bind fun t342 => (if t342 = true then ((w4_works.f kj4).bind fun t343 => (some t343)) else (some false))) = some r := by rw [if_pos rfl] at H; exact H
             clear H
             have H := H1
             clear H1
             have c31b0 := eq_true (of_decide_eq_true (by assumption) : 0 ≤ (t317.length : Int))
             have c32b0 := eq_true (of_decide_eq_true (by assumption) : (t317.length : Int) ≤ (t328.length : Int))
             obtain ⟨y338, hy338⟩ : ∃ y_ : List (S33), y_ = (t328.drop ((t317.length : Int) : Int).toNat) := ⟨_, rfl⟩
             replace H : ((w4_same.f kj4 y338 t323 (a0.size : Int)).bind fun t342 => (if t342 = true then ((w4_works.f kj4).bind fun t343 => (some t343)) else (some false))) = some r := by first | (rw [hy338]; with_reducible exact H) | (have H2_ := (Option.bind_some _ _).symm.trans H; rw [hy338]; with_reducible exact H2_) | (have H2_ := (Option.bind_some _ _).symm.trans H; with_reducible exact H2_) | with_reducible exact H | (rw [hy338]; exact H) | exact H
             have Ny338 := Aside0.mk hy338
             clear hy338
             replace H := Option.bind_eq_some_iff.mp H
             obtain ⟨t342, A330, H⟩ := H
             replace H : (if t342 = true then ((w4_works.f kj4).bind fun t343 => (some t343)) else (some false)) = some r := H
             have A33 := Aside0.mk A330
             clear A330
             by_cases c34 : t342 = true
             ·subst c34
              have H1 : ((w4_works.f kj4).bind fun t343 => (some t343)) = some r := by rw [if_pos rfl] at H; exact H
              clear H
              have H := H1
              clear H1
              replace H := Option.bind_eq_some_iff.mp H
              obtain ⟨t343, A350, H⟩ := H
              replace H : (some t343) = some r := H
              have A35 := Aside0.mk A350
              clear A350
              obtain rfl := Option.some.inj H
              go_wp2_with (first | ((with_reducible refine gate_callee (f := 9) rfl ?_); refine goesL_ (some 56) rfl rfl Tryz.func9 (by kernel_rfl) rfl #[.string a0] rfl (by (try simp only [List.map_toArray, List.map_cons, List.map_nil]); first | done | rfl | (simp only [List.length_drop, List.length_take]; rfl)) ?_; (with_reducible refine (X.token_Tokens.calls a0 t317 t318 t319 _ ?side1 A18.out).mono ?_); (case side1 => exact Glob.of_below hG (by repeat (first | (with_reducible first | exact HB.out | apply below_alloc | apply pw_below_drewN | apply below_drew1) | exact HB.out))); rintro e w36 ⟨v320, rfl, ho0, hb⟩; refine ⟨_, rfl, ?_⟩; have n0_ := Aside0.mk (Kd.S_lower ho0 (below_size (by repeat (first | (with_reducible first | exact HB.out | apply below_alloc | apply pw_below_drewN | apply below_drew1) | exact HB.out)))); have n1_ := Aside0.mk (below_step (by repeat (first | (with_reducible first | exact HB.out | apply below_alloc | apply pw_below_drewN | apply below_drew1) | exact HB.out)) hb); clear HB; have HO321 := n0_; have HB := n1_; clear n0_ n1_; (try clear hb); (try clear hb2); (try clear hk); (try clear hi); (try clear ho0)) | ((with_reducible refine gate_callee (f := 9) rfl ?_); refine goesL_ (some 65) rfl rfl Tryz.func9 (by kernel_rfl) rfl #[.string a1] rfl (by (try simp only [List.map_toArray, List.map_cons, List.map_nil]); first | done | rfl | (simp only [List.length_drop, List.length_take]; rfl)) ?_; (with_reducible refine (X.token_Tokens.calls a1 t323 t324 t325 _ ?side1 A20.out).mono ?_); (case side1 => exact Glob.of_below hG (by repeat (first | (with_reducible first | exact HB.out | apply below_alloc | apply pw_below_drewN | apply below_drew1) | exact HB.out))); rintro e w37 ⟨v326, rfl, ho0, hb⟩; refine ⟨_, rfl, ?_⟩; have n0_ := Aside0.mk (Kd.S_elder' (by (with_reducible repeat (first | apply Kd.S_alloc | apply Kd.S_drewN | apply Kd.S_drew)); exact HO321.out) (Kd.S_base ho0) hb); have n1_ := Aside0.mk (Kd.S_lower (Kd.S_new' ho0 (Kd.S_lt (by (with_reducible repeat (first | apply Kd.S_alloc | apply Kd.S_drewN | apply Kd.S_drew)); exact HO321.out))) (below_size (by repeat (first | (with_reducible first | exact HB.out | apply below_alloc | apply pw_below_drewN | apply below_drew1) | exact HB.out)))); have n2_ := Aside0.mk (below_step (by repeat (first | (with_reducible first | exact HB.out | apply below_alloc | apply pw_below_drewN | apply below_drew1) | exact HB.out)) hb); clear HO321; clear HB; have HO321 := n0_; have HO327 := n1_; have HB := n2_; clear n0_ n1_ n2_; (try clear hb); (try clear hb2); (try clear hk); (try clear hi); (try clear ho0)) | ((with_reducible refine gate_callee (f := 9) rfl ?_); refine goesL_ (some 73) rfl rfl Tryz.func9 (by kernel_rfl) rfl #[.string (a0 ++ a1)] rfl (by (try simp only [List.map_toArray, List.map_cons, List.map_nil]); first | done | rfl | (simp only [List.length_drop, List.length_take]; rfl)) ?_; (with_reducible refine (X.token_Tokens.calls (a0 ++ a1) t328 t329 t330 _ ?side1 A22.out).mono ?_); (case side1 => exact Glob.of_below hG (by repeat (first | (with_reducible first | exact HB.out | apply below_alloc | apply pw_below_drewN | apply below_drew1) | exact HB.out))); rintro e w38 ⟨v331, rfl, ho0, hb⟩; refine ⟨_, rfl, ?_⟩; have n0_ := Aside0.mk (Kd.S_elder' (by (with_reducible repeat (first | apply Kd.S_alloc | apply Kd.S_drewN | apply Kd.S_drew)); exact HO321.out) (Kd.S_base ho0) hb); have n1_ := Aside0.mk (Kd.S_elder' (by (with_reducible repeat (first | apply Kd.S_alloc | apply Kd.S_drewN | apply Kd.S_drew)); exact HO327.out) (Kd.S_base ho0) hb); have n2_ := Aside0.mk (Kd.S_lower (Kd.S_new' (Kd.S_new' ho0 (Kd.S_lt (by (with_reducible repeat (first | apply Kd.S_alloc | apply Kd.S_drewN | apply Kd.S_drew)); exact HO321.out))) (Kd.S_lt (by (with_reducible repeat (first | apply Kd.S_alloc | apply Kd.S_drewN | apply Kd.S_drew)); exact HO327.out))) (below_size (by repeat (first | (with_reducible first | exact HB.out | apply below_alloc | apply pw_below_drewN | apply below_drew1) | exact HB.out)))); have n3_ := Aside0.mk (below_step (by repeat (first | (with_reducible first | exact HB.out | apply below_alloc | apply pw_below_drewN | apply below_drew1) | exact HB.out)) hb); clear HO321; clear HO327; clear HB; have HO321 := n0_; have HO327 := n1_; have HO332 := n2_; have HB := n3_; clear n0_ n1_ n2_ n3_; (try clear hb); (try clear hb2); (try clear hk); (try clear hi); (try clear ho0); obtain ⟨Ao39, co39, eo39⟩ := Kd.S_slice HO332.out; subst eo39; obtain ⟨Ao40, co40, eo40⟩ := Kd.S_slice HO321.out; subst eo40; obtain ⟨Ao41, co41, eo41⟩ := Kd.S_slice HO327.out; subst eo41; have q42 : ((t317.length : Int) : Int) ≤ ((t328.length : Int) : Int) := of_decide_eq_true (by assumption); obtain ⟨i042, hi042, _, hsz42, _⟩ := info_parts info33; have hroom42 : t328.length ≤ co39 := (Kd.S_reads' HO332.out).2.1; have hC42 : Kd.C k33 _ Ao39 t328.length t328 := (Kd.S_reads' HO332.out).2.2; have hcut42 := cut_to (P := Tryz.prog) 27 33 .i64 Tryz.underlying27 hi042 Ao39 t328.length co39 (t317.length : Int) (of_decide_eq_true (by assumption)) q42 hroom42; have hr42 := Kd.C_take (m := ((t317.length : Int) : Int).toNat) hC42 (by omega); have hy42 : y333.length = ((t317.length : Int) : Int).toNat := (by rw [Ny333.out, List.length_take]; omega); rw [← Ny333.out] at hr42; rw [← hy42] at hcut42; have HR336 := Aside0.mk hr42; have HC336 := Aside0.mk (show y333.length ≤ co39 from by omega); clear hr42 hC42 hroom42 hi042 hsz42; have KY42 := Aside0.mk hy42; clear hy42; have KL42 := Aside0.mk (show ((t317.length : Int) : Int).toNat ≤ t328.length from by omega); replace q42 := eq_true q42) | (go_at_call 14; (with_reducible refine (w4_same.calls kj4 _ _ y333 _ _ t317 0 true _ ?side1 ?side2 ?side3 ?side4 A29.out).mono ?_); (case side1 => repeat (first | exact (by repeat (first | (with_reducible exact HR336.out) | (with_reducible refine Kd.C_alloc ?_ _) | (with_reducible refine Kd.C_drewN ?_ _) | (with_reducible refine Kd.C_drew ?_) | exact HR336.out)) | (with_reducible refine Kd.C_alloc ?_ _) | (with_reducible refine Kd.C_drewN ?_ _) | (with_reducible refine Kd.C_drew ?_))); (case side2 => exact HC336.out); (case side3 => repeat (first | exact (Kd.S_reads' HO321.out).2.2 | (with_reducible refine Kd.C_alloc ?_ _) | (with_reducible refine Kd.C_drewN ?_ _) | (with_reducible refine Kd.C_drew ?_))); (case side4 => exact (Kd.S_reads' HO321.out).2.1); rintro e w43 ⟨rfl, hb⟩; have n0_ := Aside0.mk (Kd.S_below (by (with_reducible repeat (first | apply Kd.S_alloc | apply Kd.S_drewN | apply Kd.S_drew)); exact HO321.out) hb); have n1_ := Aside0.mk (Kd.S_below (by (with_reducible repeat (first | apply Kd.S_alloc | apply Kd.S_drewN | apply Kd.S_drew)); exact HO327.out) hb); have n2_ := Aside0.mk (Kd.S_below (by (with_reducible repeat (first | apply Kd.S_alloc | apply Kd.S_drewN | apply Kd.S_drew)); exact HO332.out) hb); have n3_ := Aside0.mk (Kd.C_below (by repeat (first | (with_reducible exact HR336.out) | (with_reducible refine Kd.C_alloc ?_ _) | (with_reducible refine Kd.C_drewN ?_ _) | (with_reducible refine Kd.C_drew ?_) | exact HR336.out)) hb); have n4_ := Aside0.mk (below_step (by repeat (first | (with_reducible first | exact HB.out | apply below_alloc | apply pw_below_drewN | apply below_drew1) | exact HB.out)) hb); clear HO321; clear HO327; clear HO332; clear HR336; clear HB; have HO321 := n0_; have HO327 := n1_; have HO332 := n2_; have HR336 := n3_; have HB := n4_; clear n0_ n1_ n2_ n3_ n4_; (try clear hb); (try clear hb2); (try clear hk); (try clear hi); have q44 : ((t317.length : Int) : Int) ≤ ((t328.length : Int) : Int) := of_decide_eq_true (by assumption); obtain ⟨i044, hi044, _, hsz44, _⟩ := info_parts info33; have hroom44 : t328.length ≤ co39 := (Kd.S_reads' HO332.out).2.1; have hC44 : Kd.C k33 _ Ao39 t328.length t328 := (Kd.S_reads' HO332.out).2.2; have q044 : (0 : Int) ≤ ((t317.length : Int) : Int) := of_decide_eq_true (by assumption); have hcut44 := cut_from (P := Tryz.prog) 27 33 .i64 Tryz.underlying27 hi044 5 hsz44 Ao39 t328.length co39 (t317.length : Int) q044 q44; have hr44 := Kd.C_drop (m := ((t317.length : Int) : Int).toNat) (c := co39) hC44 (by omega) hroom44; obtain ⟨A44, hA44⟩ : ∃ A1, A1 = (if co39 = ((t317.length : Int) : Int).toNat then Ao39 else (Ao39 : Option Addr).map (·.add (((t317.length : Int) : Int).toNat * 5))) := ⟨_, rfl⟩; obtain ⟨c44, hc44⟩ : ∃ c1, c1 = co39 - ((t317.length : Int) : Int).toNat := ⟨_, rfl⟩; have hy44 : y338.length = t328.length - ((t317.length : Int) : Int).toNat := (by rw [Ny338.out, List.length_drop] <;> omega); rw [show (t328).drop ((t317.length : Int) : Int).toNat = y338 from Ny338.out.symm] at hr44; replace hr44 : Kd.C k33 _ A44 y338.length y338 := (by rw [hA44]; exact hr44); rw [← hy44, ← hA44, ← hc44] at hcut44; have HR341 := Aside0.mk hr44; have HC341 := Aside0.mk (show y338.length ≤ c44 from by rw [hy44, hc44]; exact Nat.sub_le_sub_right hroom44 _); clear hr44 hC44 hroom44 hi044 hsz44 hc44; have KY44 := Aside0.mk hy44; have KA44 := Aside0.mk hA44; clear hy44 hA44; have KL44 := Aside0.mk (show ((t317.length : Int) : Int).toNat ≤ t328.length from by omega); replace q44 := eq_true q44) | (go_at_call 14; (with_reducible refine (w4_same.calls kj4 _ _ y338 _ _ t323 (a0.size : Int) true _ ?side1 ?side2 ?side3 ?side4 A33.out).mono ?_); (case side1 => repeat (first | exact (by repeat (first | (with_reducible exact HR341.out) | (with_reducible refine Kd.C_alloc ?_ _) | (with_reducible refine Kd.C_drewN ?_ _) | (with_reducible refine Kd.C_drew ?_) | exact HR341.out)) | (with_reducible refine Kd.C_alloc ?_ _) | (with_reducible refine Kd.C_drewN ?_ _) | (with_reducible refine Kd.C_drew ?_))); (case side2 => exact HC341.out); (case side3 => repeat (first | exact (Kd.S_reads' HO327.out).2.2 | (with_reducible refine Kd.C_alloc ?_ _) | (with_reducible refine Kd.C_drewN ?_ _) | (with_reducible refine Kd.C_drew ?_))); (case side4 => exact (Kd.S_reads' HO327.out).2.1); rintro e w45 ⟨rfl, hb⟩; have n0_ := Aside0.mk (Kd.S_below (by (with_reducible repeat (first | apply Kd.S_alloc | apply Kd.S_drewN | apply Kd.S_drew)); exact HO321.out) hb); have n1_ := Aside0.mk (Kd.S_below (by (with_reducible repeat (first | apply Kd.S_alloc | apply Kd.S_drewN | apply Kd.S_drew)); exact HO327.out) hb); have n2_ := Aside0.mk (Kd.S_below (by (with_reducible repeat (first | apply Kd.S_alloc | apply Kd.S_drewN | apply Kd.S_drew)); exact HO332.out) hb); have n3_ := Aside0.mk (Kd.C_below (by repeat (first | (with_reducible exact HR336.out) | (with_reducible refine Kd.C_alloc ?_ _) | (with_reducible refine Kd.C_drewN ?_ _) | (with_reducible refine Kd.C_drew ?_) | exact HR336.out)) hb); have n4_ := Aside0.mk (Kd.C_below (by repeat (first | (with_reducible exact HR341.out) | (with_reducible refine Kd.C_alloc ?_ _) | (with_reducible refine Kd.C_drewN ?_ _) | (with_reducible refine Kd.C_drew ?_) | exact HR341.out)) hb); have n5_ := Aside0.mk (below_step (by repeat (first | (with_reducible first | exact HB.out | apply below_alloc | apply pw_below_drewN | apply below_drew1) | exact HB.out)) hb); clear HO321; clear HO327; clear HO332; clear HR336; clear HR341; clear HB; have HO321 := n0_; have HO327 := n1_; have HO332 := n2_; have HR336 := n3_; have HR341 := n4_; have HB := n5_; clear n0_ n1_ n2_ n3_ n4_ n5_; (try clear hb); (try clear hb2); (try clear hk); (try clear hi)) | (go_at_call 7; (with_reducible refine (w4_works.calls kj4  t343 _ ?side1 A35.out).mono ?_); (case side1 => exact Glob.of_below hG (by repeat (first | (with_reducible first | exact HB.out | apply below_alloc | apply pw_below_drewN | apply below_drew1) | exact HB.out))); rintro e w46 ⟨rfl, hb⟩; have n0_ := Aside0.mk (Kd.S_below (by (with_reducible repeat (first | apply Kd.S_alloc | apply Kd.S_drewN | apply Kd.S_drew)); exact HO321.out) hb); have n1_ := Aside0.mk (Kd.S_below (by (with_reducible repeat (first | apply Kd.S_alloc | apply Kd.S_drewN | apply Kd.S_drew)); exact HO327.out) hb); have n2_ := Aside0.mk (Kd.S_below (by (with_reducible repeat (first | apply Kd.S_alloc | apply Kd.S_drewN | apply Kd.S_drew)); exact HO332.out) hb); have n3_ := Aside0.mk (Kd.C_below (by repeat (first | (with_reducible exact HR336.out) | (with_reducible refine Kd.C_alloc ?_ _) | (with_reducible refine Kd.C_drewN ?_ _) | (with_reducible refine Kd.C_drew ?_) | exact HR336.out)) hb); have n4_ := Aside0.mk (Kd.C_below (by repeat (first | (with_reducible exact HR341.out) | (with_reducible refine Kd.C_alloc ?_ _) | (with_reducible refine Kd.C_drewN ?_ _) | (with_reducible refine Kd.C_drew ?_) | exact HR341.out)) hb); have n5_ := Aside0.mk (below_step (by repeat (first | (with_reducible first | exact HB.out | apply below_alloc | apply pw_below_drewN | apply below_drew1) | exact HB.out)) hb); clear HO321; clear HO327; clear HO332; clear HR336; clear HR341; clear HB; have HO321 := n0_; have HO327 := n1_; have HO332 := n2_; have HR336 := n3_; have HR341 := n4_; have HB := n5_; clear n0_ n1_ n2_ n3_ n4_ n5_; (try clear hb); (try clear hb2); (try clear hk); (try clear hi)))
              go_ret
              exact ⟨by first | rfl | (simp [errW_none, errW_some] <;> rfl) | (simp [*, errW_none, errW_some] <;> rfl), by repeat (first | (with_reducible first | exact HB.out | apply below_alloc | apply pw_below_drewN | apply below_drew1) | exact HB.out)⟩
             ·replace c34 := Bool.eq_false_iff.mpr c34
              subst c34
              have H1 : (some false) = some r := by rw [if_neg (show ¬ (false = true) by decide)] at H; exact H
              exact absurd HRT.out (by rw [← Option.some.inj H1]; decide)
            ·replace c30 := Bool.eq_false_iff.mpr c30
             subst c30
             have H1 : (some false) = some r := by rw [if_neg (show ¬ (false = true) by decide)] at H; exact H
             exact absurd HRT.out (by rw [← Option.some.inj H1]; decide)
           ·rw [if_neg c28] at H
            exact absurd H (by simp)
          ·rw [if_neg c27] at H
           exact absurd H (by simp)
         ·rw [if_neg c26] at H
          have c26b0 : ((t328.length : Int) == (wrap64 ((t317.length : Int) + (t323.length : Int)))) = false := beq_eq_false_iff_ne.mpr c26
          have c26b1 : ((t328.length : Int) != (wrap64 ((t317.length : Int) + (t323.length : Int)))) = true := bne_iff_ne.mpr c26
          obtain rfl := Option.some.inj H
          exact absurd HRT.out (by decide)
        ·rw [if_neg c25] at H
         have c25b0 : (t329 == 0) = false := beq_eq_false_iff_ne.mpr c25
         have c25b1 : (t329 != 0) = true := bne_iff_ne.mpr c25
         obtain rfl := Option.some.inj H
         exact absurd HRT.out (by decide)
       ·rw [if_neg c24] at H
        have c24b0 : (t330 == 0) = false := beq_eq_false_iff_ne.mpr c24
        have c24b1 : (t330 != 0) = true := bne_iff_ne.mpr c24
        obtain rfl := Option.some.inj H
        exact absurd HRT.out (by decide)
      ·rw [if_neg c23] at H
       have c23b0 : (t325 == 0) = false := beq_eq_false_iff_ne.mpr c23
       have c23b1 : (t325 != 0) = true := bne_iff_ne.mpr c23
       by_cases c77 : (t328.length : Int) = 0
       ·rw [if_pos c77] at H
        have c77b0 : ((t328.length : Int) == 0) = true := beq_iff_eq.mpr c77
        have c77b1 : ((t328.length : Int) != 0) = false := bne_eq_false_iff_eq.mpr c77
        clear c77
        by_cases c78 : t330 = t325
        ·rw [if_pos c78] at H
         have c78b0 : (t330 == t325) = true := beq_iff_eq.mpr c78
         have c78b1 : (t330 != t325) = false := bne_eq_false_iff_eq.mpr c78
         clear c78
         by_cases c79 : t329 = (wrap64 ((a0.size : Int) + t324))
         ·rw [if_pos c79] at H
          have c79b0 : (t329 == (wrap64 ((a0.size : Int) + t324))) = true := beq_iff_eq.mpr c79
          have c79b1 : (t329 != (wrap64 ((a0.size : Int) + t324))) = false := bne_eq_false_iff_eq.mpr c79
          clear c79
          replace H := Option.bind_eq_some_iff.mp H
          obtain ⟨t344, A800, H⟩ := H
          replace H : (some t344) = some r := H
          have A80 := Aside0.mk A800
          clear A800
          obtain rfl := Option.some.inj H
          go_wp2_with (first | ((with_reducible refine gate_callee (f := 9) rfl ?_); refine goesL_ (some 56) rfl rfl Tryz.func9 (by kernel_rfl) rfl #[.string a0] rfl (by (try simp only [List.map_toArray, List.map_cons, List.map_nil]); first | done | rfl | (simp only [List.length_drop, List.length_take]; rfl)) ?_; (with_reducible refine (X.token_Tokens.calls a0 t317 t318 t319 _ ?side1 A18.out).mono ?_); (case side1 => exact Glob.of_below hG (by repeat (first | (with_reducible first | exact HB.out | apply below_alloc | apply pw_below_drewN | apply below_drew1) | exact HB.out))); rintro e w81 ⟨v320, rfl, ho0, hb⟩; refine ⟨_, rfl, ?_⟩; have n0_ := Aside0.mk (Kd.S_lower ho0 (below_size (by repeat (first | (with_reducible first | exact HB.out | apply below_alloc | apply pw_below_drewN | apply below_drew1) | exact HB.out)))); have n1_ := Aside0.mk (below_step (by repeat (first | (with_reducible first | exact HB.out | apply below_alloc | apply pw_below_drewN | apply below_drew1) | exact HB.out)) hb); clear HB; have HO321 := n0_; have HB := n1_; clear n0_ n1_; (try clear hb); (try clear hb2); (try clear hk); (try clear hi); (try clear ho0)) | ((with_reducible refine gate_callee (f := 9) rfl ?_); refine goesL_ (some 65) rfl rfl Tryz.func9 (by kernel_rfl) rfl #[.string a1] rfl (by (try simp only [List.map_toArray, List.map_cons, List.map_nil]); first | done | rfl | (simp only [List.length_drop, List.length_take]; rfl)) ?_; (with_reducible refine (X.token_Tokens.calls a1 t323 t324 t325 _ ?side1 A20.out).mono ?_); (case side1 => exact Glob.of_below hG (by repeat (first | (with_reducible first | exact HB.out | apply below_alloc | apply pw_below_drewN | apply below_drew1) | exact HB.out))); rintro e w82 ⟨v326, rfl, ho0, hb⟩; refine ⟨_, rfl, ?_⟩; have n0_ := Aside0.mk (Kd.S_elder' (by (with_reducible repeat (first | apply Kd.S_alloc | apply Kd.S_drewN | apply Kd.S_drew)); exact HO321.out) (Kd.S_base ho0) hb); have n1_ := Aside0.mk (Kd.S_lower (Kd.S_new' ho0 (Kd.S_lt (by (with_reducible repeat (first | apply Kd.S_alloc | apply Kd.S_drewN | apply Kd.S_drew)); exact HO321.out))) (below_size (by repeat (first | (with_reducible first | exact HB.out | apply below_alloc | apply pw_below_drewN | apply below_drew1) | exact HB.out)))); have n2_ := Aside0.mk (below_step (by repeat (first | (with_reducible first | exact HB.out | apply below_alloc | apply pw_below_drewN | apply below_drew1) | exact HB.out)) hb); clear HO321; clear HB; have HO321 := n0_; have HO327 := n1_; have HB := n2_; clear n0_ n1_ n2_; (try clear hb); (try clear hb2); (try clear hk); (try clear hi); (try clear ho0)) | ((with_reducible refine gate_callee (f := 9) rfl ?_); refine goesL_ (some 73) rfl rfl Tryz.func9 (by kernel_rfl) rfl #[.string (a0 ++ a1)] rfl (by (try simp only [List.map_toArray, List.map_cons, List.map_nil]); first | done | rfl | (simp only [List.length_drop, List.length_take]; rfl)) ?_; (with_reducible refine (X.token_Tokens.calls (a0 ++ a1) t328 t329 t330 _ ?side1 A22.out).mono ?_); (case side1 => exact Glob.of_below hG (by repeat (first | (with_reducible first | exact HB.out | apply below_alloc | apply pw_below_drewN | apply below_drew1) | exact HB.out))); rintro e w83 ⟨v331, rfl, ho0, hb⟩; refine ⟨_, rfl, ?_⟩; have n0_ := Aside0.mk (Kd.S_elder' (by (with_reducible repeat (first | apply Kd.S_alloc | apply Kd.S_drewN | apply Kd.S_drew)); exact HO321.out) (Kd.S_base ho0) hb); have n1_ := Aside0.mk (Kd.S_elder' (by (with_reducible repeat (first | apply Kd.S_alloc | apply Kd.S_drewN | apply Kd.S_drew)); exact HO327.out) (Kd.S_base ho0) hb); have n2_ := Aside0.mk (Kd.S_lower (Kd.S_new' (Kd.S_new' ho0 (Kd.S_lt (by (with_reducible repeat (first | apply Kd.S_alloc | apply Kd.S_drewN | apply Kd.S_drew)); exact HO321.out))) (Kd.S_lt (by (with_reducible repeat (first | apply Kd.S_alloc | apply Kd.S_drewN | apply Kd.S_drew)); exact HO327.out))) (below_size (by repeat (first | (with_reducible first | exact HB.out | apply below_alloc | apply pw_below_drewN | apply below_drew1) | exact HB.out)))); have n3_ := Aside0.mk (below_step (by repeat (first | (with_reducible first | exact HB.out | apply below_alloc | apply pw_below_drewN | apply below_drew1) | exact HB.out)) hb); clear HO321; clear HO327; clear HB; have HO321 := n0_; have HO327 := n1_; have HO332 := n2_; have HB := n3_; clear n0_ n1_ n2_ n3_; (try clear hb); (try clear hb2); (try clear hk); (try clear hi); (try clear ho0); obtain ⟨Ao84, co84, eo84⟩ := Kd.S_slice HO332.out; subst eo84) | (go_at_call 7; (with_reducible refine (w4_works.calls kj4  t344 _ ?side1 A80.out).mono ?_); (case side1 => exact Glob.of_below hG (by repeat (first | (with_reducible first | exact HB.out | apply below_alloc | apply pw_below_drewN | apply below_drew1) | exact HB.out))); rintro e w85 ⟨rfl, hb⟩; have n0_ := Aside0.mk (Kd.S_below (by (with_reducible repeat (first | apply Kd.S_alloc | apply Kd.S_drewN | apply Kd.S_drew)); exact HO321.out) hb); have n1_ := Aside0.mk (Kd.S_below (by (with_reducible repeat (first | apply Kd.S_alloc | apply Kd.S_drewN | apply Kd.S_drew)); exact HO327.out) hb); have n2_ := Aside0.mk (Kd.S_below (by (with_reducible repeat (first | apply Kd.S_alloc | apply Kd.S_drewN | apply Kd.S_drew)); exact HO332.out) hb); have n3_ := Aside0.mk (below_step (by repeat (first | (with_reducible first | exact HB.out | apply below_alloc | apply pw_below_drewN | apply below_drew1) | exact HB.out)) hb); clear HO321; clear HO327; clear HO332; clear HB; have HO321 := n0_; have HO327 := n1_; have HO332 := n2_; have HB := n3_; clear n0_ n1_ n2_ n3_; (try clear hb); (try clear hb2); (try clear hk); (try clear hi)))
          go_ret
          exact ⟨by first | rfl | (simp [errW_none, errW_some] <;> rfl) | (simp [*, errW_none, errW_some] <;> rfl), by repeat (first | (with_reducible first | exact HB.out | apply below_alloc | apply pw_below_drewN | apply below_drew1) | exact HB.out)⟩
         ·rw [if_neg c79] at H
          have c79b0 : (t329 == (wrap64 ((a0.size : Int) + t324))) = false := beq_eq_false_iff_ne.mpr c79
          have c79b1 : (t329 != (wrap64 ((a0.size : Int) + t324))) = true := bne_iff_ne.mpr c79
          obtain rfl := Option.some.inj H
          exact absurd HRT.out (by decide)
        ·rw [if_neg c78] at H
         have c78b0 : (t330 == t325) = false := beq_eq_false_iff_ne.mpr c78
         have c78b1 : (t330 != t325) = true := bne_iff_ne.mpr c78
         obtain rfl := Option.some.inj H
         exact absurd HRT.out (by decide)
       ·rw [if_neg c77] at H
        have c77b0 : ((t328.length : Int) == 0) = false := beq_eq_false_iff_ne.mpr c77
        have c77b1 : ((t328.length : Int) != 0) = true := bne_iff_ne.mpr c77
        have c77b2 : ¬ (t328 = []) := fun h_ => c77 (by rw [h_]; rfl)
        obtain rfl := Option.some.inj H
        exact absurd HRT.out (by decide)
     ·rw [if_neg c21] at H
      exact absurd H (by simp)
    ·rw [if_neg c19] at H
     have c19b0 : (t319 == 0) = false := beq_eq_false_iff_ne.mpr c19
     have c19b1 : (t319 != 0) = true := bne_iff_ne.mpr c19
     replace H := Option.bind_eq_some_iff.mp H
     obtain ⟨t322, A980, H⟩ := H
     replace H : (some t322) = some r := H
     have A98 := Aside0.mk A980
     clear A980
     obtain rfl := Option.some.inj H
     go_wp2_with (first | ((with_reducible refine gate_callee (f := 9) rfl ?_); refine goesL_ (some 56) rfl rfl Tryz.func9 (by kernel_rfl) rfl #[.string a0] rfl (by (try simp only [List.map_toArray, List.map_cons, List.map_nil]); first | done | rfl | (simp only [List.length_drop, List.length_take]; rfl)) ?_; (with_reducible refine (X.token_Tokens.calls a0 t317 t318 t319 _ ?side1 A18.out).mono ?_); (case side1 => exact Glob.of_below hG (by repeat (first | (with_reducible first | exact HB.out | apply below_alloc | apply pw_below_drewN | apply below_drew1) | exact HB.out))); rintro e w99 ⟨v320, rfl, ho0, hb⟩; refine ⟨_, rfl, ?_⟩; have n0_ := Aside0.mk (Kd.S_lower ho0 (below_size (by repeat (first | (with_reducible first | exact HB.out | apply below_alloc | apply pw_below_drewN | apply below_drew1) | exact HB.out)))); have n1_ := Aside0.mk (below_step (by repeat (first | (with_reducible first | exact HB.out | apply below_alloc | apply pw_below_drewN | apply below_drew1) | exact HB.out)) hb); clear HB; have HO321 := n0_; have HB := n1_; clear n0_ n1_; (try clear hb); (try clear hb2); (try clear hk); (try clear hi); (try clear ho0)) | ((with_reducible refine gate_callee (f := 7) rfl ?_); refine goesL_ (some 62) rfl rfl Tryz.func7 (by kernel_rfl) rfl #[] rfl (by (try simp only [List.map_toArray, List.map_cons, List.map_nil]); first | done | rfl | (simp only [List.length_drop, List.length_take]; rfl)) ?_; (with_reducible refine (w4_works.calls kj4  t322 _ ?side1 A98.out).mono ?_); (case side1 => exact Glob.of_below hG (by repeat (first | (with_reducible first | exact HB.out | apply below_alloc | apply pw_below_drewN | apply below_drew1) | exact HB.out))); rintro e w100 ⟨rfl, hb⟩; refine ⟨_, rfl, ?_⟩; have n0_ := Aside0.mk (Kd.S_below (by (with_reducible repeat (first | apply Kd.S_alloc | apply Kd.S_drewN | apply Kd.S_drew)); exact HO321.out) hb); have n1_ := Aside0.mk (below_step (by repeat (first | (with_reducible first | exact HB.out | apply below_alloc | apply pw_below_drewN | apply below_drew1) | exact HB.out)) hb); clear HO321; clear HB; have HO321 := n0_; have HB := n1_; clear n0_ n1_; (try clear hb); (try clear hb2); (try clear hk); (try clear hi)))
     go_ret
     exact ⟨by first | rfl | (simp [errW_none, errW_some] <;> rfl) | (simp [*, errW_none, errW_some] <;> rfl), by repeat (first | (with_reducible first | exact HB.out | apply below_alloc | apply pw_below_drewN | apply below_drew1) | exact HB.out)⟩
theorem w4_TokenJoins.calls_row (k : Nat) (a0 : ByteArray) (a1 : ByteArray) (u : Bool) (w : World) (hG : Glob w) (h : w4_TokenJoins.f k a0 a1 = some true) :
  Calls Tryz.prog 5 #[.string a0, .string a1] w fun e w' => e = .returned (.bool true) ∧ Below w.heap.size w w' :=
 w4_TokenJoins.calls_t k a0 a1 true w hG ⟨rfl⟩ h
end Go.Proofs.YtpknhgejnfmijaaGreatDoor.PC
