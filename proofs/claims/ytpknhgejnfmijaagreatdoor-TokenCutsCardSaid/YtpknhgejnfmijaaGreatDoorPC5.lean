/- A text of the claim, with what no other text of it needs taken out. -/
import Derived.Test.YtpknhgejnfmijaaGreatDoorPC0
import Derived.Test.YtpknhgejnfmijaaGreatDoorPC3
import Derived.Test.YtpknhgejnfmijaaGreatDoorPC4
namespace Go.Proofs.YtpknhgejnfmijaaGreatDoor.PC
open Go.Proofs.YtpknhgejnfmijaaGreatDoor.K
open Go.RowKit Go.Proofs.YtpknhgejnfmijaaGreatDoorW.PrintWords Go.Proofs.YtpknhgejnfmijaaGreatDoorW.PrintLast Go.Proofs.YtpknhgejnfmijaaGreatDoorW.PrintMore
attribute [local go_sem] max2_int min2_int max_two min_two max_three min_three max_four min_four
set_option linter.unusedVariables false
set_option linter.unusedSimpArgs false
mutual
def r3_digit.j0 : Nat → Int → Bool → Option (Int)
 | 0, _, _ => none
 | k + 1, x0, x3 => if x3 = true then (some ((x0 - 48) % 256)) else (if x0 ≥ 97 then (r3_digit.j1 k x0 (decide (x0 ≤ 102))) else (r3_digit.j1 k x0 false))
def r3_digit.j1 : Nat → Int → Bool → Option (Int)
 | 0, _, _ => none
 | k + 1, x0, x13 => if x13 = true then (some (((x0 - 97) % 256) + 10)) else (if x0 ≥ 65 then (if x0 ≤ 70 then (some (((x0 - 65) % 256) + 10)) else (some (-1))) else (some (-1)))
end
def r3_digit.f (k : Nat) (a0 : Int) : Option (Int) := if a0 ≥ 48 then (r3_digit.j0 k a0 (decide (a0 ≤ 57))) else (r3_digit.j0 k a0 false)
set_option maxHeartbeats 8000000 in
set_option maxRecDepth 100000 in
theorem r3_digit.calls (k : Nat) (a0 : Int) (r : Int) (w : World) (h : r3_digit.f k a0 = some r) :
  Calls Tryz.prog 74 #[.int .u8 a0] w fun e w' => e = .returned (.int .i64 r) ∧ Drawn0 w w' := by
 have H := h
 unfold r3_digit.f at H
 clear h
 have HC2 := Az.mk H
 clear H
 go_enter Tryz.func74, Tryz.ntmps74
 go_upto_region 1 with (fail)
 go_cut [3] (fun v3 wc => ∃ (kq : Nat) (x3_1 : Bool), v3 = .bool x3_1 ∧ Az (r3_digit.j0 kq a0 x3_1 = some r) ∧ Az (kq ≤ k) ∧ Drawn0 w wc)
 case first =>
  have H := HC2.out
  clear HC2
  by_cases c3 : a0 ≥ 48
  ·rw [if_pos c3] at H
   have c3b0 : decide (48 ≤ a0) = true := decide_eq_true c3
   clear c3
   (first | rw [c3b0] | (simp only [i64_w, i32_w]; rw [c3b0]) | skip)
   have H' := Az.mk H
   clear H
   go_wp2
   go_meet
   case rel => exact ⟨_, (decide (a0 ≤ 57)), (by first | rfl | (simp; done) | (simp [*]; done)), H', ⟨by first | omega | exact Nat.le_refl _⟩, by repeat (first | exact Drawn0.refl _ | apply Drawn0.step)⟩
  ·rw [if_neg c3] at H
   have c3b0 : decide (48 ≤ a0) = false := decide_eq_false c3
   clear c3
   (first | rw [c3b0] | (simp only [i64_w, i32_w]; rw [c3b0]) | skip)
   have H' := Az.mk H
   clear H
   go_wp2
   go_meet
   case rel => exact ⟨_, (false), (by first | rfl | (simp; done) | (simp [*]; done)), H', ⟨by first | omega | exact Nat.le_refl _⟩, by repeat (first | exact Drawn0.refl _ | apply Drawn0.step)⟩
 case rest =>
  clear HC2
  try clear p2
  try clear c3
  try clear c3b0
  obtain ⟨kq, x3_1, rfl, HA, HJ1, ⟨mc1, rfl⟩⟩ := hcut
  cases kq with
  | zero => exact absurd HA.out (by simp [r3_digit.j0])
  | succ kj1 =>
   have H := HA.out
   clear HA
   simp only [r3_digit.j0] at H
   by_cases c4 : x3_1 = true
   ·subst c4
    have H1 : (some ((a0 - 48) % 256)) = some r := by rw [if_pos rfl] at H; exact H
    clear H
    have H := H1
    clear H1
    obtain rfl := Option.some.inj H
    go_wp2
    go_ret
    exact ⟨by first | rfl | (simp; done) | (simp [*]; done), by repeat (first | exact Drawn0.refl _ | apply Drawn0.step)⟩
   ·replace c4 := Bool.eq_false_iff.mpr c4
    subst c4
    have H1 : (if a0 ≥ 97 then (r3_digit.j1 kj1 a0 (decide (a0 ≤ 102))) else (r3_digit.j1 kj1 a0 false)) = some r := by rw [if_neg (show ¬ (false = true) by decide)] at H; exact H
    clear H
    have H := H1
    clear H1
    have HC5 := Az.mk H
    clear H
    go_upto_region 3 with (fail)
    go_cut [13] (fun v13 wc => ∃ (kq : Nat) (x13_4 : Bool), v13 = .bool x13_4 ∧ Az (r3_digit.j1 kq a0 x13_4 = some r) ∧ Az (kq ≤ kj1) ∧ Drawn0 w wc)
    case first =>
     have H := HC5.out
     clear HC5
     by_cases c6 : a0 ≥ 97
     ·rw [if_pos c6] at H
      have c6b0 : decide (97 ≤ a0) = true := decide_eq_true c6
      clear c6
      (first | rw [c6b0] | (simp only [i64_w, i32_w]; rw [c6b0]) | skip)
      have H' := Az.mk H
      clear H
      go_wp2
      go_meet
      case rel => exact ⟨_, (decide (a0 ≤ 102)), (by first | rfl | (simp; done) | (simp [*]; done)), H', ⟨by have := HJ1.out; first | omega | exact Nat.le_refl _⟩, by repeat (first | exact Drawn0.refl _ | apply Drawn0.step)⟩
     ·rw [if_neg c6] at H
      have c6b0 : decide (97 ≤ a0) = false := decide_eq_false c6
      clear c6
      (first | rw [c6b0] | (simp only [i64_w, i32_w]; rw [c6b0]) | skip)
      have H' := Az.mk H
      clear H
      go_wp2
      go_meet
      case rel => exact ⟨_, (false), (by first | rfl | (simp; done) | (simp [*]; done)), H', ⟨by have := HJ1.out; first | omega | exact Nat.le_refl _⟩, by repeat (first | exact Drawn0.refl _ | apply Drawn0.step)⟩
    case rest =>
     clear HC5
     try clear c1
     try clear p2
     try clear c3
     try clear c3b0
     try clear c4
     try clear c6
     try clear c6b0
     try clear p2
     obtain ⟨kq, x13_4, rfl, HA, HJ4, ⟨mc4, rfl⟩⟩ := hcut
     cases kq with
     | zero => exact absurd HA.out (by simp [r3_digit.j1])
     | succ kj4 =>
      have H := HA.out
      clear HA
      simp only [r3_digit.j1] at H
      by_cases c7 : x13_4 = true
      ·subst c7
       have H1 : (some (((a0 - 97) % 256) + 10)) = some r := by rw [if_pos rfl] at H; exact H
       clear H
       have H := H1
       clear H1
       obtain rfl := Option.some.inj H
       go_wp2
       go_ret
       exact ⟨by first | rfl | (simp; done) | (simp [*]; done), by repeat (first | exact Drawn0.refl _ | apply Drawn0.step)⟩
      ·replace c7 := Bool.eq_false_iff.mpr c7
       subst c7
       have H1 : (if a0 ≥ 65 then (if a0 ≤ 70 then (some (((a0 - 65) % 256) + 10)) else (some (-1))) else (some (-1))) = some r := by rw [if_neg (show ¬ (false = true) by decide)] at H; exact H
       clear H
       have H := H1
       clear H1
       by_cases c8 : a0 ≥ 65
       ·rw [if_pos c8] at H
        have c8b0 : decide (65 ≤ a0) = true := decide_eq_true c8
        clear c8
        by_cases c9 : a0 ≤ 70
        ·rw [if_pos c9] at H
         have c9b0 : decide (a0 ≤ 70) = true := decide_eq_true c9
         clear c9
         obtain rfl := Option.some.inj H
         go_wp2
         go_ret
         exact ⟨by first | rfl | (simp; done) | (simp [*]; done), by repeat (first | exact Drawn0.refl _ | apply Drawn0.step)⟩
        ·rw [if_neg c9] at H
         have c9b0 : decide (a0 ≤ 70) = false := decide_eq_false c9
         clear c9
         obtain rfl := Option.some.inj H
         go_wp2
         go_ret
         exact ⟨by first | rfl | (simp; done) | (simp [*]; done), by repeat (first | exact Drawn0.refl _ | apply Drawn0.step)⟩
       ·rw [if_neg c8] at H
        have c8b0 : decide (65 ≤ a0) = false := decide_eq_false c8
        clear c8
        obtain rfl := Option.some.inj H
        go_wp2
        go_ret
        exact ⟨by first | rfl | (simp; done) | (simp [*]; done), by repeat (first | exact Drawn0.refl _ | apply Drawn0.step)⟩
def r3_number.l0 : Nat → ByteArray → Int → Int → Int → Int → Option (ByteArray × Int)
 | 0, _, _, _, _, _ => none
 | k + 1, x0, x1, x2, x8, x9 => if x9 < (x0.size : Int) then (if x9 < x2 then (if 0 ≤ x9 then ((r3_digit.f k (bt x0 x9)).bind fun t158 => (if t158 ≥ 0 then ((r3_digit.f k (bt x0 x9)).bind fun t159 => (if t159 < x1 then ((r3_digit.f k (bt x0 x9)).bind fun t160 => (r3_number.l0 k x0 x1 x2 (wrap64 ((wrap64 (x8 * x1)) + t160)) (wrap64 (x9 + 1)))) else (if x9 = 0 then (some ((⟨#[]⟩ : ByteArray), 0)) else (if x9 ≥ (x0.size : Int) then (some ((⟨#[]⟩ : ByteArray), 0)) else (if (bt x0 x9) = 59 then ((r1_Put.f x8).bind fun t161 => (some (t161, x9))) else (some ((⟨#[]⟩ : ByteArray), 0))))))) else (if x9 = 0 then (some ((⟨#[]⟩ : ByteArray), 0)) else (if x9 ≥ (x0.size : Int) then (some ((⟨#[]⟩ : ByteArray), 0)) else (if (bt x0 x9) = 59 then ((r1_Put.f x8).bind fun t162 => (some (t162, x9))) else (some ((⟨#[]⟩ : ByteArray), 0))))))) else (none)) else (if x9 = 0 then (some ((⟨#[]⟩ : ByteArray), 0)) else (if x9 ≥ (x0.size : Int) then (some ((⟨#[]⟩ : ByteArray), 0)) else (if 0 ≤ x9 then (if (bt x0 x9) = 59 then ((r1_Put.f x8).bind fun t163 => (some (t163, x9))) else (some ((⟨#[]⟩ : ByteArray), 0))) else (none))))) else (if x9 = 0 then (some ((⟨#[]⟩ : ByteArray), 0)) else (if x9 ≥ (x0.size : Int) then (some ((⟨#[]⟩ : ByteArray), 0)) else (if 0 ≤ x9 then (none) else (none))))
def r3_number.f (k : Nat) (a0 : ByteArray) (a1 : Int) (a2 : Int) : Option (ByteArray × Int) := r3_number.l0 k a0 a1 a2 0 0
set_option maxHeartbeats 8000000 in
set_option maxRecDepth 100000 in
theorem r3_number.calls (k : Nat) (a0 : ByteArray) (a1 : Int) (a2 : Int) (r1 : ByteArray) (r2 : Int) (w : World) (h : r3_number.f k a0 a1 a2 = some (r1, r2)) :
  Calls Tryz.prog 55 #[.string a0, .int .i64 a1, .int .i64 a2] w fun e w' => e = .returned (.tuple #[.string r1, .int .i64 r2]) ∧ Below w.heap.size w w' := by
 have HB := Az.mk (Below.refl w.heap.size w)
 have H := h
 unfold r3_number.f at H
 clear h
 have H' := Az.mk H
 clear H
 go_enter Tryz.func55, Tryz.ntmps55
 go_wp2
 go_loopg [8, 9] k (fun kq v8 v9 w' => ∃ (x8_1 : Int) (x9_1 : Int), v8 = .int .i64 x8_1 ∧ v9 = .int .i64 x9_1 ∧ Az (r3_number.l0 kq a0 a1 a2 x8_1 x9_1 = some (r1, r2)) ∧ Az (kq ≤ k) ∧ Az (Below w.heap.size w w'))
 case atStart => exact ⟨(0), (0), (by first | rfl | (simp; done) | (simp [*]; done)), (by first | rfl | (simp; done) | (simp [*]; done)), H', ⟨Nat.le_refl _⟩, ⟨tw HB.out⟩⟩
 case round =>
  clear H'
  try clear p2
  obtain ⟨x8_1, x9_1, rfl, rfl, HA, HK1, HB⟩ := hrel
  cases gk with
  | zero => exact absurd HA.out (by simp [r3_number.l0])
  | succ k1 =>
   have H := HA.out
   clear HA
   simp only [r3_number.l0] at H
   by_cases c4 : x9_1 < (a0.size : Int)
   ·rw [if_pos c4] at H
    have c4b0 : decide (x9_1 < (a0.size : Int)) = true := decide_eq_true c4
    clear c4
    by_cases c5 : x9_1 < a2
    ·rw [if_pos c5] at H
     have c5b0 : decide (x9_1 < a2) = true := decide_eq_true c5
     clear c5
     by_cases c6 : 0 ≤ x9_1
     ·rw [if_pos c6] at H
      have c6b0 : decide (0 ≤ x9_1) = true := decide_eq_true c6
      clear c6
      replace H := Option.bind_eq_some_iff.mp H
      obtain ⟨t158, A80, H⟩ := H
      replace H : (if t158 ≥ 0 then ((r3_digit.f k1 (bt a0 x9_1)).bind fun t159 => (if t159 < a1 then ((r3_digit.f k1 (bt a0 x9_1)).bind fun t160 => (r3_number.l0 k1 a0 a1 a2 (wrap64 ((wrap64 (x8_1 * a1)) + t160)) (wrap64 (x9_1 + 1)))) else (if x9_1 = 0 then (some ((⟨#[]⟩ : ByteArray), 0)) else (if x9_1 ≥ (a0.size : Int) then (some ((⟨#[]⟩ : ByteArray), 0)) else (if (bt a0 x9_1) = 59 then ((r1_Put.f x8_1).bind fun t161 => (some (t161, x9_1))) else (some ((⟨#[]⟩ : ByteArray), 0))))))) else (if x9_1 = 0 then (some ((⟨#[]⟩ : ByteArray), 0)) else (if x9_1 ≥ (a0.size : Int) then (some ((⟨#[]⟩ : ByteArray), 0)) else (if (bt a0 x9_1) = 59 then ((r1_Put.f x8_1).bind fun t162 => (some (t162, x9_1))) else (some ((⟨#[]⟩ : ByteArray), 0)))))) = some (r1, r2) := H
      have A8 := Az.mk A80
      clear A80
      by_cases c9 : t158 ≥ 0
      ·rw [if_pos c9] at H
       have c9b0 : decide (0 ≤ t158) = true := decide_eq_true c9
       clear c9
       replace H := Option.bind_eq_some_iff.mp H
       obtain ⟨t159, A110, H⟩ := H
       replace H : (if t159 < a1 then ((r3_digit.f k1 (bt a0 x9_1)).bind fun t160 => (r3_number.l0 k1 a0 a1 a2 (wrap64 ((wrap64 (x8_1 * a1)) + t160)) (wrap64 (x9_1 + 1)))) else (if x9_1 = 0 then (some ((⟨#[]⟩ : ByteArray), 0)) else (if x9_1 ≥ (a0.size : Int) then (some ((⟨#[]⟩ : ByteArray), 0)) else (if (bt a0 x9_1) = 59 then ((r1_Put.f x8_1).bind fun t161 => (some (t161, x9_1))) else (some ((⟨#[]⟩ : ByteArray), 0)))))) = some (r1, r2) := H
       have A11 := Az.mk A110
       clear A110
       by_cases c12 : t159 < a1
       ·rw [if_pos c12] at H
        have c12b0 : decide (t159 < a1) = true := decide_eq_true c12
        clear c12
        replace H := Option.bind_eq_some_iff.mp H
        obtain ⟨t160, A140, H⟩ := H
        replace H : (r3_number.l0 k1 a0 a1 a2 (wrap64 ((wrap64 (x8_1 * a1)) + t160)) (wrap64 (x9_1 + 1))) = some (r1, r2) := H
        have A14 := Az.mk A140
        clear A140
        have H' := Az.mk H
        clear H
        have p7 : 0 ≤ (x9_1 : Int) := of_decide_eq_true (by assumption)
        have q7 : x9_1 < (a0.size : Int) := of_decide_eq_true (by assumption)
        have hx7 := bt_at a0 x9_1
        replace p7 := eq_true p7
        replace q7 := eq_true q7
        have tok62_0 : True := trivial
        have tok62_1 : True := trivial
        go_wp2_with (first | (have tu_ := tok62_0; clear tu_ tok62_0; go_at_call 74; (with_reducible refine (r3_digit.calls k1 (bt a0 x9_1) t158 _ A8.out).mono ?_); rintro e w' ⟨rfl, ⟨nd, rfl⟩⟩; have p10 : 0 ≤ (x9_1 : Int) := of_decide_eq_true (by assumption); have q10 : x9_1 < (a0.size : Int) := of_decide_eq_true (by assumption); have hx10 := bt_at a0 x9_1; replace p10 := eq_true p10; replace q10 := eq_true q10) | (have tu_ := tok62_1; clear tu_ tok62_1; go_at_call 74; (with_reducible refine (r3_digit.calls k1 (bt a0 x9_1) t159 _ A11.out).mono ?_); rintro e w' ⟨rfl, ⟨nd, rfl⟩⟩; have p13 : 0 ≤ (x9_1 : Int) := of_decide_eq_true (by assumption); have q13 : x9_1 < (a0.size : Int) := of_decide_eq_true (by assumption); have hx13 := bt_at a0 x9_1; replace p13 := eq_true p13; replace q13 := eq_true q13) | ((with_reducible refine gate_callee (f := 74) rfl ?_); refine goesL_ (some 40) rfl rfl Tryz.func74 (by kernel_rfl) rfl #[.int .u8 (bt a0 x9_1)] rfl (by (try simp only [List.map_toArray, List.map_cons, List.map_nil]); first | done | rfl | (simp only [List.length_drop, List.length_take]; rfl)) ?_; (with_reducible refine (r3_digit.calls k1 (bt a0 x9_1) t160 _ A14.out).mono ?_); rintro e w' ⟨rfl, ⟨nd, rfl⟩⟩; refine ⟨_, rfl, ?_⟩))
        go_roundg k1
        case measure => have := HK1.out; omega
        case rel => exact ⟨(wrap64 ((wrap64 (x8_1 * a1)) + t160)), (wrap64 (x9_1 + 1)), (by first | rfl | (simp; done) | (simp [*]; done)), (by first | rfl | (simp; done) | (simp [*]; done)), H', ⟨by have := HK1.out; omega⟩, ⟨tw HB.out⟩⟩
       ·rw [if_neg c12] at H
        have c12b0 : decide (t159 < a1) = false := decide_eq_false c12
        clear c12
        by_cases c15 : x9_1 = 0
        ·rw [if_pos c15] at H
         have c15b0 : (x9_1 == 0) = true := beq_iff_eq.mpr c15
         have c15b1 : (x9_1 != 0) = false := bne_eq_false_iff_eq.mpr c15
         clear c15
         simp only [Option.some.injEq, Prod.mk.injEq] at H
         obtain ⟨rfl, rfl⟩ := H
         have p7 : 0 ≤ (x9_1 : Int) := of_decide_eq_true (by assumption)
         have q7 : x9_1 < (a0.size : Int) := of_decide_eq_true (by assumption)
         have hx7 := bt_at a0 x9_1
         replace p7 := eq_true p7
         replace q7 := eq_true q7
         have tok83_0 : True := trivial
         have tok83_1 : True := trivial
         go_wp2_with (first | (have tu_ := tok83_0; clear tu_ tok83_0; go_at_call 74; (with_reducible refine (r3_digit.calls k1 (bt a0 x9_1) t158 _ A8.out).mono ?_); rintro e w' ⟨rfl, ⟨nd, rfl⟩⟩; have p10 : 0 ≤ (x9_1 : Int) := of_decide_eq_true (by assumption); have q10 : x9_1 < (a0.size : Int) := of_decide_eq_true (by assumption); have hx10 := bt_at a0 x9_1; replace p10 := eq_true p10; replace q10 := eq_true q10) | (have tu_ := tok83_1; clear tu_ tok83_1; go_at_call 74; (with_reducible refine (r3_digit.calls k1 (bt a0 x9_1) t159 _ A11.out).mono ?_); rintro e w' ⟨rfl, ⟨nd, rfl⟩⟩))
         go_ret2
         exact ⟨by first | rfl | (simp [errW_none, errW_some] <;> rfl) | (simp [*, errW_none, errW_some] <;> rfl), tw HB.out⟩
        ·rw [if_neg c15] at H
         have c15b0 : (x9_1 == 0) = false := beq_eq_false_iff_ne.mpr c15
         have c15b1 : (x9_1 != 0) = true := bne_iff_ne.mpr c15
         by_cases c16 : x9_1 ≥ (a0.size : Int)
         ·rw [if_pos c16] at H
          have c16b0 : decide ((a0.size : Int) ≤ x9_1) = true := decide_eq_true c16
          clear c16
          simp only [Option.some.injEq, Prod.mk.injEq] at H
          obtain ⟨rfl, rfl⟩ := H
          have p7 : 0 ≤ (x9_1 : Int) := of_decide_eq_true (by assumption)
          have q7 : x9_1 < (a0.size : Int) := of_decide_eq_true (by assumption)
          have hx7 := bt_at a0 x9_1
          replace p7 := eq_true p7
          replace q7 := eq_true q7
          have tok102_0 : True := trivial
          have tok102_1 : True := trivial
          go_wp2_with (first | (have tu_ := tok102_0; clear tu_ tok102_0; go_at_call 74; (with_reducible refine (r3_digit.calls k1 (bt a0 x9_1) t158 _ A8.out).mono ?_); rintro e w' ⟨rfl, ⟨nd, rfl⟩⟩; have p10 : 0 ≤ (x9_1 : Int) := of_decide_eq_true (by assumption); have q10 : x9_1 < (a0.size : Int) := of_decide_eq_true (by assumption); have hx10 := bt_at a0 x9_1; replace p10 := eq_true p10; replace q10 := eq_true q10) | (have tu_ := tok102_1; clear tu_ tok102_1; go_at_call 74; (with_reducible refine (r3_digit.calls k1 (bt a0 x9_1) t159 _ A11.out).mono ?_); rintro e w' ⟨rfl, ⟨nd, rfl⟩⟩))
          go_ret2
          exact ⟨by first | rfl | (simp [errW_none, errW_some] <;> rfl) | (simp [*, errW_none, errW_some] <;> rfl), tw HB.out⟩
         ·rw [if_neg c16] at H
          have c16b0 : decide ((a0.size : Int) ≤ x9_1) = false := decide_eq_false c16
          clear c16
          by_cases c18 : (bt a0 x9_1) = 59
          ·rw [if_pos c18] at H
           have c18b0 : ((bt a0 x9_1) == 59) = true := beq_iff_eq.mpr c18
           have c18b1 : ((bt a0 x9_1) != 59) = false := bne_eq_false_iff_eq.mpr c18
           clear c18
           replace H := Option.bind_eq_some_iff.mp H
           obtain ⟨t161, A190, H⟩ := H
           replace H : (some (t161, x9_1)) = some (r1, r2) := H
           have A19 := Az.mk A190
           clear A190
           simp only [Option.some.injEq, Prod.mk.injEq] at H
           obtain ⟨rfl, rfl⟩ := H
           have p7 : 0 ≤ (x9_1 : Int) := of_decide_eq_true (by assumption)
           have q7 : x9_1 < (a0.size : Int) := of_decide_eq_true (by assumption)
           have hx7 := bt_at a0 x9_1
           replace p7 := eq_true p7
           replace q7 := eq_true q7
           have tok127_0 : True := trivial
           have tok127_1 : True := trivial
           go_wp2_with (first | (have tu_ := tok127_0; clear tu_ tok127_0; go_at_call 74; (with_reducible refine (r3_digit.calls k1 (bt a0 x9_1) t158 _ A8.out).mono ?_); rintro e w' ⟨rfl, ⟨nd, rfl⟩⟩; have p10 : 0 ≤ (x9_1 : Int) := of_decide_eq_true (by assumption); have q10 : x9_1 < (a0.size : Int) := of_decide_eq_true (by assumption); have hx10 := bt_at a0 x9_1; replace p10 := eq_true p10; replace q10 := eq_true q10) | (have tu_ := tok127_1; clear tu_ tok127_1; go_at_call 74; (with_reducible refine (r3_digit.calls k1 (bt a0 x9_1) t159 _ A11.out).mono ?_); rintro e w' ⟨rfl, ⟨nd, rfl⟩⟩; have p17 : 0 ≤ (x9_1 : Int) := of_decide_eq_true (by assumption); have q17 : x9_1 < (a0.size : Int) := of_decide_eq_true (by assumption); have hx17 := bt_at a0 x9_1; replace p17 := eq_true p17; replace q17 := eq_true q17) | ((with_reducible refine gate_callee (f := 53) rfl ?_); refine goesL_ (some 59) rfl rfl Tryz.func53 (by kernel_rfl) rfl #[.int .i64 x8_1] rfl (by (try simp only [List.map_toArray, List.map_cons, List.map_nil]); first | done | rfl | (simp only [List.length_drop, List.length_take]; rfl)) ?_; (with_reducible refine (r1_Put.calls x8_1 t161 _ A19.out).mono ?_); rintro e w20 ⟨rfl, hb⟩; refine ⟨_, rfl, ?_⟩; have n0_ := Az.mk (below_step (tw HB.out) hb); clear HB; have HB := n0_; clear n0_; (try clear hb); (try clear hb2); (try clear hk); (try clear hi)))
           go_ret2
           exact ⟨by first | rfl | (simp [errW_none, errW_some] <;> rfl) | (simp [*, errW_none, errW_some] <;> rfl), tw HB.out⟩
          ·rw [if_neg c18] at H
           have c18b0 : ((bt a0 x9_1) == 59) = false := beq_eq_false_iff_ne.mpr c18
           have c18b1 : ((bt a0 x9_1) != 59) = true := bne_iff_ne.mpr c18
           simp only [Option.some.injEq, Prod.mk.injEq] at H
           obtain ⟨rfl, rfl⟩ := H
           have p7 : 0 ≤ (x9_1 : Int) := of_decide_eq_true (by assumption)
           have q7 : x9_1 < (a0.size : Int) := of_decide_eq_true (by assumption)
           have hx7 := bt_at a0 x9_1
           replace p7 := eq_true p7
           replace q7 := eq_true q7
           have tok142_0 : True := trivial
           have tok142_1 : True := trivial
           go_wp2_with (first | (have tu_ := tok142_0; clear tu_ tok142_0; go_at_call 74; (with_reducible refine (r3_digit.calls k1 (bt a0 x9_1) t158 _ A8.out).mono ?_); rintro e w' ⟨rfl, ⟨nd, rfl⟩⟩; have p10 : 0 ≤ (x9_1 : Int) := of_decide_eq_true (by assumption); have q10 : x9_1 < (a0.size : Int) := of_decide_eq_true (by assumption); have hx10 := bt_at a0 x9_1; replace p10 := eq_true p10; replace q10 := eq_true q10) | (have tu_ := tok142_1; clear tu_ tok142_1; go_at_call 74; (with_reducible refine (r3_digit.calls k1 (bt a0 x9_1) t159 _ A11.out).mono ?_); rintro e w' ⟨rfl, ⟨nd, rfl⟩⟩; have p17 : 0 ≤ (x9_1 : Int) := of_decide_eq_true (by assumption); have q17 : x9_1 < (a0.size : Int) := of_decide_eq_true (by assumption); have hx17 := bt_at a0 x9_1; replace p17 := eq_true p17; replace q17 := eq_true q17))
           go_ret2
           exact ⟨by first | rfl | (simp [errW_none, errW_some] <;> rfl) | (simp [*, errW_none, errW_some] <;> rfl), tw HB.out⟩
      ·rw [if_neg c9] at H
       have c9b0 : decide (0 ≤ t158) = false := decide_eq_false c9
       clear c9
       by_cases c21 : x9_1 = 0
       ·rw [if_pos c21] at H
        have c21b0 : (x9_1 == 0) = true := beq_iff_eq.mpr c21
        have c21b1 : (x9_1 != 0) = false := bne_eq_false_iff_eq.mpr c21
        clear c21
        simp only [Option.some.injEq, Prod.mk.injEq] at H
        obtain ⟨rfl, rfl⟩ := H
        have p7 : 0 ≤ (x9_1 : Int) := of_decide_eq_true (by assumption)
        have q7 : x9_1 < (a0.size : Int) := of_decide_eq_true (by assumption)
        have hx7 := bt_at a0 x9_1
        replace p7 := eq_true p7
        replace q7 := eq_true q7
        go_wp2_with (first | (go_at_call 74; (with_reducible refine (r3_digit.calls k1 (bt a0 x9_1) t158 _ A8.out).mono ?_); rintro e w' ⟨rfl, ⟨nd, rfl⟩⟩))
        go_ret2
        exact ⟨by first | rfl | (simp [errW_none, errW_some] <;> rfl) | (simp [*, errW_none, errW_some] <;> rfl), tw HB.out⟩
       ·rw [if_neg c21] at H
        have c21b0 : (x9_1 == 0) = false := beq_eq_false_iff_ne.mpr c21
        have c21b1 : (x9_1 != 0) = true := bne_iff_ne.mpr c21
        by_cases c22 : x9_1 ≥ (a0.size : Int)
        ·rw [if_pos c22] at H
         have c22b0 : decide ((a0.size : Int) ≤ x9_1) = true := decide_eq_true c22
         clear c22
         simp only [Option.some.injEq, Prod.mk.injEq] at H
         obtain ⟨rfl, rfl⟩ := H
         have p7 : 0 ≤ (x9_1 : Int) := of_decide_eq_true (by assumption)
         have q7 : x9_1 < (a0.size : Int) := of_decide_eq_true (by assumption)
         have hx7 := bt_at a0 x9_1
         replace p7 := eq_true p7
         replace q7 := eq_true q7
         go_wp2_with (first | (go_at_call 74; (with_reducible refine (r3_digit.calls k1 (bt a0 x9_1) t158 _ A8.out).mono ?_); rintro e w' ⟨rfl, ⟨nd, rfl⟩⟩))
         go_ret2
         exact ⟨by first | rfl | (simp [errW_none, errW_some] <;> rfl) | (simp [*, errW_none, errW_some] <;> rfl), tw HB.out⟩
        ·rw [if_neg c22] at H
         have c22b0 : decide ((a0.size : Int) ≤ x9_1) = false := decide_eq_false c22
         clear c22
         by_cases c24 : (bt a0 x9_1) = 59
         ·rw [if_pos c24] at H
          have c24b0 : ((bt a0 x9_1) == 59) = true := beq_iff_eq.mpr c24
          have c24b1 : ((bt a0 x9_1) != 59) = false := bne_eq_false_iff_eq.mpr c24
          clear c24
          replace H := Option.bind_eq_some_iff.mp H
          obtain ⟨t162, A250, H⟩ := H
          replace H : (some (t162, x9_1)) = some (r1, r2) := H
          have A25 := Az.mk A250
          clear A250
          simp only [Option.some.injEq, Prod.mk.injEq] at H
          obtain ⟨rfl, rfl⟩ := H
          have p7 : 0 ≤ (x9_1 : Int) := of_decide_eq_true (by assumption)
          have q7 : x9_1 < (a0.size : Int) := of_decide_eq_true (by assumption)
          have hx7 := bt_at a0 x9_1
          replace p7 := eq_true p7
          replace q7 := eq_true q7
          go_wp2_with (first | (go_at_call 74; (with_reducible refine (r3_digit.calls k1 (bt a0 x9_1) t158 _ A8.out).mono ?_); rintro e w' ⟨rfl, ⟨nd, rfl⟩⟩; have p23 : 0 ≤ (x9_1 : Int) := of_decide_eq_true (by assumption); have q23 : x9_1 < (a0.size : Int) := of_decide_eq_true (by assumption); have hx23 := bt_at a0 x9_1; replace p23 := eq_true p23; replace q23 := eq_true q23) | ((with_reducible refine gate_callee (f := 53) rfl ?_); refine goesL_ (some 59) rfl rfl Tryz.func53 (by kernel_rfl) rfl #[.int .i64 x8_1] rfl (by (try simp only [List.map_toArray, List.map_cons, List.map_nil]); first | done | rfl | (simp only [List.length_drop, List.length_take]; rfl)) ?_; (with_reducible refine (r1_Put.calls x8_1 t162 _ A25.out).mono ?_); rintro e w26 ⟨rfl, hb⟩; refine ⟨_, rfl, ?_⟩; have n0_ := Az.mk (below_step (tw HB.out) hb); clear HB; have HB := n0_; clear n0_; (try clear hb); (try clear hb2); (try clear hk); (try clear hi)))
          go_ret2
          exact ⟨by first | rfl | (simp [errW_none, errW_some] <;> rfl) | (simp [*, errW_none, errW_some] <;> rfl), tw HB.out⟩
         ·rw [if_neg c24] at H
          have c24b0 : ((bt a0 x9_1) == 59) = false := beq_eq_false_iff_ne.mpr c24
          have c24b1 : ((bt a0 x9_1) != 59) = true := bne_iff_ne.mpr c24
          simp only [Option.some.injEq, Prod.mk.injEq] at H
          obtain ⟨rfl, rfl⟩ := H
          have p7 : 0 ≤ (x9_1 : Int) := of_decide_eq_true (by assumption)
          have q7 : x9_1 < (a0.size : Int) := of_decide_eq_true (by assumption)
          have hx7 := bt_at a0 x9_1
          replace p7 := eq_true p7
          replace q7 := eq_true q7
          go_wp2_with (first | (go_at_call 74; (with_reducible refine (r3_digit.calls k1 (bt a0 x9_1) t158 _ A8.out).mono ?_); rintro e w' ⟨rfl, ⟨nd, rfl⟩⟩; have p23 : 0 ≤ (x9_1 : Int) := of_decide_eq_true (by assumption); have q23 : x9_1 < (a0.size : Int) := of_decide_eq_true (by assumption); have hx23 := bt_at a0 x9_1; replace p23 := eq_true p23; replace q23 := eq_true q23))
          go_ret2
          exact ⟨by first | rfl | (simp [errW_none, errW_some] <;> rfl) | (simp [*, errW_none, errW_some] <;> rfl), tw HB.out⟩
     ·rw [if_neg c6] at H
      exact absurd H (by simp)
    ·rw [if_neg c5] at H
     have c5b0 : decide (x9_1 < a2) = false := decide_eq_false c5
     clear c5
     by_cases c27 : x9_1 = 0
     ·rw [if_pos c27] at H
      have c27b0 : (x9_1 == 0) = true := beq_iff_eq.mpr c27
      have c27b1 : (x9_1 != 0) = false := bne_eq_false_iff_eq.mpr c27
      clear c27
      simp only [Option.some.injEq, Prod.mk.injEq] at H
      obtain ⟨rfl, rfl⟩ := H
      go_wp2
      go_ret2
      exact ⟨by first | rfl | (simp [errW_none, errW_some] <;> rfl) | (simp [*, errW_none, errW_some] <;> rfl), tw HB.out⟩
     ·rw [if_neg c27] at H
      have c27b0 : (x9_1 == 0) = false := beq_eq_false_iff_ne.mpr c27
      have c27b1 : (x9_1 != 0) = true := bne_iff_ne.mpr c27
      by_cases c28 : x9_1 ≥ (a0.size : Int)
      ·rw [if_pos c28] at H
       have c28b0 : decide ((a0.size : Int) ≤ x9_1) = true := decide_eq_true c28
       clear c28
       simp only [Option.some.injEq, Prod.mk.injEq] at H
       obtain ⟨rfl, rfl⟩ := H
       go_wp2
       go_ret2
       exact ⟨by first | rfl | (simp [errW_none, errW_some] <;> rfl) | (simp [*, errW_none, errW_some] <;> rfl), tw HB.out⟩
      ·rw [if_neg c28] at H
       have c28b0 : decide ((a0.size : Int) ≤ x9_1) = false := decide_eq_false c28
       clear c28
       by_cases c29 : 0 ≤ x9_1
       ·rw [if_pos c29] at H
        have c29b0 : decide (0 ≤ x9_1) = true := decide_eq_true c29
        clear c29
        by_cases c31 : (bt a0 x9_1) = 59
        ·rw [if_pos c31] at H
         have c31b0 : ((bt a0 x9_1) == 59) = true := beq_iff_eq.mpr c31
         have c31b1 : ((bt a0 x9_1) != 59) = false := bne_eq_false_iff_eq.mpr c31
         clear c31
         replace H := Option.bind_eq_some_iff.mp H
         obtain ⟨t163, A320, H⟩ := H
         replace H : (some (t163, x9_1)) = some (r1, r2) := H
         have A32 := Az.mk A320
         clear A320
         simp only [Option.some.injEq, Prod.mk.injEq] at H
         obtain ⟨rfl, rfl⟩ := H
         have p30 : 0 ≤ (x9_1 : Int) := of_decide_eq_true (by assumption)
         have q30 : x9_1 < (a0.size : Int) := of_decide_eq_true (by assumption)
         have hx30 := bt_at a0 x9_1
         replace p30 := eq_true p30
         replace q30 := eq_true q30
         go_wp2_with (first | ((with_reducible refine gate_callee (f := 53) rfl ?_); refine goesL_ (some 59) rfl rfl Tryz.func53 (by kernel_rfl) rfl #[.int .i64 x8_1] rfl (by (try simp only [List.map_toArray, List.map_cons, List.map_nil]); first | done | rfl | (simp only [List.length_drop, List.length_take]; rfl)) ?_; (with_reducible refine (r1_Put.calls x8_1 t163 _ A32.out).mono ?_); rintro e w33 ⟨rfl, hb⟩; refine ⟨_, rfl, ?_⟩; have n0_ := Az.mk (below_step (tw HB.out) hb); clear HB; have HB := n0_; clear n0_; (try clear hb); (try clear hb2); (try clear hk); (try clear hi)))
         go_ret2
         exact ⟨by first | rfl | (simp [errW_none, errW_some] <;> rfl) | (simp [*, errW_none, errW_some] <;> rfl), tw HB.out⟩
        ·rw [if_neg c31] at H
         have c31b0 : ((bt a0 x9_1) == 59) = false := beq_eq_false_iff_ne.mpr c31
         have c31b1 : ((bt a0 x9_1) != 59) = true := bne_iff_ne.mpr c31
         simp only [Option.some.injEq, Prod.mk.injEq] at H
         obtain ⟨rfl, rfl⟩ := H
         have p30 : 0 ≤ (x9_1 : Int) := of_decide_eq_true (by assumption)
         have q30 : x9_1 < (a0.size : Int) := of_decide_eq_true (by assumption)
         have hx30 := bt_at a0 x9_1
         replace p30 := eq_true p30
         replace q30 := eq_true q30
         go_wp2
         go_ret2
         exact ⟨by first | rfl | (simp [errW_none, errW_some] <;> rfl) | (simp [*, errW_none, errW_some] <;> rfl), tw HB.out⟩
       ·rw [if_neg c29] at H
        exact absurd H (by simp)
   ·rw [if_neg c4] at H
    have c4b0 : decide (x9_1 < (a0.size : Int)) = false := decide_eq_false c4
    clear c4
    by_cases c34 : x9_1 = 0
    ·rw [if_pos c34] at H
     have c34b0 : (x9_1 == 0) = true := beq_iff_eq.mpr c34
     have c34b1 : (x9_1 != 0) = false := bne_eq_false_iff_eq.mpr c34
     clear c34
     simp only [Option.some.injEq, Prod.mk.injEq] at H
     obtain ⟨rfl, rfl⟩ := H
     go_wp2
     go_ret2
     exact ⟨by first | rfl | (simp [errW_none, errW_some] <;> rfl) | (simp [*, errW_none, errW_some] <;> rfl), tw HB.out⟩
    ·rw [if_neg c34] at H
     have c34b0 : (x9_1 == 0) = false := beq_eq_false_iff_ne.mpr c34
     have c34b1 : (x9_1 != 0) = true := bne_iff_ne.mpr c34
     by_cases c35 : x9_1 ≥ (a0.size : Int)
     ·rw [if_pos c35] at H
      have c35b0 : decide ((a0.size : Int) ≤ x9_1) = true := decide_eq_true c35
      clear c35
      simp only [Option.some.injEq, Prod.mk.injEq] at H
      obtain ⟨rfl, rfl⟩ := H
      go_wp2
      go_ret2
      exact ⟨by first | rfl | (simp [errW_none, errW_some] <;> rfl) | (simp [*, errW_none, errW_some] <;> rfl), tw HB.out⟩
     ·rw [if_neg c35] at H
      have c35b0 : decide ((a0.size : Int) ≤ x9_1) = false := decide_eq_false c35
      clear c35
      by_cases c36 : 0 ≤ x9_1
      ·rw [if_pos c36] at H
       exact absurd H (by simp)
      ·rw [if_neg c36] at H
       exact absurd H (by simp)
def r3_Reference.l0 : Nat → ByteArray → List ByteArray → Int → Option (ByteArray × Int)
 | 0, _, _, _ => none
 | k + 1, x0, x4, x5 => if x5 < (x4.length : Int) then (if 0 ≤ x5 then ((r3_begins.f x0 (rdOf ByteArray.empty x4 x5)).bind fun t168 => (if t168 = true then (if x5 ≤ (wrap64 (x5 + 1)) then (if (wrap64 (x5 + 1)) ≤ 5 then (some ((⟨#[38, 60, 62, 34, 39]⟩ : ByteArray).extract (x5 : Int).toNat ((wrap64 (x5 + 1)) : Int).toNat, ((rdOf ByteArray.empty x4 x5).size : Int))) else (none)) else (none)) else (r3_Reference.l0 k x0 x4 (wrap64 (x5 + 1))))) else (none)) else ((r3_begins.f x0 (⟨#[38, 35, 120]⟩ : ByteArray)).bind fun t170 => (if t170 = true then (if 3 ≤ (x0.size : Int) then ((r3_number.f k (x0.extract 3 x0.size) 16 6).bind fun bt171 => (if bt171.1.toList = ([] : List UInt8) then (some ((⟨#[]⟩ : ByteArray), 0)) else (some (bt171.1, wrap64 ((wrap64 (3 + bt171.2)) + 1))))) else (none)) else ((r3_begins.f x0 (⟨#[38, 35]⟩ : ByteArray)).bind fun t173 => (if t173 = true then (if 2 ≤ (x0.size : Int) then ((r3_number.f k (x0.extract 2 x0.size) 10 7).bind fun bt174 => (if bt174.1.toList = ([] : List UInt8) then (some ((⟨#[]⟩ : ByteArray), 0)) else (some (bt174.1, wrap64 ((wrap64 (2 + bt174.2)) + 1))))) else (none)) else (if ([] : List UInt8) = ([] : List UInt8) then (some ((⟨#[]⟩ : ByteArray), 0)) else (some ((⟨#[]⟩ : ByteArray), (0 + 0) + 1)))))))
def r3_Reference.f (k : Nat) (a0 : ByteArray) : Option (ByteArray × Int) := r3_Reference.l0 k a0 (([(⟨#[38, 97, 109, 112, 59]⟩ : ByteArray), (⟨#[38, 108, 116, 59]⟩ : ByteArray), (⟨#[38, 103, 116, 59]⟩ : ByteArray), (⟨#[38, 113, 117, 111, 116, 59]⟩ : ByteArray), (⟨#[38, 97, 112, 111, 115, 59]⟩ : ByteArray)] : List ByteArray)) 0
set_option maxHeartbeats 8000000 in
set_option maxRecDepth 100000 in
theorem r3_Reference.calls (k : Nat) (a0 : ByteArray) (r1 : ByteArray) (r2 : Int) (w : World) (h : r3_Reference.f k a0 = some (r1, r2)) :
  Calls Tryz.prog 31 #[.string a0] w fun e w' => e = .returned (.tuple #[.string r1, .int .i64 r2]) ∧ Below w.heap.size w w' := by
 have HB := Az.mk (Below.refl w.heap.size w)
 have H := h
 unfold r3_Reference.f at H
 clear h
 obtain ⟨y164, hy164⟩ : ∃ y_ : List ByteArray, y_ = (([(⟨#[38, 97, 109, 112, 59]⟩ : ByteArray), (⟨#[38, 108, 116, 59]⟩ : ByteArray), (⟨#[38, 103, 116, 59]⟩ : ByteArray), (⟨#[38, 113, 117, 111, 116, 59]⟩ : ByteArray), (⟨#[38, 97, 112, 111, 115, 59]⟩ : ByteArray)] : List ByteArray)) := ⟨_, rfl⟩
 replace H : (r3_Reference.l0 k a0 y164 0) = some (r1, r2) := by first | (rw [hy164]; with_reducible exact H) | (have H2_ := (Option.bind_some _ _).symm.trans H; rw [hy164]; with_reducible exact H2_) | (have H2_ := (Option.bind_some _ _).symm.trans H; with_reducible exact H2_) | with_reducible exact H | (rw [hy164]; exact H) | exact H
 have Ny164 := Az.mk hy164
 clear hy164
 have H' := Az.mk H
 clear H
 go_enter Tryz.func31, Tryz.ntmps31
 go_wp2_with (first | ((with_reducible refine gate_dst (N := 9) rfl ?_); refine Kd.R_lit Kd.string _ 9 ?hg (N := 9) ?hd (xs := ([(⟨#[38, 97, 109, 112, 59]⟩ : ByteArray), (⟨#[38, 108, 116, 59]⟩ : ByteArray), (⟨#[38, 103, 116, 59]⟩ : ByteArray), (⟨#[38, 113, 117, 111, 116, 59]⟩ : ByteArray), (⟨#[38, 97, 112, 111, 115, 59]⟩ : ByteArray)] : List ByteArray)) (inner := [.string (⟨#[38, 97, 109, 112, 59]⟩ : ByteArray), .string (⟨#[38, 108, 116, 59]⟩ : ByteArray), .string (⟨#[38, 103, 116, 59]⟩ : ByteArray), .string (⟨#[38, 113, 117, 111, 116, 59]⟩ : ByteArray), .string (⟨#[38, 97, 112, 111, 115, 59]⟩ : ByteArray)]) (ok := fun _ => True) (okp := fun _ => True) ?hr ?hp (fun _ hk => hk) trivial (Below.refl _ _) (Nat.le_refl _) (by simp) ?_; (case hd => rfl); (case hg => rfl); (case hr => first | (go_simp; done) | (go_simp; rfl)); (case hp => exact (Reps.one (show Kd.M Kd.string _ _ _ (⟨#[38, 97, 109, 112, 59]⟩ : ByteArray) [.string (⟨#[38, 97, 109, 112, 59]⟩ : ByteArray)] from rfl) (Reps.one (show Kd.M Kd.string _ _ _ (⟨#[38, 108, 116, 59]⟩ : ByteArray) [.string (⟨#[38, 108, 116, 59]⟩ : ByteArray)] from rfl) (Reps.one (show Kd.M Kd.string _ _ _ (⟨#[38, 103, 116, 59]⟩ : ByteArray) [.string (⟨#[38, 103, 116, 59]⟩ : ByteArray)] from rfl) (Reps.one (show Kd.M Kd.string _ _ _ (⟨#[38, 113, 117, 111, 116, 59]⟩ : ByteArray) [.string (⟨#[38, 113, 117, 111, 116, 59]⟩ : ByteArray)] from rfl) (Reps.one (show Kd.M Kd.string _ _ _ (⟨#[38, 97, 112, 111, 115, 59]⟩ : ByteArray) [.string (⟨#[38, 97, 112, 111, 115, 59]⟩ : ByteArray)] from rfl) (Reps.none _ _))))))); intro v165 w2 ho3 hb hg_ hnew_; clear hg_ hnew_; (first | rw [← Ny164.out] at ho3 | (simp only [Int.reduceToNat] at ho3; rw [← Ny164.out] at ho3)); have n0_ := Az.mk (Kd.R_lower ho3 (below_size (tw HB.out))); have n1_ := Az.mk (below_step (tw HB.out) hb); clear HB; have HO166 := n0_; have HB := n1_; clear n0_ n1_; clear hb ho3))
 repeat (go_quiet (first | ((with_reducible refine gate_dst (N := 9) rfl ?_); refine Kd.R_lit Kd.string _ 9 ?hg (N := 9) ?hd (xs := ([(⟨#[38, 97, 109, 112, 59]⟩ : ByteArray), (⟨#[38, 108, 116, 59]⟩ : ByteArray), (⟨#[38, 103, 116, 59]⟩ : ByteArray), (⟨#[38, 113, 117, 111, 116, 59]⟩ : ByteArray), (⟨#[38, 97, 112, 111, 115, 59]⟩ : ByteArray)] : List ByteArray)) (inner := [.string (⟨#[38, 97, 109, 112, 59]⟩ : ByteArray), .string (⟨#[38, 108, 116, 59]⟩ : ByteArray), .string (⟨#[38, 103, 116, 59]⟩ : ByteArray), .string (⟨#[38, 113, 117, 111, 116, 59]⟩ : ByteArray), .string (⟨#[38, 97, 112, 111, 115, 59]⟩ : ByteArray)]) (ok := fun _ => True) (okp := fun _ => True) ?hr ?hp (fun _ hk => hk) trivial (Below.refl _ _) (Nat.le_refl _) (by simp) ?_; (case hd => rfl); (case hg => rfl); (case hr => first | (go_simp; done) | (go_simp; rfl)); (case hp => exact (Reps.one (show Kd.M Kd.string _ _ _ (⟨#[38, 97, 109, 112, 59]⟩ : ByteArray) [.string (⟨#[38, 97, 109, 112, 59]⟩ : ByteArray)] from rfl) (Reps.one (show Kd.M Kd.string _ _ _ (⟨#[38, 108, 116, 59]⟩ : ByteArray) [.string (⟨#[38, 108, 116, 59]⟩ : ByteArray)] from rfl) (Reps.one (show Kd.M Kd.string _ _ _ (⟨#[38, 103, 116, 59]⟩ : ByteArray) [.string (⟨#[38, 103, 116, 59]⟩ : ByteArray)] from rfl) (Reps.one (show Kd.M Kd.string _ _ _ (⟨#[38, 113, 117, 111, 116, 59]⟩ : ByteArray) [.string (⟨#[38, 113, 117, 111, 116, 59]⟩ : ByteArray)] from rfl) (Reps.one (show Kd.M Kd.string _ _ _ (⟨#[38, 97, 112, 111, 115, 59]⟩ : ByteArray) [.string (⟨#[38, 97, 112, 111, 115, 59]⟩ : ByteArray)] from rfl) (Reps.none _ _))))))); intro v165 w2 ho3 hb hg_ hnew_; clear hg_ hnew_; (first | rw [← Ny164.out] at ho3 | (simp only [Int.reduceToNat] at ho3; rw [← Ny164.out] at ho3)); have n0_ := Az.mk (Kd.R_lower ho3 (below_size (tw HB.out))); have n1_ := Az.mk (below_step (tw HB.out) hb); clear HB; have HO166 := n0_; have HB := n1_; clear n0_ n1_; clear hb ho3)); try go_wp2_with (first | ((with_reducible refine gate_dst (N := 9) rfl ?_); refine Kd.R_lit Kd.string _ 9 ?hg (N := 9) ?hd (xs := ([(⟨#[38, 97, 109, 112, 59]⟩ : ByteArray), (⟨#[38, 108, 116, 59]⟩ : ByteArray), (⟨#[38, 103, 116, 59]⟩ : ByteArray), (⟨#[38, 113, 117, 111, 116, 59]⟩ : ByteArray), (⟨#[38, 97, 112, 111, 115, 59]⟩ : ByteArray)] : List ByteArray)) (inner := [.string (⟨#[38, 97, 109, 112, 59]⟩ : ByteArray), .string (⟨#[38, 108, 116, 59]⟩ : ByteArray), .string (⟨#[38, 103, 116, 59]⟩ : ByteArray), .string (⟨#[38, 113, 117, 111, 116, 59]⟩ : ByteArray), .string (⟨#[38, 97, 112, 111, 115, 59]⟩ : ByteArray)]) (ok := fun _ => True) (okp := fun _ => True) ?hr ?hp (fun _ hk => hk) trivial (Below.refl _ _) (Nat.le_refl _) (by simp) ?_; (case hd => rfl); (case hg => rfl); (case hr => first | (go_simp; done) | (go_simp; rfl)); (case hp => exact (Reps.one (show Kd.M Kd.string _ _ _ (⟨#[38, 97, 109, 112, 59]⟩ : ByteArray) [.string (⟨#[38, 97, 109, 112, 59]⟩ : ByteArray)] from rfl) (Reps.one (show Kd.M Kd.string _ _ _ (⟨#[38, 108, 116, 59]⟩ : ByteArray) [.string (⟨#[38, 108, 116, 59]⟩ : ByteArray)] from rfl) (Reps.one (show Kd.M Kd.string _ _ _ (⟨#[38, 103, 116, 59]⟩ : ByteArray) [.string (⟨#[38, 103, 116, 59]⟩ : ByteArray)] from rfl) (Reps.one (show Kd.M Kd.string _ _ _ (⟨#[38, 113, 117, 111, 116, 59]⟩ : ByteArray) [.string (⟨#[38, 113, 117, 111, 116, 59]⟩ : ByteArray)] from rfl) (Reps.one (show Kd.M Kd.string _ _ _ (⟨#[38, 97, 112, 111, 115, 59]⟩ : ByteArray) [.string (⟨#[38, 97, 112, 111, 115, 59]⟩ : ByteArray)] from rfl) (Reps.none _ _))))))); intro v165 w2 ho3 hb hg_ hnew_; clear hg_ hnew_; (first | rw [← Ny164.out] at ho3 | (simp only [Int.reduceToNat] at ho3; rw [← Ny164.out] at ho3)); have n0_ := Az.mk (Kd.R_lower ho3 (below_size (tw HB.out))); have n1_ := Az.mk (below_step (tw HB.out) hb); clear HB; have HO166 := n0_; have HB := n1_; clear n0_ n1_; clear hb ho3)))
 go_loopg [5] k (fun kq v5 w' => ∃ (x5_1 : Int), v5 = .int .i64 x5_1 ∧ Az (r3_Reference.l0 kq a0 y164 x5_1 = some (r1, r2)) ∧ Az (kq ≤ k) ∧ Az (Kd.R Kd.string 9 w' w.heap.size (fun _ => True) v165 y164) ∧ Az (Below w.heap.size w w'))
 case atStart => exact ⟨(0), (by first | rfl | (simp; done) | (simp [*]; done)), H', ⟨Nat.le_refl _⟩, ⟨twr HO166.out⟩, ⟨tw HB.out⟩⟩
 case round =>
  clear H'
  try clear p2
  try clear c3
  obtain ⟨x5_1, rfl, HA, HK1, HO_4, HB⟩ := hrel
  cases gk with
  | zero => exact absurd HA.out (by simp [r3_Reference.l0])
  | succ k1 =>
   have H := HA.out
   clear HA
   simp only [r3_Reference.l0] at H
   by_cases c4 : x5_1 < (y164.length : Int)
   ·rw [if_pos c4] at H
    have c4b0 : decide (x5_1 < (y164.length : Int)) = true := decide_eq_true c4
    clear c4
    by_cases c5 : 0 ≤ x5_1
    ·rw [if_pos c5] at H
     have c5b0 : decide (0 ≤ x5_1) = true := decide_eq_true c5
     clear c5
     replace H := Option.bind_eq_some_iff.mp H
     obtain ⟨t168, A60, H⟩ := H
     replace H : (if t168 = true then (if x5_1 ≤ (wrap64 (x5_1 + 1)) then (if (wrap64 (x5_1 + 1)) ≤ 5 then (some ((⟨#[38, 60, 62, 34, 39]⟩ : ByteArray).extract (x5_1 : Int).toNat ((wrap64 (x5_1 + 1)) : Int).toNat, ((rdOf ByteArray.empty y164 x5_1).size : Int))) else (none)) else (none)) else (r3_Reference.l0 k1 a0 y164 (wrap64 (x5_1 + 1)))) = some (r1, r2) := H
     have A6 := Az.mk A60
     clear A60
     by_cases c7 : t168 = true
     ·subst c7
      have H1 : (if x5_1 ≤ (wrap64 (x5_1 + 1)) then (if (wrap64 (x5_1 + 1)) ≤ 5 then (some ((⟨#[38, 60, 62, 34, 39]⟩ : ByteArray).extract (x5_1 : Int).toNat ((wrap64 (x5_1 + 1)) : Int).toNat, ((rdOf ByteArray.empty y164 x5_1).size : Int))) else (none)) else (none)) = some (r1, r2) := by rw [if_pos rfl] at H; exact H
      clear H
      have H := H1
      clear H1
      have c8b0 := eq_true (of_decide_eq_true (by assumption) : 0 ≤ x5_1)
      by_cases c9 : x5_1 ≤ (wrap64 (x5_1 + 1))
      ·rw [if_pos c9] at H
       have c9b0 := eq_true c9
       have c9b1 : decide (x5_1 ≤ (wrap64 (x5_1 + 1))) = true := decide_eq_true c9
       by_cases c10 : (wrap64 (x5_1 + 1)) ≤ 5
       ·rw [if_pos c10] at H
        have c10b0 := eq_true c10
        have c10b1 : decide ((wrap64 (x5_1 + 1)) ≤ 5) = true := decide_eq_true c10
        simp only [Option.some.injEq, Prod.mk.injEq] at H
        obtain ⟨rfl, rfl⟩ := H
        obtain ⟨Ao11, co11, eo11⟩ := Kd.R_slice HO_4.out
        subst eo11
        have p167 : 0 ≤ (x5_1 : Int) := of_decide_eq_true (by assumption)
        have q167 : x5_1 < (y164.length : Int) := of_decide_eq_true (by assumption)
        obtain ⟨ad167, e167, hx167_0⟩ := Kd.at_string (Kd.R_reads' HO_4.out).2.2 x5_1 p167 q167
        cases e167
        replace p167 := eq_true p167
        replace q167 := eq_true q167
        go_wp2_with (first | (go_at_call 54; (with_reducible refine (r3_begins.calls a0 (rdOf ByteArray.empty y164 x5_1) true _ A6.out).mono ?_); rintro e w' ⟨rfl, ⟨nd, rfl⟩⟩; (try first | exact ⟨rfl, _, World.drewN_drewN _ _ _⟩ | exact ⟨rfl, _, Eq.trans (World.drewN_drewN _ _ _) (congrArg (World.drewN _) (Nat.add_assoc _ _ _))⟩); have p169 : 0 ≤ (x5_1 : Int) := of_decide_eq_true (by assumption); have q169 : x5_1 < (y164.length : Int) := of_decide_eq_true (by assumption); obtain ⟨ad169, e169, hx169_0⟩ := Kd.at_string (Kd.R_reads' HO_4.out).2.2 x5_1 p169 q169; obtain rfl : ad167 = ad169 := (by injection e169); replace p169 := eq_true p169; replace q169 := eq_true q169))
        repeat (go_quiet (first | (go_at_call 54; (with_reducible refine (r3_begins.calls a0 (rdOf ByteArray.empty y164 x5_1) true _ A6.out).mono ?_); rintro e w' ⟨rfl, ⟨nd, rfl⟩⟩; (try first | exact ⟨rfl, _, World.drewN_drewN _ _ _⟩ | exact ⟨rfl, _, Eq.trans (World.drewN_drewN _ _ _) (congrArg (World.drewN _) (Nat.add_assoc _ _ _))⟩); have p169 : 0 ≤ (x5_1 : Int) := of_decide_eq_true (by assumption); have q169 : x5_1 < (y164.length : Int) := of_decide_eq_true (by assumption); obtain ⟨ad169, e169, hx169_0⟩ := Kd.at_string (Kd.R_reads' HO_4.out).2.2 x5_1 p169 q169; obtain rfl : ad167 = ad169 := (by injection e169); replace p169 := eq_true p169; replace q169 := eq_true q169)); try go_wp2_with (first | (go_at_call 54; (with_reducible refine (r3_begins.calls a0 (rdOf ByteArray.empty y164 x5_1) true _ A6.out).mono ?_); rintro e w' ⟨rfl, ⟨nd, rfl⟩⟩; (try first | exact ⟨rfl, _, World.drewN_drewN _ _ _⟩ | exact ⟨rfl, _, Eq.trans (World.drewN_drewN _ _ _) (congrArg (World.drewN _) (Nat.add_assoc _ _ _))⟩); have p169 : 0 ≤ (x5_1 : Int) := of_decide_eq_true (by assumption); have q169 : x5_1 < (y164.length : Int) := of_decide_eq_true (by assumption); obtain ⟨ad169, e169, hx169_0⟩ := Kd.at_string (Kd.R_reads' HO_4.out).2.2 x5_1 p169 q169; obtain rfl : ad167 = ad169 := (by injection e169); replace p169 := eq_true p169; replace q169 := eq_true q169)))
        go_ret2
        exact ⟨by first | rfl | (simp [errW_none, errW_some] <;> rfl) | (simp [*, errW_none, errW_some] <;> rfl), tw HB.out⟩
       ·rw [if_neg c10] at H
        exact absurd H (by simp)
      ·rw [if_neg c9] at H
       exact absurd H (by simp)
     ·replace c7 := Bool.eq_false_iff.mpr c7
      subst c7
      have H1 : (r3_Reference.l0 k1 a0 y164 (wrap64 (x5_1 + 1))) = some (r1, r2) := by rw [if_neg (show ¬ (false = true) by decide)] at H; exact H
      clear H
      have H := H1
      clear H1
      have H' := Az.mk H
      clear H
      obtain ⟨Ao12, co12, eo12⟩ := Kd.R_slice HO_4.out
      subst eo12
      have p167 : 0 ≤ (x5_1 : Int) := of_decide_eq_true (by assumption)
      have q167 : x5_1 < (y164.length : Int) := of_decide_eq_true (by assumption)
      obtain ⟨ad167, e167, hx167_0⟩ := Kd.at_string (Kd.R_reads' HO_4.out).2.2 x5_1 p167 q167
      cases e167
      replace p167 := eq_true p167
      replace q167 := eq_true q167
      go_wp2_with (first | (go_at_call 54; (with_reducible refine (r3_begins.calls a0 (rdOf ByteArray.empty y164 x5_1) false _ A6.out).mono ?_); rintro e w' ⟨rfl, ⟨nd, rfl⟩⟩; (try first | exact ⟨rfl, _, World.drewN_drewN _ _ _⟩ | exact ⟨rfl, _, Eq.trans (World.drewN_drewN _ _ _) (congrArg (World.drewN _) (Nat.add_assoc _ _ _))⟩)))
      repeat (go_quiet (first | (go_at_call 54; (with_reducible refine (r3_begins.calls a0 (rdOf ByteArray.empty y164 x5_1) false _ A6.out).mono ?_); rintro e w' ⟨rfl, ⟨nd, rfl⟩⟩; (try first | exact ⟨rfl, _, World.drewN_drewN _ _ _⟩ | exact ⟨rfl, _, Eq.trans (World.drewN_drewN _ _ _) (congrArg (World.drewN _) (Nat.add_assoc _ _ _))⟩))); try go_wp2_with (first | (go_at_call 54; (with_reducible refine (r3_begins.calls a0 (rdOf ByteArray.empty y164 x5_1) false _ A6.out).mono ?_); rintro e w' ⟨rfl, ⟨nd, rfl⟩⟩; (try first | exact ⟨rfl, _, World.drewN_drewN _ _ _⟩ | exact ⟨rfl, _, Eq.trans (World.drewN_drewN _ _ _) (congrArg (World.drewN _) (Nat.add_assoc _ _ _))⟩))))
      go_roundg k1
      case measure => have := HK1.out; omega
      case rel => exact ⟨(wrap64 (x5_1 + 1)), (by first | rfl | (simp; done) | (simp [*]; done)), H', ⟨by have := HK1.out; omega⟩, ⟨twr HO_4.out⟩, ⟨tw HB.out⟩⟩
    ·rw [if_neg c5] at H
     exact absurd H (by simp)
   ·rw [if_neg c4] at H
    have c4b0 : decide (x5_1 < (y164.length : Int)) = false := decide_eq_false c4
    clear c4
    replace H := Option.bind_eq_some_iff.mp H
    obtain ⟨t170, A130, H⟩ := H
    replace H : (if t170 = true then (if 3 ≤ (a0.size : Int) then ((r3_number.f k1 (a0.extract 3 a0.size) 16 6).bind fun bt171 => (if bt171.1.toList = ([] : List UInt8) then (some ((⟨#[]⟩ : ByteArray), 0)) else (some (bt171.1, wrap64 ((wrap64 (3 + bt171.2)) + 1))))) else (none)) else ((r3_begins.f a0 (⟨#[38, 35]⟩ : ByteArray)).bind fun t173 => (if t173 = true then (if 2 ≤ (a0.size : Int) then ((r3_number.f k1 (a0.extract 2 a0.size) 10 7).bind fun bt174 => (if bt174.1.toList = ([] : List UInt8) then (some ((⟨#[]⟩ : ByteArray), 0)) else (some (bt174.1, wrap64 ((wrap64 (2 + bt174.2)) + 1))))) else (none)) else (if ([] : List UInt8) = ([] : List UInt8) then (some ((⟨#[]⟩ : ByteArray), 0)) else (some ((⟨#[]⟩ : ByteArray), (0 + 0) + 1)))))) = some (r1, r2) := H
    have A13 := Az.mk A130
    clear A130
    by_cases c14 : t170 = true
    ·subst c14
     have H1 : (if 3 ≤ (a0.size : Int) then ((r3_number.f k1 (a0.extract 3 a0.size) 16 6).bind fun bt171 => (if bt171.1.toList = ([] : List UInt8) then (some ((⟨#[]⟩ : ByteArray), 0)) else (some (bt171.1, wrap64 ((wrap64 (3 + bt171.2)) + 1))))) else (none)) = some (r1, r2) := by rw [if_pos rfl] at H; exact H
     clear H
     have H := H1
     clear H1
     by_cases c15 : 3 ≤ (a0.size : Int)
     ·rw [if_pos c15] at H
      have c15b0 := eq_true c15
      have c15b1 : decide (3 ≤ (a0.size : Int)) = true := decide_eq_true c15
      clear c15
      replace H := Option.bind_eq_some_iff.mp H
      obtain ⟨⟨t171, t172⟩, A160, H⟩ := H
      replace H : (if t171.toList = ([] : List UInt8) then (some ((⟨#[]⟩ : ByteArray), 0)) else (some (t171, wrap64 ((wrap64 (3 + t172)) + 1)))) = some (r1, r2) := H
      have A16 := Az.mk A160
      clear A160
      by_cases c17 : t171.toList = ([] : List UInt8)
      ·rw [if_pos c17] at H
       have c17b0 : (t171.toList == ([] : List UInt8)) = true := beq_iff_eq.mpr c17
       have c17b1 : (t171.toList != ([] : List UInt8)) = false := bne_eq_false_iff_eq.mpr c17
       clear c17
       simp only [Option.some.injEq, Prod.mk.injEq] at H
       obtain ⟨rfl, rfl⟩ := H
       obtain ⟨Ao18, co18, eo18⟩ := Kd.R_slice HO_4.out
       subst eo18
       go_wp2_with (first | (go_at_call 54; (with_reducible refine (r3_begins.calls a0 (⟨#[38, 35, 120]⟩ : ByteArray) true _ A13.out).mono ?_); rintro e w' ⟨rfl, ⟨nd, rfl⟩⟩; (try first | exact ⟨rfl, _, World.drewN_drewN _ _ _⟩ | exact ⟨rfl, _, Eq.trans (World.drewN_drewN _ _ _) (congrArg (World.drewN _) (Nat.add_assoc _ _ _))⟩)) | (go_at_call 55; (with_reducible refine (r3_number.calls k1 (a0.extract 3 a0.size) 16 6 t171 t172 _ A16.out).mono ?_); rintro e w19 ⟨rfl, hb⟩; have n0_ := Az.mk (Kd.R_below (twr HO_4.out) hb); have n1_ := Az.mk (below_step (tw HB.out) hb); clear HO_4; clear HB; have HO_4 := n0_; have HB := n1_; clear n0_ n1_; (try clear hb); (try clear hb2); (try clear hk); (try clear hi)))
       repeat (go_quiet (first | (go_at_call 54; (with_reducible refine (r3_begins.calls a0 (⟨#[38, 35, 120]⟩ : ByteArray) true _ A13.out).mono ?_); rintro e w' ⟨rfl, ⟨nd, rfl⟩⟩; (try first | exact ⟨rfl, _, World.drewN_drewN _ _ _⟩ | exact ⟨rfl, _, Eq.trans (World.drewN_drewN _ _ _) (congrArg (World.drewN _) (Nat.add_assoc _ _ _))⟩)) | (go_at_call 55; (with_reducible refine (r3_number.calls k1 (a0.extract 3 a0.size) 16 6 t171 t172 _ A16.out).mono ?_); rintro e w19 ⟨rfl, hb⟩; have n0_ := Az.mk (Kd.R_below (twr HO_4.out) hb); have n1_ := Az.mk (below_step (tw HB.out) hb); clear HO_4; clear HB; have HO_4 := n0_; have HB := n1_; clear n0_ n1_; (try clear hb); (try clear hb2); (try clear hk); (try clear hi))); try go_wp2_with (first | (go_at_call 54; (with_reducible refine (r3_begins.calls a0 (⟨#[38, 35, 120]⟩ : ByteArray) true _ A13.out).mono ?_); rintro e w' ⟨rfl, ⟨nd, rfl⟩⟩; (try first | exact ⟨rfl, _, World.drewN_drewN _ _ _⟩ | exact ⟨rfl, _, Eq.trans (World.drewN_drewN _ _ _) (congrArg (World.drewN _) (Nat.add_assoc _ _ _))⟩)) | (go_at_call 55; (with_reducible refine (r3_number.calls k1 (a0.extract 3 a0.size) 16 6 t171 t172 _ A16.out).mono ?_); rintro e w19 ⟨rfl, hb⟩; have n0_ := Az.mk (Kd.R_below (twr HO_4.out) hb); have n1_ := Az.mk (below_step (tw HB.out) hb); clear HO_4; clear HB; have HO_4 := n0_; have HB := n1_; clear n0_ n1_; (try clear hb); (try clear hb2); (try clear hk); (try clear hi))))
       go_ret2
       exact ⟨by first | rfl | (simp [errW_none, errW_some] <;> rfl) | (simp [*, errW_none, errW_some] <;> rfl), tw HB.out⟩
      ·rw [if_neg c17] at H
       have c17b0 : (t171.toList == ([] : List UInt8)) = false := beq_eq_false_iff_ne.mpr c17
       have c17b1 : (t171.toList != ([] : List UInt8)) = true := bne_iff_ne.mpr c17
       simp only [Option.some.injEq, Prod.mk.injEq] at H
       obtain ⟨rfl, rfl⟩ := H
       obtain ⟨Ao20, co20, eo20⟩ := Kd.R_slice HO_4.out
       subst eo20
       go_wp2_with (first | (go_at_call 54; (with_reducible refine (r3_begins.calls a0 (⟨#[38, 35, 120]⟩ : ByteArray) true _ A13.out).mono ?_); rintro e w' ⟨rfl, ⟨nd, rfl⟩⟩; (try first | exact ⟨rfl, _, World.drewN_drewN _ _ _⟩ | exact ⟨rfl, _, Eq.trans (World.drewN_drewN _ _ _) (congrArg (World.drewN _) (Nat.add_assoc _ _ _))⟩)) | (go_at_call 55; (with_reducible refine (r3_number.calls k1 (a0.extract 3 a0.size) 16 6 t171 t172 _ A16.out).mono ?_); rintro e w21 ⟨rfl, hb⟩; have n0_ := Az.mk (Kd.R_below (twr HO_4.out) hb); have n1_ := Az.mk (below_step (tw HB.out) hb); clear HO_4; clear HB; have HO_4 := n0_; have HB := n1_; clear n0_ n1_; (try clear hb); (try clear hb2); (try clear hk); (try clear hi)))
       repeat (go_quiet (first | (go_at_call 54; (with_reducible refine (r3_begins.calls a0 (⟨#[38, 35, 120]⟩ : ByteArray) true _ A13.out).mono ?_); rintro e w' ⟨rfl, ⟨nd, rfl⟩⟩; (try first | exact ⟨rfl, _, World.drewN_drewN _ _ _⟩ | exact ⟨rfl, _, Eq.trans (World.drewN_drewN _ _ _) (congrArg (World.drewN _) (Nat.add_assoc _ _ _))⟩)) | (go_at_call 55; (with_reducible refine (r3_number.calls k1 (a0.extract 3 a0.size) 16 6 t171 t172 _ A16.out).mono ?_); rintro e w21 ⟨rfl, hb⟩; have n0_ := Az.mk (Kd.R_below (twr HO_4.out) hb); have n1_ := Az.mk (below_step (tw HB.out) hb); clear HO_4; clear HB; have HO_4 := n0_; have HB := n1_; clear n0_ n1_; (try clear hb); (try clear hb2); (try clear hk); (try clear hi))); try go_wp2_with (first | (go_at_call 54; (with_reducible refine (r3_begins.calls a0 (⟨#[38, 35, 120]⟩ : ByteArray) true _ A13.out).mono ?_); rintro e w' ⟨rfl, ⟨nd, rfl⟩⟩; (try first | exact ⟨rfl, _, World.drewN_drewN _ _ _⟩ | exact ⟨rfl, _, Eq.trans (World.drewN_drewN _ _ _) (congrArg (World.drewN _) (Nat.add_assoc _ _ _))⟩)) | (go_at_call 55; (with_reducible refine (r3_number.calls k1 (a0.extract 3 a0.size) 16 6 t171 t172 _ A16.out).mono ?_); rintro e w21 ⟨rfl, hb⟩; have n0_ := Az.mk (Kd.R_below (twr HO_4.out) hb); have n1_ := Az.mk (below_step (tw HB.out) hb); clear HO_4; clear HB; have HO_4 := n0_; have HB := n1_; clear n0_ n1_; (try clear hb); (try clear hb2); (try clear hk); (try clear hi))))
       go_ret2
       exact ⟨by first | rfl | (simp [errW_none, errW_some] <;> rfl) | (simp [*, errW_none, errW_some] <;> rfl), tw HB.out⟩
     ·rw [if_neg c15] at H
      exact absurd H (by simp)
    ·replace c14 := Bool.eq_false_iff.mpr c14
     subst c14
     have H1 : ((r3_begins.f a0 (⟨#[38, 35]⟩ : ByteArray)).bind fun t173 => (if t173 = true then (if 2 ≤ (a0.size : Int) then ((r3_number.f k1 (a0.extract 2 a0.size) 10 7).bind fun bt174 => (if bt174.1.toList = ([] : List UInt8) then (some ((⟨#[]⟩ : ByteArray), 0)) else (some (bt174.1, wrap64 ((wrap64 (2 + bt174.2)) + 1))))) else (none)) else (if ([] : List UInt8) = ([] : List UInt8) then (some ((⟨#[]⟩ : ByteArray), 0)) else (some ((⟨#[]⟩ : ByteArray), (0 + 0) + 1))))) = some (r1, r2) := by rw [if_neg (show ¬ (false = true) by decide)] at H; exact H
     clear H
     have H := H1
     clear H1
     replace H := Option.bind_eq_some_iff.mp H
     obtain ⟨t173, A220, H⟩ := H
     replace H : (if t173 = true then (if 2 ≤ (a0.size : Int) then ((r3_number.f k1 (a0.extract 2 a0.size) 10 7).bind fun bt174 => (if bt174.1.toList = ([] : List UInt8) then (some ((⟨#[]⟩ : ByteArray), 0)) else (some (bt174.1, wrap64 ((wrap64 (2 + bt174.2)) + 1))))) else (none)) else (if ([] : List UInt8) = ([] : List UInt8) then (some ((⟨#[]⟩ : ByteArray), 0)) else (some ((⟨#[]⟩ : ByteArray), (0 + 0) + 1)))) = some (r1, r2) := H
     have A22 := Az.mk A220
     clear A220
     by_cases c23 : t173 = true
     ·subst c23
      have H1 : (if 2 ≤ (a0.size : Int) then ((r3_number.f k1 (a0.extract 2 a0.size) 10 7).bind fun bt174 => (if bt174.1.toList = ([] : List UInt8) then (some ((⟨#[]⟩ : ByteArray), 0)) else (some (bt174.1, wrap64 ((wrap64 (2 + bt174.2)) + 1))))) else (none)) = some (r1, r2) := by rw [if_pos rfl] at H; exact H
      clear H
      have H := H1
      clear H1
      by_cases c24 : 2 ≤ (a0.size : Int)
      ·rw [if_pos c24] at H
       have c24b0 := eq_true c24
       have c24b1 : decide (2 ≤ (a0.size : Int)) = true := decide_eq_true c24
       clear c24
       replace H := Option.bind_eq_some_iff.mp H
       obtain ⟨⟨t174, t175⟩, A250, H⟩ := H
       replace H : (if t174.toList = ([] : List UInt8) then (some ((⟨#[]⟩ : ByteArray), 0)) else (some (t174, wrap64 ((wrap64 (2 + t175)) + 1)))) = some (r1, r2) := H
       have A25 := Az.mk A250
       clear A250
       by_cases c26 : t174.toList = ([] : List UInt8)
       ·rw [if_pos c26] at H
        have c26b0 : (t174.toList == ([] : List UInt8)) = true := beq_iff_eq.mpr c26
        have c26b1 : (t174.toList != ([] : List UInt8)) = false := bne_eq_false_iff_eq.mpr c26
        clear c26
        simp only [Option.some.injEq, Prod.mk.injEq] at H
        obtain ⟨rfl, rfl⟩ := H
        obtain ⟨Ao27, co27, eo27⟩ := Kd.R_slice HO_4.out
        subst eo27
        go_wp2_with (first | (go_at_call 54; (with_reducible refine (r3_begins.calls a0 (⟨#[38, 35, 120]⟩ : ByteArray) false _ A13.out).mono ?_); rintro e w' ⟨rfl, ⟨nd, rfl⟩⟩; (try first | exact ⟨rfl, _, World.drewN_drewN _ _ _⟩ | exact ⟨rfl, _, Eq.trans (World.drewN_drewN _ _ _) (congrArg (World.drewN _) (Nat.add_assoc _ _ _))⟩)) | (go_at_call 54; (with_reducible refine (r3_begins.calls a0 (⟨#[38, 35]⟩ : ByteArray) true _ A22.out).mono ?_); rintro e w' ⟨rfl, ⟨nd, rfl⟩⟩; (try first | exact ⟨rfl, _, World.drewN_drewN _ _ _⟩ | exact ⟨rfl, _, Eq.trans (World.drewN_drewN _ _ _) (congrArg (World.drewN _) (Nat.add_assoc _ _ _))⟩)) | (go_at_call 55; (with_reducible refine (r3_number.calls k1 (a0.extract 2 a0.size) 10 7 t174 t175 _ A25.out).mono ?_); rintro e w28 ⟨rfl, hb⟩; have n0_ := Az.mk (Kd.R_below (twr HO_4.out) hb); have n1_ := Az.mk (below_step (tw HB.out) hb); clear HO_4; clear HB; have HO_4 := n0_; have HB := n1_; clear n0_ n1_; (try clear hb); (try clear hb2); (try clear hk); (try clear hi)))
        repeat (go_quiet (first | (go_at_call 54; (with_reducible refine (r3_begins.calls a0 (⟨#[38, 35, 120]⟩ : ByteArray) false _ A13.out).mono ?_); rintro e w' ⟨rfl, ⟨nd, rfl⟩⟩; (try first | exact ⟨rfl, _, World.drewN_drewN _ _ _⟩ | exact ⟨rfl, _, Eq.trans (World.drewN_drewN _ _ _) (congrArg (World.drewN _) (Nat.add_assoc _ _ _))⟩)) | (go_at_call 54; (with_reducible refine (r3_begins.calls a0 (⟨#[38, 35]⟩ : ByteArray) true _ A22.out).mono ?_); rintro e w' ⟨rfl, ⟨nd, rfl⟩⟩; (try first | exact ⟨rfl, _, World.drewN_drewN _ _ _⟩ | exact ⟨rfl, _, Eq.trans (World.drewN_drewN _ _ _) (congrArg (World.drewN _) (Nat.add_assoc _ _ _))⟩)) | (go_at_call 55; (with_reducible refine (r3_number.calls k1 (a0.extract 2 a0.size) 10 7 t174 t175 _ A25.out).mono ?_); rintro e w28 ⟨rfl, hb⟩; have n0_ := Az.mk (Kd.R_below (twr HO_4.out) hb); have n1_ := Az.mk (below_step (tw HB.out) hb); clear HO_4; clear HB; have HO_4 := n0_; have HB := n1_; clear n0_ n1_; (try clear hb); (try clear hb2); (try clear hk); (try clear hi))); try go_wp2_with (first | (go_at_call 54; (with_reducible refine (r3_begins.calls a0 (⟨#[38, 35, 120]⟩ : ByteArray) false _ A13.out).mono ?_); rintro e w' ⟨rfl, ⟨nd, rfl⟩⟩; (try first | exact ⟨rfl, _, World.drewN_drewN _ _ _⟩ | exact ⟨rfl, _, Eq.trans (World.drewN_drewN _ _ _) (congrArg (World.drewN _) (Nat.add_assoc _ _ _))⟩)) | (go_at_call 54; (with_reducible refine (r3_begins.calls a0 (⟨#[38, 35]⟩ : ByteArray) true _ A22.out).mono ?_); rintro e w' ⟨rfl, ⟨nd, rfl⟩⟩; (try first | exact ⟨rfl, _, World.drewN_drewN _ _ _⟩ | exact ⟨rfl, _, Eq.trans (World.drewN_drewN _ _ _) (congrArg (World.drewN _) (Nat.add_assoc _ _ _))⟩)) | (go_at_call 55; (with_reducible refine (r3_number.calls k1 (a0.extract 2 a0.size) 10 7 t174 t175 _ A25.out).mono ?_); rintro e w28 ⟨rfl, hb⟩; have n0_ := Az.mk (Kd.R_below (twr HO_4.out) hb); have n1_ := Az.mk (below_step (tw HB.out) hb); clear HO_4; clear HB; have HO_4 := n0_; have HB := n1_; clear n0_ n1_; (try clear hb); (try clear hb2); (try clear hk); (try clear hi))))
        go_ret2
        exact ⟨by first | rfl | (simp [errW_none, errW_some] <;> rfl) | (simp [*, errW_none, errW_some] <;> rfl), tw HB.out⟩
       ·rw [if_neg c26] at H
        have c26b0 : (t174.toList == ([] : List UInt8)) = false := beq_eq_false_iff_ne.mpr c26
        have c26b1 : (t174.toList != ([] : List UInt8)) = true := bne_iff_ne.mpr c26
        simp only [Option.some.injEq, Prod.mk.injEq] at H
        obtain ⟨rfl, rfl⟩ := H
        obtain ⟨Ao29, co29, eo29⟩ := Kd.R_slice HO_4.out
        subst eo29
        go_wp2_with (first | (go_at_call 54; (with_reducible refine (r3_begins.calls a0 (⟨#[38, 35, 120]⟩ : ByteArray) false _ A13.out).mono ?_); rintro e w' ⟨rfl, ⟨nd, rfl⟩⟩; (try first | exact ⟨rfl, _, World.drewN_drewN _ _ _⟩ | exact ⟨rfl, _, Eq.trans (World.drewN_drewN _ _ _) (congrArg (World.drewN _) (Nat.add_assoc _ _ _))⟩)) | (go_at_call 54; (with_reducible refine (r3_begins.calls a0 (⟨#[38, 35]⟩ : ByteArray) true _ A22.out).mono ?_); rintro e w' ⟨rfl, ⟨nd, rfl⟩⟩; (try first | exact ⟨rfl, _, World.drewN_drewN _ _ _⟩ | exact ⟨rfl, _, Eq.trans (World.drewN_drewN _ _ _) (congrArg (World.drewN _) (Nat.add_assoc _ _ _))⟩)) | (go_at_call 55; (with_reducible refine (r3_number.calls k1 (a0.extract 2 a0.size) 10 7 t174 t175 _ A25.out).mono ?_); rintro e w30 ⟨rfl, hb⟩; have n0_ := Az.mk (Kd.R_below (twr HO_4.out) hb); have n1_ := Az.mk (below_step (tw HB.out) hb); clear HO_4; clear HB; have HO_4 := n0_; have HB := n1_; clear n0_ n1_; (try clear hb); (try clear hb2); (try clear hk); (try clear hi)))
        repeat (go_quiet (first | (go_at_call 54; (with_reducible refine (r3_begins.calls a0 (⟨#[38, 35, 120]⟩ : ByteArray) false _ A13.out).mono ?_); rintro e w' ⟨rfl, ⟨nd, rfl⟩⟩; (try first | exact ⟨rfl, _, World.drewN_drewN _ _ _⟩ | exact ⟨rfl, _, Eq.trans (World.drewN_drewN _ _ _) (congrArg (World.drewN _) (Nat.add_assoc _ _ _))⟩)) | (go_at_call 54; (with_reducible refine (r3_begins.calls a0 (⟨#[38, 35]⟩ : ByteArray) true _ A22.out).mono ?_); rintro e w' ⟨rfl, ⟨nd, rfl⟩⟩; (try first | exact ⟨rfl, _, World.drewN_drewN _ _ _⟩ | exact ⟨rfl, _, Eq.trans (World.drewN_drewN _ _ _) (congrArg (World.drewN _) (Nat.add_assoc _ _ _))⟩)) | (go_at_call 55; (with_reducible refine (r3_number.calls k1 (a0.extract 2 a0.size) 10 7 t174 t175 _ A25.out).mono ?_); rintro e w30 ⟨rfl, hb⟩; have n0_ := Az.mk (Kd.R_below (twr HO_4.out) hb); have n1_ := Az.mk (below_step (tw HB.out) hb); clear HO_4; clear HB; have HO_4 := n0_; have HB := n1_; clear n0_ n1_; (try clear hb); (try clear hb2); (try clear hk); (try clear hi))); try go_wp2_with (first | (go_at_call 54; (with_reducible refine (r3_begins.calls a0 (⟨#[38, 35, 120]⟩ : ByteArray) false _ A13.out).mono ?_); rintro e w' ⟨rfl, ⟨nd, rfl⟩⟩; (try first | exact ⟨rfl, _, World.drewN_drewN _ _ _⟩ | exact ⟨rfl, _, Eq.trans (World.drewN_drewN _ _ _) (congrArg (World.drewN _) (Nat.add_assoc _ _ _))⟩)) | (go_at_call 54; (with_reducible refine (r3_begins.calls a0 (⟨#[38, 35]⟩ : ByteArray) true _ A22.out).mono ?_); rintro e w' ⟨rfl, ⟨nd, rfl⟩⟩; (try first | exact ⟨rfl, _, World.drewN_drewN _ _ _⟩ | exact ⟨rfl, _, Eq.trans (World.drewN_drewN _ _ _) (congrArg (World.drewN _) (Nat.add_assoc _ _ _))⟩)) | (go_at_call 55; (with_reducible refine (r3_number.calls k1 (a0.extract 2 a0.size) 10 7 t174 t175 _ A25.out).mono ?_); rintro e w30 ⟨rfl, hb⟩; have n0_ := Az.mk (Kd.R_below (twr HO_4.out) hb); have n1_ := Az.mk (below_step (tw HB.out) hb); clear HO_4; clear HB; have HO_4 := n0_; have HB := n1_; clear n0_ n1_; (try clear hb); (try clear hb2); (try clear hk); (try clear hi))))
        go_ret2
        exact ⟨by first | rfl | (simp [errW_none, errW_some] <;> rfl) | (simp [*, errW_none, errW_some] <;> rfl), tw HB.out⟩
      ·rw [if_neg c24] at H
       exact absurd H (by simp)
     ·replace c23 := Bool.eq_false_iff.mpr c23
      subst c23
      have H1 : (if ([] : List UInt8) = ([] : List UInt8) then (some ((⟨#[]⟩ : ByteArray), 0)) else (some ((⟨#[]⟩ : ByteArray), (0 + 0) + 1))) = some (r1, r2) := by rw [if_neg (show ¬ (false = true) by decide)] at H; exact H
      clear H
      have H := H1
      clear H1
      by_cases c31 : ([] : List UInt8) = ([] : List UInt8)
      ·rw [if_pos c31] at H
       have c31b0 : (([] : List UInt8) == ([] : List UInt8)) = true := beq_iff_eq.mpr c31
       have c31b1 : (([] : List UInt8) != ([] : List UInt8)) = false := bne_eq_false_iff_eq.mpr c31
       clear c31
       simp only [Option.some.injEq, Prod.mk.injEq] at H
       obtain ⟨rfl, rfl⟩ := H
       obtain ⟨Ao32, co32, eo32⟩ := Kd.R_slice HO_4.out
       subst eo32
       go_wp2_with (first | (go_at_call 54; (with_reducible refine (r3_begins.calls a0 (⟨#[38, 35, 120]⟩ : ByteArray) false _ A13.out).mono ?_); rintro e w' ⟨rfl, ⟨nd, rfl⟩⟩; (try first | exact ⟨rfl, _, World.drewN_drewN _ _ _⟩ | exact ⟨rfl, _, Eq.trans (World.drewN_drewN _ _ _) (congrArg (World.drewN _) (Nat.add_assoc _ _ _))⟩)) | (go_at_call 54; (with_reducible refine (r3_begins.calls a0 (⟨#[38, 35]⟩ : ByteArray) false _ A22.out).mono ?_); rintro e w' ⟨rfl, ⟨nd, rfl⟩⟩; (try first | exact ⟨rfl, _, World.drewN_drewN _ _ _⟩ | exact ⟨rfl, _, Eq.trans (World.drewN_drewN _ _ _) (congrArg (World.drewN _) (Nat.add_assoc _ _ _))⟩)))
       repeat (go_quiet (first | (go_at_call 54; (with_reducible refine (r3_begins.calls a0 (⟨#[38, 35, 120]⟩ : ByteArray) false _ A13.out).mono ?_); rintro e w' ⟨rfl, ⟨nd, rfl⟩⟩; (try first | exact ⟨rfl, _, World.drewN_drewN _ _ _⟩ | exact ⟨rfl, _, Eq.trans (World.drewN_drewN _ _ _) (congrArg (World.drewN _) (Nat.add_assoc _ _ _))⟩)) | (go_at_call 54; (with_reducible refine (r3_begins.calls a0 (⟨#[38, 35]⟩ : ByteArray) false _ A22.out).mono ?_); rintro e w' ⟨rfl, ⟨nd, rfl⟩⟩; (try first | exact ⟨rfl, _, World.drewN_drewN _ _ _⟩ | exact ⟨rfl, _, Eq.trans (World.drewN_drewN _ _ _) (congrArg (World.drewN _) (Nat.add_assoc _ _ _))⟩))); try go_wp2_with (first | (go_at_call 54; (with_reducible refine (r3_begins.calls a0 (⟨#[38, 35, 120]⟩ : ByteArray) false _ A13.out).mono ?_); rintro e w' ⟨rfl, ⟨nd, rfl⟩⟩; (try first | exact ⟨rfl, _, World.drewN_drewN _ _ _⟩ | exact ⟨rfl, _, Eq.trans (World.drewN_drewN _ _ _) (congrArg (World.drewN _) (Nat.add_assoc _ _ _))⟩)) | (go_at_call 54; (with_reducible refine (r3_begins.calls a0 (⟨#[38, 35]⟩ : ByteArray) false _ A22.out).mono ?_); rintro e w' ⟨rfl, ⟨nd, rfl⟩⟩; (try first | exact ⟨rfl, _, World.drewN_drewN _ _ _⟩ | exact ⟨rfl, _, Eq.trans (World.drewN_drewN _ _ _) (congrArg (World.drewN _) (Nat.add_assoc _ _ _))⟩))))
       go_ret2
       exact ⟨by first | rfl | (simp [errW_none, errW_some] <;> rfl) | (simp [*, errW_none, errW_some] <;> rfl), tw HB.out⟩
      ·exact absurd rfl c31
end Go.Proofs.YtpknhgejnfmijaaGreatDoor.PC
