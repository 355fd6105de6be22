/- A text of the claim, with what no other text of it needs taken out. -/
import Derived.Test.YtpknhgejnfmijaaGreatDoorPC0
import Derived.Test.YtpknhgejnfmijaaGreatDoorPC2
import Derived.Test.YtpknhgejnfmijaaGreatDoorPC10
import Derived.Test.YtpknhgejnfmijaaGreatDoorPC11
namespace Go.Proofs.YtpknhgejnfmijaaGreatDoor.PC
open Go.Proofs.YtpknhgejnfmijaaGreatDoor.K
open Go.RowKit Go.Proofs.YtpknhgejnfmijaaGreatDoorW.PrintWords Go.Proofs.YtpknhgejnfmijaaGreatDoorW.PrintLast Go.Proofs.YtpknhgejnfmijaaGreatDoorW.PrintMore
attribute [local go_sem] max2_int min2_int max_two min_two max_three min_three max_four min_four
set_option linter.unusedVariables false
set_option linter.unusedSimpArgs false
mutual
def w4_TokenCuts.j0 : Nat → ByteArray → Bool → Option (Bool)
 | 0, _, _ => none
 | k + 1, x0, x19 => if x19 = true then ((w4_works.f k).bind fun t273 => (some t273)) else ((r4_Tokens.f k x0).bind fun bt274 => (w4_TokenCuts.l0 k x0 bt274.1 bt274.2.1 bt274.2.2 0))
def w4_TokenCuts.l0 : Nat → ByteArray → List (S36) → Int → Int → Int → Option (Bool)
 | 0, _, _, _, _, _ => none
 | k + 1, x0, x3, x4, x5, x6 => if x6 < 2 then ((X.token_Tokens.f x0).bind fun bt282 => (if (bt282.1.length : Int) = (x3.length : Int) then (if bt282.2.1 = x4 then (w4_TokenCuts.j2 k x0 x3 x4 x5 x6 bt282.1 (bt282.2.2 != x5)) else (w4_TokenCuts.j2 k x0 x3 x4 x5 x6 bt282.1 true)) else (w4_TokenCuts.j2 k x0 x3 x4 x5 x6 bt282.1 true))) else ((X.token_Blank.f x0).bind fun t279 => ((r4_Blank.f k x0).bind fun t280 => (if (t279 == t280) = true then ((w4_works.f k).bind fun t281 => (some t281)) else (some false))))
def w4_TokenCuts.j2 : Nat → ByteArray → List (S36) → Int → Int → Int → List (S33) → Bool → Option (Bool)
 | 0, _, _, _, _, _, _, _ => none
 | k + 1, x0, x3, x4, x5, x6, x7, x51 => if x51 = true then (some false) else (w4_TokenCuts.l1 k x0 x3 x4 x5 x6 x7 0)
def w4_TokenCuts.l1 : Nat → ByteArray → List (S36) → Int → Int → Int → List (S33) → Int → Option (Bool)
 | 0, _, _, _, _, _, _, _ => none
 | k + 1, x0, x3, x4, x5, x6, x7, x10 => if x10 < (x7.length : Int) then (if 0 ≤ x10 then (if x10 < (x3.length : Int) then ((w4_is.f k ((rd_T33 x7 x10).f0) ((rd_T33 x7 x10).f1) ((rd_T33 x7 x10).f2) ((rd_T33 x7 x10).f3) ((rd_T33 x7 x10).f4) ((rd_T36 x3 x10).f0) ((rd_T36 x3 x10).f1) ((rd_T36 x3 x10).f2) ((rd_T36 x3 x10).f3) ((rd_T36 x3 x10).f4)).bind fun t289 => (if t289 = true then (w4_TokenCuts.l2 k x0 x3 x4 x5 x6 x7 x10 0) else (some false))) else (none)) else (none)) else (w4_TokenCuts.l0 k x0 x3 x4 x5 (wrap64 (x6 + 1)))
def w4_TokenCuts.l2 : Nat → ByteArray → List (S36) → Int → Int → Int → List (S33) → Int → Int → Option (Bool)
 | 0, _, _, _, _, _, _, _, _ => none
 | k + 1, x0, x3, x4, x5, x6, x7, x10, x11 => if 0 ≤ x10 then (if x10 < (x7.length : Int) then (if x11 < (((rd_T33 x7 x10).f2).length : Int) then (if 0 ≤ x11 then (w4_TokenCuts.l2 k x0 x3 x4 x5 x6 (x7.set (x10 : Int).toNat (⟨(rd_T33 x7 x10).f0, (rd_T33 x7 x10).f1, (((rd_T33 x7 x10).f2).set (x11 : Int).toNat (⟨(⟨#[]⟩ : ByteArray), (⟨#[]⟩ : ByteArray)⟩ : S38)), (rd_T33 x7 x10).f3, (rd_T33 x7 x10).f4⟩ : S33)) x10 (wrap64 (x11 + 1))) else (none)) else (w4_TokenCuts.l1 k x0 x3 x4 x5 x6 (x7.set (x10 : Int).toNat (⟨0, (⟨#[]⟩ : ByteArray), ([] : List (S38)), (⟨#[]⟩ : ByteArray), 0⟩ : S33)) (wrap64 (x10 + 1)))) else (none)) else (none)
end
def w4_TokenCuts.f (k : Nat) (a0 : ByteArray) : Option (Bool) := if (a0.size : Int) > 800 then (w4_TokenCuts.j0 k a0 (decide ((a0.size : Int) ≤ 65536))) else (w4_TokenCuts.j0 k a0 false)
def w4_TokenCuts.T13 : Bool × List (List Nat × List Nat) := (true, [([], []), ([], []), ([0, 1], [0, 1]), ([2], [2]), ([], []), ([], []), ([4, 5], [4, 5]), ([6], [6]), ([3, 7], [3, 7]), ([8], [8])])
def w4_TokenCuts.B13 : List Nat := [0, 0, 3, 7, 0, 0, 48, 112, 255, 511]
theorem w4_TokenCuts.tab13 : rtab .any (opsOf Tryz.f3 13) = w4_TokenCuts.T13 := by kernel_rfl
theorem w4_TokenCuts.bits13 : waitsOk w4_TokenCuts.T13.2 w4_TokenCuts.B13 = true := by kernel_rfl
theorem w4_TokenCuts.j2t (k : Nat) (r : Bool) : ∀ {y0 y1 y2 y3 y4 y5}, w4_TokenCuts.j2 k y0 y1 y2 y3 y4 y5 true = some r → ¬ r = true := by
 intro y0 y1 y2 y3 y4 y5 h hr
 cases k with
 | zero => simp [w4_TokenCuts.j2] at h
 | succ k =>
  simp only [w4_TokenCuts.j2] at h
  rw [if_pos trivial] at h
  rw [hr] at h
  exact absurd (Option.some.inj h) (by decide)
set_option maxHeartbeats 8000000 in
set_option maxRecDepth 100000 in
theorem w4_TokenCuts.calls_t (k : Nat) (a0 : ByteArray) (r : Bool) (w : World) (hG : Glob w) (HRT : Az (r = true)) (h : w4_TokenCuts.f k a0 = some r) :
  Calls Tryz.prog 3 #[.string a0] w fun e w' => e = .returned (.bool r) ∧ Below w.heap.size w w' := by
 have hu33 := Tryz.underlying33
 have hu36 := Tryz.underlying36
 have hu38 := Tryz.underlying38
 have HB := Az.mk (Below.refl w.heap.size w)
 have H := h
 unfold w4_TokenCuts.f at H
 clear h
 have HC2 := Az.mk H
 clear H
 go_enter Tryz.func3, Tryz.ntmps3
 go_upto_region 1 with (fail)
 go_cut [19] (fun v19 wc => ∃ (kq : Nat) (x19_1 : Bool), v19 = .bool x19_1 ∧ Az (w4_TokenCuts.j0 kq a0 x19_1 = some r) ∧ Az (kq ≤ k) ∧ Az (Below w.heap.size w wc))
 case first =>
  have H := HC2.out
  clear HC2
  by_cases c3 : (a0.size : Int) > 800
  ·rw [if_pos c3] at H
   have c3b0 : decide (800 < (a0.size : Int)) = true := decide_eq_true c3
   have c3b1 : decide (800 < a0.size) = true := decide_eq_true (by omega)
   clear c3
   (first | rw [c3b0] | (simp only [i64_w, i32_w]; rw [c3b0]) | skip)
   have H' := Az.mk H
   clear H
   go_wp2
   go_meet
   case rel => exact ⟨_, (decide ((a0.size : Int) ≤ 65536)), (by first | rfl | (simp; done) | (simp [*]; done)), H', ⟨by first | omega | exact Nat.le_refl _⟩, ⟨tw HB.out⟩⟩
  ·rw [if_neg c3] at H
   have c3b0 : decide (800 < (a0.size : Int)) = false := decide_eq_false c3
   have c3b1 : decide (800 < a0.size) = false := decide_eq_false (by omega)
   clear c3
   (first | rw [c3b0] | (simp only [i64_w, i32_w]; rw [c3b0]) | skip)
   have H' := Az.mk H
   clear H
   go_wp2
   go_meet
   case rel => exact ⟨_, (false), (by first | rfl | (simp; done) | (simp [*]; done)), H', ⟨by first | omega | exact Nat.le_refl _⟩, ⟨tw HB.out⟩⟩
 case rest =>
  clear HC2
  try clear p2
  try clear c3
  try clear c3b0
  try clear c3b1
  obtain ⟨kq, x19_1, rfl, HA, HJ1, HB⟩ := hcut
  cases kq with
  | zero => exact absurd HA.out (by simp [w4_TokenCuts.j0])
  | succ kj1 =>
   have H := HA.out
   clear HA
   simp only [w4_TokenCuts.j0] at H
   by_cases c4 : x19_1 = true
   ·subst c4
    have H1 : ((w4_works.f kj1).bind fun t273 => (some t273)) = some r := by rw [if_pos rfl] at H; exact H
    clear H
    have H := H1
    clear H1
    replace H := Option.bind_eq_some_iff.mp H
    obtain ⟨t273, A50, H⟩ := H
    replace H : (some t273) = some r := H
    have A5 := Az.mk A50
    clear A50
    obtain rfl := Option.some.inj H
    go_wp2_with (first | ((with_reducible refine gate_callee (f := 7) rfl ?_); refine goesL_ (some 20) rfl rfl Tryz.func7 (by kernel_rfl) rfl #[] rfl (by (try simp only [List.map_toArray, List.map_cons, List.map_nil]); first | done | rfl | (simp only [List.length_drop, List.length_take]; rfl)) ?_; (with_reducible refine (w4_works.calls kj1  t273 _ ?side1 A5.out).mono ?_); (case side1 => exact Glob.of_below hG (tw HB.out)); rintro e w6 ⟨rfl, hb⟩; refine ⟨_, rfl, ?_⟩; have n0_ := Az.mk (below_step (tw HB.out) hb); clear HB; have HB := n0_; clear n0_; (try clear hb); (try clear hb2); (try clear hk); (try clear hi)))
    go_ret
    exact ⟨by first | rfl | (simp [errW_none, errW_some] <;> rfl) | (simp [*, errW_none, errW_some] <;> rfl), tw HB.out⟩
   ·replace c4 := Bool.eq_false_iff.mpr c4
    subst c4
    have H1 : ((r4_Tokens.f kj1 a0).bind fun bt274 => (w4_TokenCuts.l0 kj1 a0 bt274.1 bt274.2.1 bt274.2.2 0)) = some r := by rw [if_neg (show ¬ (false = true) by decide)] at H; exact H
    clear H
    have H := H1
    clear H1
    replace H := Option.bind_eq_some_iff.mp H
    obtain ⟨⟨t274, t275, t276⟩, A70, H⟩ := H
    replace H : (w4_TokenCuts.l0 kj1 a0 t274 t275 t276 0) = some r := H
    have A7 := Az.mk A70
    clear A70
    have H' := Az.mk H
    clear H
    go_wp2_with (first | ((with_reducible refine gate_callee (f := 8) rfl ?_); refine goesL_ (some 23) rfl rfl Tryz.func8 (by kernel_rfl) rfl #[.string a0] rfl (by (try simp only [List.map_toArray, List.map_cons, List.map_nil]); first | done | rfl | (simp only [List.length_drop, List.length_take]; rfl)) ?_; (with_reducible refine (r4_Tokens.calls kj1 a0 t274 t275 t276 _ A7.out).mono ?_); rintro e w8 ⟨v277, rfl, ho0, hb⟩; refine ⟨_, rfl, ?_⟩; have n0_ := Az.mk (Kd.S_lower ho0 (below_size (tw HB.out))); have n1_ := Az.mk (below_step (tw HB.out) hb); clear HB; have HO278 := n0_; have HB := n1_; clear n0_ n1_; (try clear hb); (try clear hb2); (try clear hk); (try clear hi); (try clear ho0)))
    go_loopg [6] kj1 (fun kq v6 w' => ∃ (x6_2 : Int), v6 = .int .i64 x6_2 ∧ Az (w4_TokenCuts.l0 kq a0 t274 t275 t276 x6_2 = some r) ∧ Az (kq ≤ kj1) ∧ Az (Kd.S k36 36 w' w.heap.size (fun _ => True) v277 t274) ∧ Az (Below w.heap.size w w'))
    case atStart => exact ⟨(0), (by first | rfl | (simp; done) | (simp [*]; done)), H', ⟨Nat.le_refl _⟩, ⟨tws HO278.out⟩, ⟨tw HB.out⟩⟩
    case round =>
     clear H'
     try clear p2
     try clear c3
     try clear c3b0
     try clear c3b1
     try clear c4
     try clear c7
     try clear c8
     try clear p2
     obtain ⟨x6_2, rfl, HA, HK2, HO_3, HB⟩ := hrel
     cases gk with
     | zero => exact absurd HA.out (by simp [w4_TokenCuts.l0])
     | succ k2 =>
      have H := HA.out
      clear HA
      simp only [w4_TokenCuts.l0] at H
      by_cases c9 : x6_2 < 2
      ·rw [if_pos c9] at H
       have c9b0 : decide (x6_2 < 2) = true := decide_eq_true c9
       clear c9
       replace H := Option.bind_eq_some_iff.mp H
       obtain ⟨⟨t282, t283, t284⟩, A100, H⟩ := H
       replace H : (if (t282.length : Int) = (t274.length : Int) then (if t283 = t275 then (w4_TokenCuts.j2 k2 a0 t274 t275 t276 x6_2 t282 (t284 != t276)) else (w4_TokenCuts.j2 k2 a0 t274 t275 t276 x6_2 t282 true)) else (w4_TokenCuts.j2 k2 a0 t274 t275 t276 x6_2 t282 true)) = some r := H
       have A10 := Az.mk A100
       clear A100
       have HC11 := Az.mk H
       clear H
       go_upto_region 8 with (first | ((with_reducible refine gate_callee (f := 9) rfl ?_); refine goesL_ (some 33) rfl rfl Tryz.func9 (by kernel_rfl) rfl #[.string a0] rfl (by (try simp only [List.map_toArray, List.map_cons, List.map_nil]); first | done | rfl | (simp only [List.length_drop, List.length_take]; rfl)) ?_; (with_reducible refine (X.token_Tokens.calls a0 t282 t283 t284 _ ?side1 A10.out).mono ?_); (case side1 => exact Glob.of_below hG (tw HB.out)); rintro e w12 ⟨v285, rfl, ho0, hb⟩; refine ⟨_, rfl, ?_⟩; have n0_ := Az.mk (Kd.S_below (tws HO_3.out) hb); have n1_ := Az.mk (Kd.S_lower ho0 (below_size (tw HB.out))); have n2_ := Az.mk (below_step (tw HB.out) hb); clear HO_3; clear HB; have HO_3 := n0_; have HO286 := n1_; have HB := n2_; clear n0_ n1_ n2_; (try clear hb); (try clear hb2); (try clear hk); (try clear hi); (try clear ho0)))
       (try simp only [Act.put, List.setIfInBounds_toArray, List.set_cons_zero, List.set_cons_succ])
       go_cut [51] (fun v51 wc => ∃ (kq : Nat) (x51_10 : Bool), v51 = .bool x51_10 ∧ Az (w4_TokenCuts.j2 kq a0 t274 t275 t276 x6_2 t282 x51_10 = some r) ∧ Az (kq ≤ k2) ∧ Az (Kd.S k36 36 wc w.heap.size (fun _ => True) v277 t274) ∧ Az (Kd.S k33 33 wc w.heap.size (fun _ => True) v285 t282) ∧ Az (Below w.heap.size w wc))
       case first =>
        have H := HC11.out
        clear HC11
        by_cases c13 : (t282.length : Int) = (t274.length : Int)
        ·rw [if_pos c13] at H
         have c13b0 : ((t282.length : Int) == (t274.length : Int)) = true := beq_iff_eq.mpr c13
         have c13b1 : ((t282.length : Int) != (t274.length : Int)) = false := bne_eq_false_iff_eq.mpr c13
         have c13b2 : (t282.length == t274.length) = true := by first | simpa using c13 | (simp at c13 ⊢; omega)
         clear c13
         (first | rw [c13b0] | (simp only [i64_w, i32_w]; rw [c13b0]) | skip)
         by_cases c14 : t283 = t275
         ·rw [if_pos c14] at H
          have c14b0 : (t283 == t275) = true := beq_iff_eq.mpr c14
          have c14b1 : (t283 != t275) = false := bne_eq_false_iff_eq.mpr c14
          clear c14
          have H' := Az.mk H
          clear H
          obtain ⟨Ao15, co15, eo15⟩ := Kd.S_slice HO286.out
          subst eo15
          obtain ⟨Ao16, co16, eo16⟩ := Kd.S_slice HO_3.out
          subst eo16
          go_wp2
          go_meet
          case rel => exact ⟨_, ((t284 != t276)), (by first | rfl | (simp; done) | (simp [*]; done)), H', ⟨by have := HJ1.out; have := HK2.out; first | omega | exact Nat.le_refl _⟩, ⟨tws HO_3.out⟩, ⟨tws HO286.out⟩, ⟨tw HB.out⟩⟩
         ·rw [if_neg c14] at H
          have c14b0 : (t283 == t275) = false := beq_eq_false_iff_ne.mpr c14
          have c14b1 : (t283 != t275) = true := bne_iff_ne.mpr c14
          exact absurd HRT.out (w4_TokenCuts.j2t _ _ H)
        ·rw [if_neg c13] at H
         have c13b0 : ((t282.length : Int) == (t274.length : Int)) = false := beq_eq_false_iff_ne.mpr c13
         have c13b1 : ((t282.length : Int) != (t274.length : Int)) = true := bne_iff_ne.mpr c13
         have c13b2 : (t282.length == t274.length) = false := by first | simpa using c13 | (simp at c13 ⊢; omega)
         (first | rw [c13b0] | (simp only [i64_w, i32_w]; rw [c13b0]) | skip)
         exact absurd HRT.out (w4_TokenCuts.j2t _ _ H)
       case rest =>
        clear HC11
        try clear c1
        try clear p2
        try clear c3
        try clear c3b0
        try clear c3b1
        try clear c4
        try clear c7
        try clear c8
        try clear c9
        try clear c9b0
        try clear c13
        try clear c13b0
        try clear c13b1
        try clear c13b2
        try clear c14
        try clear c14b0
        try clear c14b1
        try clear p2
        obtain ⟨kq, x51_10, rfl, HA, HJ10, HO_3, HO_7, HB⟩ := hcut
        cases kq with
        | zero => exact absurd HA.out (by simp [w4_TokenCuts.j2])
        | succ kj10 =>
         have H := HA.out
         clear HA
         simp only [w4_TokenCuts.j2] at H
         by_cases c21 : x51_10 = true
         ·subst c21
          have H1 : (some false) = some r := by rw [if_pos rfl] at H; exact H
          exact absurd HRT.out (by rw [← Option.some.inj H1]; decide)
         ·replace c21 := Bool.eq_false_iff.mpr c21
          subst c21
          have H1 : (w4_TokenCuts.l1 kj10 a0 t274 t275 t276 x6_2 t282 0) = some r := by rw [if_neg (show ¬ (false = true) by decide)] at H; exact H
          clear H
          have H := H1
          clear H1
          have H' := Az.mk H
          clear H
          go_wp2
          go_loopg [10] kj10 (fun kq v10 w' => ∃ (x7_4 : List (S33)) (x10_4 : Int), v10 = .int .i64 x10_4 ∧ Az (w4_TokenCuts.l1 kq a0 t274 t275 t276 x6_2 x7_4 x10_4 = some r) ∧ Az (kq ≤ kj10) ∧ Az (Kd.S k36 36 w' w.heap.size (fun _ => True) v277 t274) ∧ Az (Kd.S k33 33 w' w.heap.size (fun _ => True) v285 x7_4) ∧ Az (Below w.heap.size w w'))
          case atStart => exact ⟨(t282), (0), (by first | rfl | (simp; done) | (simp [*]; done)), H', ⟨Nat.le_refl _⟩, ⟨tws HO_3.out⟩, ⟨tws HO_7.out⟩, ⟨tw HB.out⟩⟩
          case round =>
           clear H'
           try clear c1
           try clear c2
           try clear p2
           try clear c3
           try clear c3b0
           try clear c3b1
           try clear c4
           try clear c7
           try clear c8
           try clear c9
           try clear c9b0
           try clear c13
           try clear c13b0
           try clear c13b1
           try clear c13b2
           try clear c14
           try clear c14b0
           try clear c14b1
           try clear c21
           try clear p2
           obtain ⟨x7_4, x10_4, rfl, HA, HK4, HO_3, HO_7, HB⟩ := hrel
           cases gk with
           | zero => exact absurd HA.out (by simp [w4_TokenCuts.l1])
           | succ k4 =>
            have H := HA.out
            clear HA
            simp only [w4_TokenCuts.l1] at H
            by_cases c22 : x10_4 < (x7_4.length : Int)
            ·rw [if_pos c22] at H
             have c22b0 : decide (x10_4 < (x7_4.length : Int)) = true := decide_eq_true c22
             clear c22
             by_cases c23 : 0 ≤ x10_4
             ·rw [if_pos c23] at H
              have c23b0 : decide (0 ≤ x10_4) = true := decide_eq_true c23
              clear c23
              by_cases c24 : x10_4 < (t274.length : Int)
              ·rw [if_pos c24] at H
               have c24b0 : decide (x10_4 < (t274.length : Int)) = true := decide_eq_true c24
               clear c24
               replace H := Option.bind_eq_some_iff.mp H
               obtain ⟨t289, A250, H⟩ := H
               replace H : (if t289 = true then (w4_TokenCuts.l2 k4 a0 t274 t275 t276 x6_2 x7_4 x10_4 0) else (some false)) = some r := H
               have A25 := Az.mk A250
               clear A250
               by_cases c26 : t289 = true
               ·subst c26
                have H1 : (w4_TokenCuts.l2 k4 a0 t274 t275 t276 x6_2 x7_4 x10_4 0) = some r := by rw [if_pos rfl] at H; exact H
                clear H
                have H := H1
                clear H1
                have H' := Az.mk H
                clear H
                obtain ⟨Ao27, co27, eo27⟩ := Kd.S_slice HO_7.out
                subst eo27
                try go_wp2
                have n0_ := Az.mk (Kd.S_drew HO_3.out)
                have n1_ := Az.mk (Kd.S_drew HO_7.out)
                have n2_ := Az.mk (below_drew1 HB.out)
                clear HO_3
                clear HO_7
                clear HB
                have HO_3 := n0_
                have HO_7 := n1_
                have HB := n2_
                clear n0_ n1_ n2_
                have p287 : 0 ≤ (x10_4 : Int) := of_decide_eq_true (by assumption)
                have q287 : x10_4 < (x7_4.length : Int) := of_decide_eq_true (by assumption)
                obtain ⟨ad287, A287_2, c287_2, e287, hx287_0, hx287_1, hx287_2, hx287_3, hx287_4, hl287_2, hi287_2⟩ := at_T33 (Kd.S_reads' HO_7.out).2.2 x10_4 p287 q287
                cases e287
                obtain ⟨ce287, hce287, hMe287, hcc287⟩ := Kd.S_get HO_7.out z33 x10_4 p287 (by first | exact q287 | exact of_decide_eq_true (by assumption) | (have e_ := (Kd.S_reads' HO_7.out).1; omega))
                obtain ⟨ve287_2, rfl, ge287_2⟩ := k33_openM hMe287
                have hv287_2 := hcc287 2 _ rfl
                rw [add_field _ _ 2 (by omega)] at hv287_2
                replace hv287_2 := Option.some.inj (hv287_2.symm.trans hx287_2)
                rw [hv287_2] at ge287_2
                have HL287_2 := Az.mk (show Kd.R k38 38 _ _ _ _ ((rd_T33 x7_4 x10_4).f2) from ge287_2)
                clear hv287_2 ge287_2
                have HX287_2 := Az.mk hx287_2
                clear hcc287 hce287
                have HR287_2 := Az.mk hi287_2
                have HC287_2 := Az.mk hl287_2
                clear hi287_2 hl287_2
                replace p287 := eq_true p287
                replace q287 := eq_true q287
                obtain ⟨Ao29, co29, eo29⟩ := Kd.S_slice HO_3.out
                (first | subst eo29 | (injection eo29 with f1_ f2_ f3_; have f4_ := f1_.symm; have f5_ := f3_.symm; clear f1_ f2_ f3_; subst f4_; subst f5_))
                have p288 : 0 ≤ (x10_4 : Int) := of_decide_eq_true (by assumption)
                have q288 : x10_4 < (t274.length : Int) := of_decide_eq_true (by assumption)
                obtain ⟨ad288, A288_2, c288_2, e288, hx288_0, hx288_1, hx288_2, hx288_3, hx288_4, hl288_2, hi288_2⟩ := at_T36 (Kd.S_reads' HO_3.out).2.2 x10_4 p288 q288
                cases e288
                obtain ⟨ce288, hce288, hMe288, hcc288⟩ := Kd.S_get HO_3.out z36 x10_4 p288 (by first | exact q288 | exact of_decide_eq_true (by assumption) | (have e_ := (Kd.S_reads' HO_3.out).1; omega))
                obtain ⟨ve288_2, rfl, ge288_2⟩ := k36_openM hMe288
                have hv288_2 := hcc288 2 _ rfl
                rw [add_field _ _ 2 (by omega)] at hv288_2
                replace hv288_2 := Option.some.inj (hv288_2.symm.trans hx288_2)
                rw [hv288_2] at ge288_2
                have HL288_2 := Az.mk (show Kd.R k66 66 _ _ _ _ ((rd_T36 t274 x10_4).f2) from ge288_2)
                clear hv288_2 ge288_2
                have HX288_2 := Az.mk hx288_2
                clear hcc288 hce288
                have HR288_2 := Az.mk hi288_2
                have HC288_2 := Az.mk hl288_2
                clear hi288_2 hl288_2
                replace p288 := eq_true p288
                replace q288 := eq_true q288
                refine start_ (n := 10) (S := fun w' => w'.cell? (ad287.add ((x10_4).toNat * 5)) = some (.int .u8 ((rd_T33 x7_4 x10_4).f0)) ∧ w'.cell? ⟨(ad287.add ((x10_4).toNat * 5)).block, (ad287.add ((x10_4).toNat * 5)).off + 1, none⟩ = some (.string ((rd_T33 x7_4 x10_4).f1)) ∧ w'.cell? ⟨(ad287.add ((x10_4).toNat * 5)).block, (ad287.add ((x10_4).toNat * 5)).off + 2, none⟩ = some (.slice A287_2 ((rd_T33 x7_4 x10_4).f2).length c287_2) ∧ w'.cell? ⟨(ad287.add ((x10_4).toNat * 5)).block, (ad287.add ((x10_4).toNat * 5)).off + 3, none⟩ = some (.string ((rd_T33 x7_4 x10_4).f3)) ∧ w'.cell? ⟨(ad287.add ((x10_4).toNat * 5)).block, (ad287.add ((x10_4).toNat * 5)).off + 4, none⟩ = some (.int .i64 ((rd_T33 x7_4 x10_4).f4)) ∧ w'.cell? (ad288.add ((x10_4).toNat * 5)) = some (.int .u8 ((rd_T36 t274 x10_4).f0)) ∧ w'.cell? ⟨(ad288.add ((x10_4).toNat * 5)).block, (ad288.add ((x10_4).toNat * 5)).off + 1, none⟩ = some (.string ((rd_T36 t274 x10_4).f1)) ∧ w'.cell? ⟨(ad288.add ((x10_4).toNat * 5)).block, (ad288.add ((x10_4).toNat * 5)).off + 2, none⟩ = some (.slice A288_2 ((rd_T36 t274 x10_4).f2).length c288_2) ∧ w'.cell? ⟨(ad288.add ((x10_4).toNat * 5)).block, (ad288.add ((x10_4).toNat * 5)).off + 3, none⟩ = some (.string ((rd_T36 t274 x10_4).f3)) ∧ w'.cell? ⟨(ad288.add ((x10_4).toNat * 5)).block, (ad288.add ((x10_4).toNat * 5)).off + 4, none⟩ = some (.int .i64 ((rd_T36 t274 x10_4).f4))) (ds := []) #[false, false, false, false, false, false, false, false, false, false] (by kernel_rfl) rfl rfl ⟨hx287_0, hx287_1, hx287_2, hx287_3, hx287_4, hx288_0, hx288_1, hx288_2, hx288_3, hx288_4⟩ (fun hHeld => ?_); refine with_tabW w4_TokenCuts.tab13 w4_TokenCuts.bits13 (fun HT_ HW_ => ?_)
                generalize wr.drew = w28 at HO_3 HO_7 HB HL287_2 HL288_2 HR287_2 HR288_2 HX287_2 HX288_2 hx287_0 hx287_1 hx287_2 hx287_3 hx287_4 hx288_0 hx288_1 hx288_2 hx288_3 hx288_4 hHeld ⊢
                refine pure_ (i := 0) (N := some 58) (v := ?_) (a' := ?_) #[true, false, false, false, false, false, false, false, false, false] rfl rfl (any_of HT_.out (by kernel_rfl)) (fun _ _ _ h => h) (Or.inl ⟨by rfl, ?_⟩) ?_ ?_
                rotate_left
                ·intro w'
                 go_simp
                 with_reducible rfl
                rotate_left
                ·simp only [Act.put, List.setIfInBounds_toArray, List.set_cons_zero, List.set_cons_succ, i64_w, i32_w]
                 rfl
                refine pure_ (i := 1) (N := some 59) (v := ?_) (a' := ?_) #[true, true, false, false, false, false, false, false, false, false] rfl rfl (any_of HT_.out (by kernel_rfl)) (fun _ _ _ h => h) (Or.inl ⟨by rfl, ?_⟩) ?_ ?_
                rotate_left
                ·intro w'
                 go_simp
                 with_reducible rfl
                rotate_left
                ·simp only [Act.put, List.setIfInBounds_toArray, List.set_cons_zero, List.set_cons_succ, i64_w, i32_w]
                 rfl
                refine pure_ (i := 2) (N := some 60) (v := ?_) (a' := ?_) #[true, true, true, false, false, false, false, false, false, false] rfl rfl (any_of HT_.out (by kernel_rfl)) (fun _ _ _ h => h) (Or.inl ⟨by rfl, ?_⟩) ?_ ?_
                rotate_left
                ·intro w'
                 go_simp
                 with_reducible rfl
                rotate_left
                ·simp only [Act.put, List.setIfInBounds_toArray, List.set_cons_zero, List.set_cons_succ, i64_w, i32_w]
                 rfl
                refine pure_ (i := 4) (N := some 62) (v := ?_) (a' := ?_) #[true, true, true, false, true, false, false, false, false, false] rfl rfl (any_of HT_.out (by kernel_rfl)) (fun _ _ _ h => h) (Or.inl ⟨by rfl, ?_⟩) ?_ ?_
                rotate_left
                ·intro w'
                 go_simp
                 with_reducible rfl
                rotate_left
                ·simp only [Act.put, List.setIfInBounds_toArray, List.set_cons_zero, List.set_cons_succ, i64_w, i32_w]
                 rfl
                refine pure_ (i := 5) (N := some 63) (v := ?_) (a' := ?_) #[true, true, true, false, true, true, false, false, false, false] rfl rfl (any_of HT_.out (by kernel_rfl)) (fun _ _ _ h => h) (Or.inl ⟨by rfl, ?_⟩) ?_ ?_
                rotate_left
                ·intro w'
                 go_simp
                 with_reducible rfl
                rotate_left
                ·simp only [Act.put, List.setIfInBounds_toArray, List.set_cons_zero, List.set_cons_succ, i64_w, i32_w]
                 rfl
                refine pure_ (i := 6) (N := some 64) (v := ?_) (a' := ?_) #[true, true, true, false, true, true, true, false, false, false] rfl rfl (any_of HT_.out (by kernel_rfl)) (fun _ _ _ h => h) (Or.inl ⟨by rfl, ?_⟩) ?_ ?_
                rotate_left
                ·intro w'
                 go_simp
                 with_reducible rfl
                rotate_left
                ·simp only [Act.put, List.setIfInBounds_toArray, List.set_cons_zero, List.set_cons_succ, i64_w, i32_w]
                 rfl
                refine take_ (i := 3) (N := some 61) (v := ?_) (a' := ?_) #[true, true, true, true, true, true, true, false, false, false] rfl rfl (take_ofW HT_.out HW_.out (by kernel_rfl)) (fun _ _ _ h => h) (Or.inl ⟨by rfl, ?_⟩) hHeld ?_ ?_
                rotate_left
                ·rintro w' ⟨s0, s1, s2, s3, s4, s5, s6, s7, s8, s9⟩
                 go_simp
                 with_reducible rfl
                rotate_left
                ·simp only [Act.put, List.setIfInBounds_toArray, List.set_cons_zero, List.set_cons_succ, i64_w, i32_w]
                 rfl
                refine take_ (i := 7) (N := some 65) (v := ?_) (a' := ?_) #[true, true, true, true, true, true, true, true, false, false] rfl rfl (take_ofW HT_.out HW_.out (by kernel_rfl)) (fun _ _ _ h => h) (Or.inl ⟨by rfl, ?_⟩) hHeld ?_ ?_
                rotate_left
                ·rintro w' ⟨s0, s1, s2, s3, s4, s5, s6, s7, s8, s9⟩
                 go_simp
                 with_reducible rfl
                rotate_left
                ·simp only [Act.put, List.setIfInBounds_toArray, List.set_cons_zero, List.set_cons_succ, i64_w, i32_w]
                 rfl
                refine one_ (i := 8) (N := some 66) #[true, true, true, true, true, true, true, true, true, false] rfl rfl (one_of HT_.out (by kernel_rfl)) (by decide) (fun K hK => ?_)
                refine goes_ Tryz.func10 (by kernel_rfl) rfl #[.agg #[.int .u8 ((rd_T33 x7_4 x10_4).f0), .string ((rd_T33 x7_4 x10_4).f1), .slice A287_2 ((rd_T33 x7_4 x10_4).f2).length c287_2, .string ((rd_T33 x7_4 x10_4).f3), .int .i64 ((rd_T33 x7_4 x10_4).f4)], .agg #[.int .u8 ((rd_T36 t274 x10_4).f0), .string ((rd_T36 t274 x10_4).f1), .slice A288_2 ((rd_T36 t274 x10_4).f2).length c288_2, .string ((rd_T36 t274 x10_4).f3), .int .i64 ((rd_T36 t274 x10_4).f4)]] (by rfl) rfl rfl (by (try simp only [List.map_toArray, List.map_cons, List.map_nil]); first | done | rfl | (simp only [List.length_drop, List.length_take]; rfl)) ?_
                with_reducible refine (w4_is.calls k4 ((rd_T33 x7_4 x10_4).f0) ((rd_T33 x7_4 x10_4).f1) _ _ ((rd_T33 x7_4 x10_4).f2) ((rd_T33 x7_4 x10_4).f3) ((rd_T33 x7_4 x10_4).f4) ((rd_T36 t274 x10_4).f0) ((rd_T36 t274 x10_4).f1) _ _ ((rd_T36 t274 x10_4).f2) ((rd_T36 t274 x10_4).f3) ((rd_T36 t274 x10_4).f4) true _ ?side1 ?side2 ?side3 ?side4 A25.out).mono ?_
                (case side1 => repeat (first | exact (by repeat (first | (with_reducible exact HR287_2.out) | (with_reducible refine Kd.C_alloc ?_ _) | (with_reducible refine Kd.C_drewN ?_ _) | (with_reducible refine Kd.C_drew ?_) | exact HR287_2.out)) | (with_reducible refine Kd.C_alloc ?_ _) | (with_reducible refine Kd.C_drewN ?_ _) | (with_reducible refine Kd.C_drew ?_)))
                (case side2 => exact HC287_2.out)
                (case side3 => repeat (first | exact (by repeat (first | (with_reducible exact HR288_2.out) | (with_reducible refine Kd.C_alloc ?_ _) | (with_reducible refine Kd.C_drewN ?_ _) | (with_reducible refine Kd.C_drew ?_) | exact HR288_2.out)) | (with_reducible refine Kd.C_alloc ?_ _) | (with_reducible refine Kd.C_drewN ?_ _) | (with_reducible refine Kd.C_drew ?_)))
                (case side4 => exact HC288_2.out)
                rintro e w30 ⟨rfl, hb⟩
                have HS0_ := (hb.cell (World.block_lt_of_cell? _ _ (hHeld.1))).trans (hHeld.1)
                have HS1_ := (hb.cell (World.block_lt_of_cell? _ _ (hHeld.2.1))).trans (hHeld.2.1)
                have HS2_ := (hb.cell (World.block_lt_of_cell? _ _ (hHeld.2.2.1))).trans (hHeld.2.2.1)
                have HS3_ := (hb.cell (World.block_lt_of_cell? _ _ (hHeld.2.2.2.1))).trans (hHeld.2.2.2.1)
                have HS4_ := (hb.cell (World.block_lt_of_cell? _ _ (hHeld.2.2.2.2.1))).trans (hHeld.2.2.2.2.1)
                have HS5_ := (hb.cell (World.block_lt_of_cell? _ _ (hHeld.2.2.2.2.2.1))).trans (hHeld.2.2.2.2.2.1)
                have HS6_ := (hb.cell (World.block_lt_of_cell? _ _ (hHeld.2.2.2.2.2.2.1))).trans (hHeld.2.2.2.2.2.2.1)
                have HS7_ := (hb.cell (World.block_lt_of_cell? _ _ (hHeld.2.2.2.2.2.2.2.1))).trans (hHeld.2.2.2.2.2.2.2.1)
                have HS8_ := (hb.cell (World.block_lt_of_cell? _ _ (hHeld.2.2.2.2.2.2.2.2.1))).trans (hHeld.2.2.2.2.2.2.2.2.1)
                have HS9_ := (hb.cell (World.block_lt_of_cell? _ _ (hHeld.2.2.2.2.2.2.2.2.2))).trans (hHeld.2.2.2.2.2.2.2.2.2)
                refine ⟨_, rfl, ?_⟩
                have n0_ := Az.mk (Kd.S_below (tws HO_3.out) hb)
                have n1_ := Az.mk (Kd.S_below (tws HO_7.out) hb)
                have n2_ := Az.mk (Kd.R_below (twr HL287_2.out) hb)
                have n3_ := Az.mk (Kd.R_below (twr HL288_2.out) hb)
                have n4_ := Az.mk (Kd.C_below (by repeat (first | (with_reducible exact HR287_2.out) | (with_reducible refine Kd.C_alloc ?_ _) | (with_reducible refine Kd.C_drewN ?_ _) | (with_reducible refine Kd.C_drew ?_) | exact HR287_2.out)) hb)
                have n5_ := Az.mk (pw_cell_below hb HX287_2.out)
                have n6_ := Az.mk (Kd.C_below (by repeat (first | (with_reducible exact HR288_2.out) | (with_reducible refine Kd.C_alloc ?_ _) | (with_reducible refine Kd.C_drewN ?_ _) | (with_reducible refine Kd.C_drew ?_) | exact HR288_2.out)) hb)
                have n7_ := Az.mk (pw_cell_below hb HX288_2.out)
                have n8_ := Az.mk (below_step (tw HB.out) hb)
                clear HO_3
                clear HO_7
                clear HL287_2
                clear HL288_2
                clear HR287_2
                clear HX287_2
                clear HR288_2
                clear HX288_2
                clear HB
                have HO_3 := n0_
                have HO_7 := n1_
                have HL287_2 := n2_
                have HL288_2 := n3_
                have HR287_2 := n4_
                have HX287_2 := n5_
                have HR288_2 := n6_
                have HX288_2 := n7_
                have HB := n8_
                clear n0_ n1_ n2_ n3_ n4_ n5_ n6_ n7_ n8_
                (try clear hb)
                (try clear hb2)
                (try clear hk)
                (try clear hi)
                refine hK.out _ _ ⟨HS0_, HS1_, HS2_, HS3_, HS4_, HS5_, HS6_, HS7_, HS8_, HS9_⟩ (fun hHeld => ?_)
                clear hK K
                refine norm_ (a' := ?_) ?_ ?_
                rotate_left
                ·show Act.put _ (some 66) _ = _
                 simp only [Act.put, List.setIfInBounds_toArray, List.set_cons_zero, List.set_cons_succ, i64_w, i32_w]
                 rfl
                refine pure_ (i := 9) (N := some 67) (v := ?_) (a' := ?_) #[true, true, true, true, true, true, true, true, true, true] rfl rfl (any_of HT_.out (by kernel_rfl)) (fun _ _ _ h => h) (Or.inl ⟨by rfl, ?_⟩) ?_ ?_
                rotate_left
                ·intro w'
                 go_simp
                 with_reducible rfl
                rotate_left
                ·simp only [Act.put, List.setIfInBounds_toArray, List.set_cons_zero, List.set_cons_succ, i64_w, i32_w]
                 rfl
                refine done_ (done_of HT_.out (by kernel_rfl)) ?_
                try go_wp2
                go_loopg [11] k4 (fun kq v11 w' => ∃ (x7_5 : List (S33)) (x11_5 : Int), v11 = .int .i64 x11_5 ∧ Az (w4_TokenCuts.l2 kq a0 t274 t275 t276 x6_2 x7_5 x10_4 x11_5 = some r) ∧ Az (kq ≤ k4) ∧ Az (Kd.S k36 36 w' w.heap.size (fun _ => True) (.slice (some ad288) t274.length co29) t274) ∧ Az (Kd.S k33 33 w' w.heap.size (fun _ => True) (.slice (some ad287) x7_4.length co27) x7_5) ∧ Az (Below w.heap.size w w'))
                case atStart => exact ⟨(x7_4), (0), (by first | rfl | (simp; done) | (simp [*]; done)), H', ⟨Nat.le_refl _⟩, ⟨tws HO_3.out⟩, ⟨tws HO_7.out⟩, ⟨tw HB.out⟩⟩
                case round =>
                 clear H'
                 try clear c1
                 try clear c2
                 try clear p2
                 try clear q2
                 try clear hx2
                 try clear c3
                 try clear c3b0
                 try clear c3b1
                 try clear c4
                 try clear c7
                 try clear c8
                 try clear c9
                 try clear c9b0
                 try clear c10
                 try clear c13
                 try clear c13b0
                 try clear c13b1
                 try clear c13b2
                 try clear c14
                 try clear c14b0
                 try clear c14b1
                 try clear c21
                 try clear c22
                 try clear c22b0
                 try clear c23
                 try clear c23b0
                 try clear c24
                 try clear c24b0
                 try clear c26
                 try clear c28
                 try clear p28
                 try clear q28
                 try clear hx28
                 try clear hx287_0
                 try clear hx287_1
                 try clear hx287_2
                 try clear hx287_3
                 try clear hx287_4
                 try clear hx288_0
                 try clear hx288_1
                 try clear hx288_2
                 try clear hx288_3
                 try clear hx288_4
                 try clear p2
                 try clear p287
                 try clear p288
                 try clear q287
                 try clear q288
                 obtain ⟨x7_5, x11_5, rfl, HA, HK5, HO_3, HO_7, HB⟩ := hrel
                 have hl7_5 := (Kd.S_reads' HO_7.out).1
                 rw [hl7_5] at HO_7
                 (try simp only [hl7_5])
                 (try simp only [hl7_5] at HO_3)
                 cases gk with
                 | zero => exact absurd HA.out (by simp [w4_TokenCuts.l2])
                 | succ k5 =>
                  have H := HA.out
                  clear HA
                  simp only [w4_TokenCuts.l2] at H
                  by_cases c31 : 0 ≤ x10_4
                  ·rw [if_pos c31] at H
                   have c31b0 : decide (0 ≤ x10_4) = true := decide_eq_true c31
                   clear c31
                   by_cases c32 : x10_4 < (x7_5.length : Int)
                   ·rw [if_pos c32] at H
                    have c32b0 : decide (x10_4 < (x7_5.length : Int)) = true := decide_eq_true c32
                    clear c32
                    by_cases c33 : x11_5 < (((rd_T33 x7_5 x10_4).f2).length : Int)
                    ·rw [if_pos c33] at H
                     have c33b0 : decide (x11_5 < (((rd_T33 x7_5 x10_4).f2).length : Int)) = true := decide_eq_true c33
                     clear c33
                     by_cases c34 : 0 ≤ x11_5
                     ·rw [if_pos c34] at H
                      have c34b0 : decide (0 ≤ x11_5) = true := decide_eq_true c34
                      clear c34
                      obtain ⟨y292, hy292⟩ : ∃ y_ : List (S38), y_ = (((rd_T33 x7_5 x10_4).f2).set (x11_5 : Int).toNat (⟨(⟨#[]⟩ : ByteArray), (⟨#[]⟩ : ByteArray)⟩ : S38)) := ⟨_, rfl⟩
                      replace H : (w4_TokenCuts.l2 k5 a0 t274 t275 t276 x6_2 (x7_5.set (x10_4 : Int).toNat (⟨(rd_T33 x7_5 x10_4).f0, (rd_T33 x7_5 x10_4).f1, y292, (rd_T33 x7_5 x10_4).f3, (rd_T33 x7_5 x10_4).f4⟩ : S33)) x10_4 (wrap64 (x11_5 + 1))) = some r := by first | (rw [hy292]; with_reducible exact H) | (have H2_ := (Option.bind_some _ _).symm.trans H; rw [hy292]; with_reducible exact H2_) | (have H2_ := (Option.bind_some _ _).symm.trans H; with_reducible exact H2_) | with_reducible exact H | (rw [hy292]; exact H) | exact H
                      have Ny292 := Az.mk hy292
                      clear hy292
                      obtain ⟨y294, hy294⟩ : ∃ y_ : List (S33), y_ = (x7_5.set (x10_4 : Int).toNat (⟨(rd_T33 x7_5 x10_4).f0, (rd_T33 x7_5 x10_4).f1, y292, (rd_T33 x7_5 x10_4).f3, (rd_T33 x7_5 x10_4).f4⟩ : S33)) := ⟨_, rfl⟩
                      replace H : (w4_TokenCuts.l2 k5 a0 t274 t275 t276 x6_2 y294 x10_4 (wrap64 (x11_5 + 1))) = some r := by first | (rw [hy294]; with_reducible exact H) | (have H2_ := (Option.bind_some _ _).symm.trans H; rw [hy294]; with_reducible exact H2_) | (have H2_ := (Option.bind_some _ _).symm.trans H; with_reducible exact H2_) | with_reducible exact H | (rw [hy294]; exact H) | exact H
                      have Ny294 := Az.mk hy294
                      clear hy294
                      have H' := Az.mk H
                      clear H
                      have p290 : 0 ≤ (x10_4 : Int) := of_decide_eq_true (by assumption)
                      have q290 : x10_4 < (x7_5.length : Int) := of_decide_eq_true (by assumption)
                      obtain ⟨ad290, A290_2, c290_2, e290, hx290_0, hx290_1, hx290_2, hx290_3, hx290_4, hl290_2, hi290_2⟩ := at_T33 (Kd.S_reads' HO_7.out).2.2 x10_4 p290 q290
                      obtain rfl : ad287 = ad290 := (by injection e290)
                      obtain ⟨ce290, hce290, hMe290, hcc290⟩ := Kd.S_get HO_7.out z33 x10_4 p290 (by first | exact q290 | exact of_decide_eq_true (by assumption) | (have e_ := (Kd.S_reads' HO_7.out).1; omega))
                      obtain ⟨ve290_2, rfl, ge290_2⟩ := k33_openM hMe290
                      have hv290_2 := hcc290 2 _ rfl
                      rw [add_field _ _ 2 (by omega)] at hv290_2
                      replace hv290_2 := Option.some.inj (hv290_2.symm.trans hx290_2)
                      rw [hv290_2] at ge290_2
                      have HL290_2 := Az.mk (show Kd.R k38 38 _ _ _ _ ((rd_T33 x7_5 x10_4).f2) from ge290_2)
                      clear hv290_2 ge290_2
                      have HX290_2 := Az.mk hx290_2
                      clear hcc290 hce290
                      have HR290_2 := Az.mk hi290_2
                      have HC290_2 := Az.mk hl290_2
                      clear hi290_2 hl290_2
                      replace p290 := eq_true p290
                      replace q290 := eq_true q290
                      have p291 : 0 ≤ (x10_4 : Int) := of_decide_eq_true (by assumption)
                      have q291 : x10_4 < (x7_5.length : Int) := of_decide_eq_true (by assumption)
                      obtain ⟨ad291, A291_2, c291_2, e291, hx291_0, hx291_1, hx291_2, hx291_3, hx291_4, hl291_2, hi291_2⟩ := at_T33 (Kd.S_reads' HO_7.out).2.2 x10_4 p291 q291
                      obtain rfl : ad287 = ad291 := (by injection e291)
                      obtain ⟨ce291, hce291, hMe291, hcc291⟩ := Kd.S_get HO_7.out z33 x10_4 p291 (by first | exact q291 | exact of_decide_eq_true (by assumption) | (have e_ := (Kd.S_reads' HO_7.out).1; omega))
                      obtain ⟨ve291_2, rfl, ge291_2⟩ := k33_openM hMe291
                      have hv291_2 := hcc291 2 _ rfl
                      rw [add_field _ _ 2 (by omega)] at hv291_2
                      replace hv291_2 := Option.some.inj (hv291_2.symm.trans hx291_2)
                      rw [hv291_2] at ge291_2
                      have HL291_2 := Az.mk (show Kd.R k38 38 _ _ _ _ ((rd_T33 x7_5 x10_4).f2) from ge291_2)
                      clear hv291_2 ge291_2
                      have HX291_2 := Az.mk hx291_2
                      clear hcc291 hce291
                      have HR291_2 := Az.mk hi291_2
                      have HC291_2 := Az.mk hl291_2
                      clear hi291_2 hl291_2
                      replace p291 := eq_true p291
                      replace q291 := eq_true q291
                      have ea_ := Option.some.inj (hx290_2.symm.trans hx291_2)
                      injection ea_ with ea_ en_ ec_
                      subst ea_
                      subst ec_
                      clear en_
                      have p35 : 0 ≤ (x11_5 : Int) := of_decide_eq_true (by assumption)
                      have q35 : (x11_5 : Int) < ((((rd_T33 x7_5 x10_4).f2).length : Int) : Int) := of_decide_eq_true (by assumption)
                      obtain ⟨go35, co35, eo35, gb35, gl35, cl35, HG35⟩ := Kd.R_form HL291_2.out (by omega)
                      (first | cases eo35 | (injection eo35 with ea_ en_ ec_; (first | subst ea_ | (injection ea_ with ea_; subst ea_)); subst ec_; clear en_))
                      have GB35 := Az.mk gb35
                      have GG35 := Az.mk HG35
                      clear gb35 gl35 HG35
                      obtain ⟨ce35, hcl35, hM35, hcc35, hfr35⟩ := Kd.R_elem HL291_2.out z38 (x11_5 : Int) p35 q35
                      obtain rfl := k38_openM hM35
                      have hx35_0 : wr.cell? ⟨go35, (x11_5 : Int).toNat * 2, none⟩ = some (.string ((rd_T38 ((rd_T33 x7_5 x10_4).f2) x11_5).f0)) := hcc35 0 _ rfl
                      have hx35_1 : wr.cell? ⟨go35, (x11_5 : Int).toNat * 2 + 1, none⟩ = some (.string ((rd_T38 ((rd_T33 x7_5 x10_4).f2) x11_5).f1)) := hcc35 1 _ rfl
                      have hf35_0 : wr.frozen? ⟨go35, (x11_5 : Int).toNat * 2, none⟩ = false := hfr35 0
                      have hf35_1 : wr.frozen? ⟨go35, (x11_5 : Int).toNat * 2 + 1, none⟩ = false := hfr35 1
                      clear hcl35 hcc35 hfr35 hM35
                      replace p35 := eq_true p35
                      replace q35 := eq_true q35
                      have hq36 : (x10_4 : Int) < (x7_5.length : Int) := (by have h_ : (x10_4 : Int) < ((x7_5.length : Int) : Int) := of_decide_eq_true (by assumption); first | exact h_ | (have e_ := (Kd.S_reads' HO_7.out).1; omega) | simpa only [List.length_set, List.length_set] using h_)
                      obtain ⟨oki36, ce36, hcl36, hM36, hcc36, hok36, hbk36⟩ := Kd.S_borrow HO_7.out z33 (x10_4 : Int) (of_decide_eq_true (by assumption)) hq36
                      obtain ⟨ve36_2, rfl, ge36_2⟩ := k33_openM hM36
                      have hv36 := hcc36 2 _ rfl
                      rw [add_field _ _ 2 (by omega)] at hv36
                      replace hv36 := Option.some.inj (hv36.symm.trans HX291_2.out)
                      subst hv36
                      clear hcc36 hcl36
                      replace ge36_2 := (show Kd.R k38 38 _ _ _ _ ((rd_T33 x7_5 x10_4).f2) from ge36_2)
                      obtain ⟨cf36, hcl36, hN36, hcc36, hfr36⟩ := Kd.R_elem ge36_2 z38 (x11_5 : Int) (of_decide_eq_true (by assumption)) (by have h_ : (x11_5 : Int) < ((((rd_T33 x7_5 x10_4).f2).length : Int) : Int) := of_decide_eq_true (by assumption); first | exact h_ | (have e_ := (Kd.R_reads' HR291_2.out).1; omega) | simpa using h_)
                      obtain rfl := k38_openM hN36
                      have HP36 := Kd.R_seg ge36_2 (x11_5 : Int) (of_decide_eq_true (by assumption)) (by have h_ : (x11_5 : Int) < ((((rd_T33 x7_5 x10_4).f2).length : Int) : Int) := of_decide_eq_true (by assumption); first | exact h_ | (have e_ := (Kd.R_reads' HR291_2.out).1; omega) | simpa using h_) (seg := [.string (⟨#[]⟩ : ByteArray), .string (⟨#[]⟩ : ByteArray)]) (j := 0) hcl36 hcc36 (show 2 ≤ 2 from by decide) (x' := (⟨(⟨#[]⟩ : ByteArray), (⟨#[]⟩ : ByteArray)⟩ : S38)) (k38_mkM _ _ _ (⟨(⟨#[]⟩ : ByteArray), (⟨#[]⟩ : ByteArray)⟩ : S38)) (fun _ hk => hk)
                      clear hcl36 hcc36 hfr36 hN36
                      go_wp2_with (first | ((with_reducible refine gate_store (t := 38) (p := 85) rfl ?_); refine store_event (t := 38) (p := 85) (v := ?vo_w37) (w1 := ((wr.setCell ⟨go35, (x11_5 : Int).toNat * 2, none⟩ (.string (⟨#[]⟩ : ByteArray))).setCell ⟨go35, (x11_5 : Int).toNat * 2 + 1, none⟩ (.string (⟨#[]⟩ : ByteArray)))) ?hg ?ho ?hn ?hr ?_; (case ho => rfl); (case hg => rfl); (case hn => rfl); (case hr => first | (go_simp; done) | (go_simp; rfl)); intro w37 hw; have hg : wr.grownBy w37 (some go35) := (by rw [hw]; exact HP36.2); have hz_ : Kd.R k38 38 w37 w.heap.size oki36 (.slice (some ⟨go35, 0, none⟩) ((rd_T33 x7_5 x10_4).f2).length c290_2) y292 := (by rw [hw, Ny292.out]; exact HP36.1); have hp_ : Kd.S k33 33 w37 w.heap.size (fun _ => True) (.slice (some ad287) x7_5.length co27) y294 := (by rw [Ny294.out]; exact hbk36 hg (fun k_ e_ => by injection e_ with e_; subst e_; exact ge36_2.1 _ rfl) (k33_mkM _ _ _ (⟨(rd_T33 x7_5 x10_4).f0, (rd_T33 x7_5 x10_4).f1, y292, (rd_T33 x7_5 x10_4).f3, (rd_T33 x7_5 x10_4).f4⟩ : S33) hz_)); have hm_ := Kd.R_mono hz_ hok36; clear HP36 hbk36; have n0_ := Az.mk (Kd.S_over' (v := (.slice (some ⟨go35, 0, none⟩) ((rd_T33 x7_5 x10_4).f2).length c290_2)) (tws HO_3.out) (Kd.R_typed HL291_2.out) (by decide) hg); have n1_ := Az.mk (hp_); have n2_ := Az.mk ((by rw [hw]; exact below_set (below_set (HB.out) GB35.out) GB35.out : Below w.heap.size w w37)); have n3_ := Az.mk (hm_); have n4_ := Az.mk ((Kd.R_reads' hm_).2.1); clear HO_3; clear HO_7; clear HB; clear HL290_2; clear HL291_2; have HO_3 := n0_; have HO_7 := n1_; have HB := n2_; have HL296 := n3_; have HC293 := n4_; clear n0_ n1_ n2_ n3_ n4_; clear hg hw hp_ hz_ hm_ hok36))
                      (try simp only [← hl7_5])
                      go_roundg k5
                      case measure => have := HJ1.out; have := HK2.out; have := HJ10.out; have := HK4.out; have := HK5.out; omega
                      case rel => exact ⟨(y294), (wrap64 (x11_5 + 1)), (by first | rfl | (simp; done) | (simp [*]; done)), H', ⟨by have := HJ1.out; have := HK2.out; have := HJ10.out; have := HK4.out; have := HK5.out; omega⟩, ⟨by (try simp only [hl7_5]); (with_reducible repeat (first | apply Kd.S_alloc | apply Kd.S_drewN | apply Kd.S_drew)); exact HO_3.out⟩, ⟨by (try simp only [hl7_5]); (with_reducible repeat (first | apply Kd.S_alloc | apply Kd.S_drewN | apply Kd.S_drew)); exact HO_7.out⟩, ⟨tw HB.out⟩⟩
                     ·rw [if_neg c34] at H
                      exact absurd H (by simp)
                    ·rw [if_neg c33] at H
                     have c33b0 : decide (x11_5 < (((rd_T33 x7_5 x10_4).f2).length : Int)) = false := decide_eq_false c33
                     clear c33
                     obtain ⟨y295, hy295⟩ : ∃ y_ : List (S33), y_ = (x7_5.set (x10_4 : Int).toNat (⟨0, (⟨#[]⟩ : ByteArray), ([] : List (S38)), (⟨#[]⟩ : ByteArray), 0⟩ : S33)) := ⟨_, rfl⟩
                     replace H : (w4_TokenCuts.l1 k5 a0 t274 t275 t276 x6_2 y295 (wrap64 (x10_4 + 1))) = some r := by first | (rw [hy295]; with_reducible exact H) | (have H2_ := (Option.bind_some _ _).symm.trans H; rw [hy295]; with_reducible exact H2_) | (have H2_ := (Option.bind_some _ _).symm.trans H; with_reducible exact H2_) | with_reducible exact H | (rw [hy295]; exact H) | exact H
                     have Ny295 := Az.mk hy295
                     clear hy295
                     have H' := Az.mk H
                     clear H
                     have p290 : 0 ≤ (x10_4 : Int) := of_decide_eq_true (by assumption)
                     have q290 : x10_4 < (x7_5.length : Int) := of_decide_eq_true (by assumption)
                     obtain ⟨ad290, A290_2, c290_2, e290, hx290_0, hx290_1, hx290_2, hx290_3, hx290_4, hl290_2, hi290_2⟩ := at_T33 (Kd.S_reads' HO_7.out).2.2 x10_4 p290 q290
                     obtain rfl : ad287 = ad290 := (by injection e290)
                     obtain ⟨ce290, hce290, hMe290, hcc290⟩ := Kd.S_get HO_7.out z33 x10_4 p290 (by first | exact q290 | exact of_decide_eq_true (by assumption) | (have e_ := (Kd.S_reads' HO_7.out).1; omega))
                     obtain ⟨ve290_2, rfl, ge290_2⟩ := k33_openM hMe290
                     have hv290_2 := hcc290 2 _ rfl
                     rw [add_field _ _ 2 (by omega)] at hv290_2
                     replace hv290_2 := Option.some.inj (hv290_2.symm.trans hx290_2)
                     rw [hv290_2] at ge290_2
                     have HL290_2 := Az.mk (show Kd.R k38 38 _ _ _ _ ((rd_T33 x7_5 x10_4).f2) from ge290_2)
                     clear hv290_2 ge290_2
                     have HX290_2 := Az.mk hx290_2
                     clear hcc290 hce290
                     have HR290_2 := Az.mk hi290_2
                     have HC290_2 := Az.mk hl290_2
                     clear hi290_2 hl290_2
                     replace p290 := eq_true p290
                     replace q290 := eq_true q290
                     have p38 : 0 ≤ (x10_4 : Int) := of_decide_eq_true (by assumption)
                     have q38 : (x10_4 : Int) < ((x7_5.length : Int) : Int) := of_decide_eq_true (by assumption)
                     obtain ⟨go38, co38, eo38, gb38, gl38, cl38, HG38⟩ := Kd.S_form HO_7.out (by omega)
                     (first | cases eo38 | (injection eo38 with ea_ en_ ec_; (first | subst ea_ | (injection ea_ with ea_; subst ea_)); subst ec_; clear en_))
                     have GB38 := Az.mk gb38
                     have GG38 := Az.mk HG38
                     clear gb38 gl38 HG38
                     (first | simp only [add_plain] at hx287_0 | skip)
                     (first | simp only [add_plain] at hx287_1 | skip)
                     (first | simp only [add_plain] at hx287_2 | skip)
                     (first | simp only [add_plain] at hx287_3 | skip)
                     (first | simp only [add_plain] at hx287_4 | skip)
                     (first | simp only [add_plain] at hx290_0 | skip)
                     (first | simp only [add_plain] at hx290_1 | skip)
                     (first | simp only [add_plain] at hx290_2 | skip)
                     (first | simp only [add_plain] at hx290_3 | skip)
                     (first | simp only [add_plain] at hx290_4 | skip)
                     (first | simp only [add_plain] at hx291_0 | skip)
                     (first | simp only [add_plain] at hx291_1 | skip)
                     (first | simp only [add_plain] at hx291_2 | skip)
                     (first | simp only [add_plain] at hx291_3 | skip)
                     (first | simp only [add_plain] at hx291_4 | skip)
                     obtain ⟨_, ce38, hcl38, hM38, hcc38, hfr38, _, _⟩ := Kd.S_elem HO_7.out z33 (x10_4 : Int) p38 q38
                     obtain ⟨ve38_2, rfl, ge38_2⟩ := k33_openM hM38
                     have hx38_0 : wr.cell? ⟨go38, (x10_4 : Int).toNat * 5, none⟩ = some (.int .u8 ((rd_T33 x7_5 x10_4).f0)) := hcc38 0 _ rfl
                     have hx38_1 : wr.cell? ⟨go38, (x10_4 : Int).toNat * 5 + 1, none⟩ = some (.string ((rd_T33 x7_5 x10_4).f1)) := hcc38 1 _ rfl
                     have hx38_2 : wr.cell? ⟨go38, (x10_4 : Int).toNat * 5 + 2, none⟩ = some (ve38_2) := hcc38 2 _ rfl
                     have hx38_3 : wr.cell? ⟨go38, (x10_4 : Int).toNat * 5 + 3, none⟩ = some (.string ((rd_T33 x7_5 x10_4).f3)) := hcc38 3 _ rfl
                     have hx38_4 : wr.cell? ⟨go38, (x10_4 : Int).toNat * 5 + 4, none⟩ = some (.int .i64 ((rd_T33 x7_5 x10_4).f4)) := hcc38 4 _ rfl
                     have hf38_0 : wr.frozen? ⟨go38, (x10_4 : Int).toNat * 5, none⟩ = false := hfr38 0
                     have hf38_1 : wr.frozen? ⟨go38, (x10_4 : Int).toNat * 5 + 1, none⟩ = false := hfr38 1
                     have hf38_2 : wr.frozen? ⟨go38, (x10_4 : Int).toNat * 5 + 2, none⟩ = false := hfr38 2
                     have hf38_3 : wr.frozen? ⟨go38, (x10_4 : Int).toNat * 5 + 3, none⟩ = false := hfr38 3
                     have hf38_4 : wr.frozen? ⟨go38, (x10_4 : Int).toNat * 5 + 4, none⟩ = false := hfr38 4
                     clear hcl38 hcc38 hfr38 hM38
                     replace p38 := eq_true p38
                     replace q38 := eq_true q38
                     have HX39 := Az.mk (show Kd.S k33 33 wr w.heap.size (fun k_ => ((fun _ => True)) k_ ∧ ¬ ((fun _ => False)) k_) (.slice (some ⟨go38, 0, none⟩) x7_5.length co27) x7_5 from (by (with_reducible repeat (first | apply Kd.S_alloc | apply Kd.S_drewN | apply Kd.S_drew)); exact Kd.S_mono HO_7.out (fun k_ hk => ⟨trivial, fun e_ => e_⟩)))
                     obtain ⟨oki39, ce39, hcl39, hM39, hcc39, hfr39, hoki39, hH39⟩ := Kd.S_elem HX39.out z33 (x10_4 : Int) (of_decide_eq_true (by assumption)) (by have h_ : (x10_4 : Int) < ((x7_5.length : Int) : Int) := of_decide_eq_true (by assumption); first | exact h_ | (have e_ := (Kd.S_reads' HO_7.out).1; omega) | simpa using h_)
                     obtain ⟨ve39_2, rfl, ge39_2⟩ := k33_openM hM39
                     have HP39 := Kd.S_seg hH39 (of_decide_eq_true (by assumption)) (by have h_ : (x10_4 : Int) < ((x7_5.length : Int) : Int) := of_decide_eq_true (by assumption); first | exact h_ | (have e_ := (Kd.S_reads' HO_7.out).1; omega) | simpa using h_) (seg := [.int .u8 0, .string (⟨#[]⟩ : ByteArray), .slice none 0 0, .string (⟨#[]⟩ : ByteArray), .int .i64 0]) (j := 0) (show 5 ≤ 5 from by decide) (x' := (⟨0, (⟨#[]⟩ : ByteArray), ([] : List (S38)), (⟨#[]⟩ : ByteArray), 0⟩ : S33)) (k33_mkM _ _ _ (⟨0, (⟨#[]⟩ : ByteArray), ([] : List (S38)), (⟨#[]⟩ : ByteArray), 0⟩ : S33) (Kd.R_nil _ _ _ _ _)) (fun _ hk => hk) (fun k_ hk_ => hk_.elim)
                     have hx39_0 := hcc39 0 _ rfl
                     (try simp only [show (k33).sz = 5 from rfl, Nat.mul_one, Nat.add_zero] at hx39_0)
                     have hf39_0 := hfr39 0
                     (try simp only [show (k33).sz = 5 from rfl, Nat.mul_one, Nat.add_zero] at hf39_0)
                     have hx39_1 := hcc39 1 _ rfl
                     (try simp only [show (k33).sz = 5 from rfl, Nat.mul_one, Nat.add_zero] at hx39_1)
                     have hf39_1 := hfr39 1
                     (try simp only [show (k33).sz = 5 from rfl, Nat.mul_one, Nat.add_zero] at hf39_1)
                     have hx39_2 := hcc39 2 _ rfl
                     (try simp only [show (k33).sz = 5 from rfl, Nat.mul_one, Nat.add_zero] at hx39_2)
                     have hf39_2 := hfr39 2
                     (try simp only [show (k33).sz = 5 from rfl, Nat.mul_one, Nat.add_zero] at hf39_2)
                     have hx39_3 := hcc39 3 _ rfl
                     (try simp only [show (k33).sz = 5 from rfl, Nat.mul_one, Nat.add_zero] at hx39_3)
                     have hf39_3 := hfr39 3
                     (try simp only [show (k33).sz = 5 from rfl, Nat.mul_one, Nat.add_zero] at hf39_3)
                     have hx39_4 := hcc39 4 _ rfl
                     (try simp only [show (k33).sz = 5 from rfl, Nat.mul_one, Nat.add_zero] at hx39_4)
                     have hf39_4 := hfr39 4
                     (try simp only [show (k33).sz = 5 from rfl, Nat.mul_one, Nat.add_zero] at hf39_4)
                     clear hcl39 hcc39 hfr39 hM39 hoki39 hH39
                     go_wp2_with (first | ((with_reducible refine gate_store (t := 33) (p := 89) rfl ?_); refine store_event (t := 33) (p := 89) (v := ?vo_w40) (w1 := (((((wr.setCell ⟨go38, (x10_4 : Int).toNat * 5, none⟩ (.int .u8 0)).setCell ⟨go38, (x10_4 : Int).toNat * 5 + 1, none⟩ (.string (⟨#[]⟩ : ByteArray))).setCell ⟨go38, (x10_4 : Int).toNat * 5 + 2, none⟩ (.slice none 0 0)).setCell ⟨go38, (x10_4 : Int).toNat * 5 + 3, none⟩ (.string (⟨#[]⟩ : ByteArray))).setCell ⟨go38, (x10_4 : Int).toNat * 5 + 4, none⟩ (.int .i64 0))) ?hg ?ho ?hn ?hr ?_; (case ho => rfl); (case hg => rfl); (case hn => rfl); (case hr => first | (go_simp; done) | (go_simp; rfl)); intro w40 hw; have hg : wr.grownBy w40 (some go38) := (by rw [hw]; exact HP39.2); have hp_ : Kd.S k33 33 w40 w.heap.size (fun _ => True) (.slice (some ⟨go38, 0, none⟩) x7_5.length co27) y295 := (by rw [hw, Ny295.out]; exact HP39.1); clear HP39; have n0_ := Az.mk (Kd.S_over' (v := (.slice (some ⟨go38, 0, none⟩) x7_5.length co27)) (tws HO_3.out) (Kd.S_typed HO_7.out) (by decide) hg); have n1_ := Az.mk (hp_); have n2_ := Az.mk (Kd.R_after (v := (.slice (some ⟨go38, 0, none⟩) x7_5.length co27)) (v1 := (.slice (some ⟨go38, 0, none⟩) x7_5.length co27)) (ok := (fun _ => True)) (twr HL290_2.out) hg (.inl rfl)); have n3_ := Az.mk ((by rw [hw]; exact below_set (below_set (below_set (below_set (below_set (HB.out) GB38.out) GB38.out) GB38.out) GB38.out) GB38.out : Below w.heap.size w w40)); clear HO_3; clear HO_7; clear HL290_2; clear HB; have HO_3 := n0_; have HO_7 := n1_; have HL290_2 := n2_; have HB := n3_; clear n0_ n1_ n2_ n3_; clear hg hw hp_))
                     (try simp only [← hl7_5])
                     go_roundg k5
                     case measure => have := HJ1.out; have := HK2.out; have := HJ10.out; have := HK4.out; have := HK5.out; omega
                     case rel => exact ⟨(y295), (wrap64 (x10_4 + 1)), (by first | rfl | (simp; done) | (simp [*]; done)), H', ⟨by have := HJ1.out; have := HK2.out; have := HJ10.out; have := HK4.out; have := HK5.out; omega⟩, ⟨by (try simp only [hl7_5]); (with_reducible repeat (first | apply Kd.S_alloc | apply Kd.S_drewN | apply Kd.S_drew)); exact HO_3.out⟩, ⟨by (try simp only [hl7_5]); (with_reducible repeat (first | apply Kd.S_alloc | apply Kd.S_drewN | apply Kd.S_drew)); exact HO_7.out⟩, ⟨tw HB.out⟩⟩
                   ·rw [if_neg c32] at H
                    exact absurd H (by simp)
                  ·rw [if_neg c31] at H
                   exact absurd H (by simp)
               ·replace c26 := Bool.eq_false_iff.mpr c26
                subst c26
                have H1 : (some false) = some r := by rw [if_neg (show ¬ (false = true) by decide)] at H; exact H
                exact absurd HRT.out (by rw [← Option.some.inj H1]; decide)
              ·rw [if_neg c24] at H
               exact absurd H (by simp)
             ·rw [if_neg c23] at H
              exact absurd H (by simp)
            ·rw [if_neg c22] at H
             have c22b0 : decide (x10_4 < (x7_4.length : Int)) = false := decide_eq_false c22
             clear c22
             have H' := Az.mk H
             clear H
             obtain ⟨Ao45, co45, eo45⟩ := Kd.S_slice HO_7.out
             subst eo45
             go_wp2
             go_roundg k4
             case measure => have := HJ1.out; have := HK2.out; have := HJ10.out; have := HK4.out; omega
             case rel => exact ⟨(wrap64 (x6_2 + 1)), (by first | rfl | (simp; done) | (simp [*]; done)), H', ⟨by have := HJ1.out; have := HK2.out; have := HJ10.out; have := HK4.out; omega⟩, ⟨tws HO_3.out⟩, ⟨tw HB.out⟩⟩
      ·rw [if_neg c9] at H
       have c9b0 : decide (x6_2 < 2) = false := decide_eq_false c9
       clear c9
       replace H := Option.bind_eq_some_iff.mp H
       obtain ⟨t279, A460, H⟩ := H
       replace H : ((r4_Blank.f k2 a0).bind fun t280 => (if (t279 == t280) = true then ((w4_works.f k2).bind fun t281 => (some t281)) else (some false))) = some r := H
       have A46 := Az.mk A460
       clear A460
       replace H := Option.bind_eq_some_iff.mp H
       obtain ⟨t280, A470, H⟩ := H
       replace H : (if (t279 == t280) = true then ((w4_works.f k2).bind fun t281 => (some t281)) else (some false)) = some r := H
       have A47 := Az.mk A470
       clear A470
       by_cases c48 : (t279 == t280) = true
       ·rw [if_pos c48] at H
        have c48b0 : (t279 == t280) = true := c48
        (try (have c48b1 : decide (t279 = t280) = true := by simpa using c48))
        (try (have c48b2 : (t279 == t280) = true := by simpa using c48))
        clear c48
        replace H := Option.bind_eq_some_iff.mp H
        obtain ⟨t281, A490, H⟩ := H
        replace H : (some t281) = some r := H
        have A49 := Az.mk A490
        clear A490
        obtain rfl := Option.some.inj H
        go_wp2_with (first | ((with_reducible refine gate_callee (f := 11) rfl ?_); refine goesL_ (some 91) rfl rfl Tryz.func11 (by kernel_rfl) rfl #[.string a0] rfl (by (try simp only [List.map_toArray, List.map_cons, List.map_nil]); first | done | rfl | (simp only [List.length_drop, List.length_take]; rfl)) ?_; (with_reducible refine (X.token_Blank.calls a0 t279 _ A46.out).mono ?_); rintro e w50 ⟨rfl, hb⟩; refine ⟨_, rfl, ?_⟩; have n0_ := Az.mk (Kd.S_below (tws HO_3.out) hb); have n1_ := Az.mk (below_step (tw HB.out) hb); clear HO_3; clear HB; have HO_3 := n0_; have HB := n1_; clear n0_ n1_; (try clear hb); (try clear hb2); (try clear hk); (try clear hi)) | ((with_reducible refine gate_callee (f := 12) rfl ?_); refine goesL_ (some 93) rfl rfl Tryz.func12 (by kernel_rfl) rfl #[.string a0] rfl (by (try simp only [List.map_toArray, List.map_cons, List.map_nil]); first | done | rfl | (simp only [List.length_drop, List.length_take]; rfl)) ?_; (with_reducible refine (r4_Blank.calls k2 a0 t280 _ A47.out).mono ?_); rintro e w' ⟨rfl, ⟨nd, rfl⟩⟩; refine ⟨_, rfl, ?_⟩) | (go_at_call 7; (with_reducible refine (w4_works.calls k2  t281 _ ?side1 A49.out).mono ?_); (case side1 => exact Glob.of_below hG (tw HB.out)); rintro e w51 ⟨rfl, hb⟩; have n0_ := Az.mk (Kd.S_below (tws HO_3.out) hb); have n1_ := Az.mk (below_step (tw HB.out) hb); clear HO_3; clear HB; have HO_3 := n0_; have HB := n1_; clear n0_ n1_; (try clear hb); (try clear hb2); (try clear hk); (try clear hi)))
        go_ret
        exact ⟨by first | rfl | (simp [errW_none, errW_some] <;> rfl) | (simp [*, errW_none, errW_some] <;> rfl), tw HB.out⟩
       ·rw [if_neg c48] at H
        have c48b0 : (t279 == t280) = false := by simpa using c48
        (try (have c48b1 : decide (t279 = t280) = false := by simpa using c48))
        (try (have c48b2 : (t279 == t280) = false := by simpa using c48))
        (try (have c48b3 : ¬ (t279 = t280) := by simpa using c48))
        clear c48
        obtain rfl := Option.some.inj H
        exact absurd HRT.out (by decide)
theorem w4_TokenCuts.calls_row (k : Nat) (a0 : ByteArray) (u : Bool) (w : World) (hG : Glob w) (h : w4_TokenCuts.f k a0 = some true) :
  Calls Tryz.prog 3 #[.string a0] w fun e w' => e = .returned (.bool true) ∧ Below w.heap.size w w' :=
 w4_TokenCuts.calls_t k a0 true w hG ⟨rfl⟩ h
end Go.Proofs.YtpknhgejnfmijaaGreatDoor.PC
