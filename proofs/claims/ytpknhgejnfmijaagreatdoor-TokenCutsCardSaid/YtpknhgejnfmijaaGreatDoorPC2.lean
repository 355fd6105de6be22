/- A text of the claim, with what no other text of it needs taken out. -/
import Derived.Test.YtpknhgejnfmijaaGreatDoorPC0
import Derived.Test.YtpknhgejnfmijaaGreatDoorPC1
namespace Go.Proofs.YtpknhgejnfmijaaGreatDoor.PC
open Go.Proofs.YtpknhgejnfmijaaGreatDoor.K
open Go.RowKit Go.Proofs.YtpknhgejnfmijaaGreatDoorW.PrintWords Go.Proofs.YtpknhgejnfmijaaGreatDoorW.PrintLast Go.Proofs.YtpknhgejnfmijaaGreatDoorW.PrintMore
attribute [local go_sem] max2_int min2_int max_two min_two max_three min_three max_four min_four
set_option linter.unusedVariables false
set_option linter.unusedSimpArgs false
attribute [local go_sem high] eqA38
def w4_works.j0 : Nat → List (S33) → Int → Int → Int → Int → Int → Bool → Option (Bool)
 | 0, _, _, _, _, _, _, _ => none
 | k + 1, x4, x6, x8, x9, x11, x12, x85 => if x85 = true then (some false) else (if x6 = 0 then (if (x4.length : Int) = 3 then (if 0 < (x4.length : Int) then (if ((rd_T33 x4 0).f4) = 7 then (if 1 < (x4.length : Int) then (if ((rd_T33 x4 1).f3).toList = ([116] : List UInt8) then (if 2 < (x4.length : Int) then (if ((rd_T33 x4 2).f0) = 2 then (if ((rd_T33 x4 2).f4) = 21 then (if x8 = 1 then (if x9 = 40 then (if x11 = 1 then (if x12 = 30 then ((X.token_Blank.f (⟨#[32, 10]⟩ : ByteArray)).bind fun t132 => (if t132 = true then ((X.token_Blank.f (⟨#[97]⟩ : ByteArray)).bind fun t133 => (some (!t133))) else (some false))) else (some false)) else (some false)) else (some false)) else (some false)) else (some false)) else (some false)) else (none)) else (some false)) else (none)) else (some false)) else (none)) else (some false)) else (some false))
def w4_works.f (k : Nat)  : Option (Bool) := (X.token_Tokens.f (⟨#[60, 97, 32, 120, 61, 34, 49, 34, 32, 121, 61, 39, 38, 108, 116, 59, 39, 47, 62, 98]⟩ : ByteArray)).bind fun bt101 => ((X.token_Tokens.f (⟨#[60, 63, 120, 109, 108, 63, 62, 60, 97, 62, 116, 60, 33, 45, 45, 32, 110, 32, 45, 45, 62, 60, 47, 97, 32, 62]⟩ : ByteArray)).bind fun bt106 => ((X.token_Tokens.f (⟨#[97, 60, 98, 32, 99, 61, 100, 62]⟩ : ByteArray)).bind fun bt111 => ((X.token_Tokens.f (⟨#[97, 38, 98, 59]⟩ : ByteArray)).bind fun bt116 => (if bt101.2.2 = 0 then (if (bt101.1.length : Int) = 2 then (if 0 < (bt101.1.length : Int) then (if ((rd_T33 bt101.1 0).f0) = 3 then (if ((rd_T33 bt101.1 0).f1).toList = ([97] : List UInt8) then (if (((rd_T33 bt101.1 0).f2).length : Int) = 2 then (if 1 < (((rd_T33 bt101.1 0).f2).length : Int) then (if (!((((rd_T38 ((rd_T33 bt101.1 0).f2) 1).f0).toList) == ([121] : List UInt8)) || (!((((rd_T38 ((rd_T33 bt101.1 0).f2) 1).f1).toList) == ([60] : List UInt8)))) = true then (w4_works.j0 k bt106.1 bt106.2.2 bt111.2.1 bt111.2.2 bt116.2.1 bt116.2.2 true) else (if 1 < (bt101.1.length : Int) then (if ((rd_T33 bt101.1 1).f3).toList = ([98] : List UInt8) then (w4_works.j0 k bt106.1 bt106.2.2 bt111.2.1 bt111.2.2 bt116.2.1 bt116.2.2 (((rd_T33 bt101.1 1).f4) != 19)) else (w4_works.j0 k bt106.1 bt106.2.2 bt111.2.1 bt111.2.2 bt116.2.1 bt116.2.2 true)) else (none))) else (none)) else (w4_works.j0 k bt106.1 bt106.2.2 bt111.2.1 bt111.2.2 bt116.2.1 bt116.2.2 true)) else (w4_works.j0 k bt106.1 bt106.2.2 bt111.2.1 bt111.2.2 bt116.2.1 bt116.2.2 true)) else (w4_works.j0 k bt106.1 bt106.2.2 bt111.2.1 bt111.2.2 bt116.2.1 bt116.2.2 true)) else (none)) else (w4_works.j0 k bt106.1 bt106.2.2 bt111.2.1 bt111.2.2 bt116.2.1 bt116.2.2 true)) else (w4_works.j0 k bt106.1 bt106.2.2 bt111.2.1 bt111.2.2 bt116.2.1 bt116.2.2 true)))))
theorem w4_works.mono_l : ∀ k, (∀ y0 y1 y2 y3 y4 y5 y6, LeO (w4_works.j0 k y0 y1 y2 y3 y4 y5 y6) (w4_works.j0 (k + 1) y0 y1 y2 y3 y4 y5 y6))
 | 0 => fun _ _ _ _ _ _ _ r h => by simp [w4_works.j0] at h
 | k + 1 => by
  have ih0 := w4_works.mono_l k
  ·intro y0 y1 y2 y3 y4 y5 y6
   unfold w4_works.j0
   repeat' first
   | (with_reducible exact ih0 _ _ _ _ _ _ _)
   | (with_reducible exact LeO.refl _)
   | (with_reducible exact LeO.none _)
   | (with_reducible refine LeO.ite ?_ ?_)
   | (with_reducible refine LeO.bind ?_ (fun _ => ?_))
theorem w4_works.mono : ∀ k, LeO (w4_works.f k ) (w4_works.f (k + 1) ) := by
 intro  k
 have ih0 := w4_works.mono_l k
 unfold w4_works.f
 repeat' first
   | (with_reducible exact ih0 _ _ _ _ _ _ _)
   | (with_reducible exact LeO.refl _)
   | (with_reducible exact LeO.none _)
   | (with_reducible refine LeO.ite ?_ ?_)
   | (with_reducible refine LeO.bind ?_ (fun _ => ?_))
theorem w4_works.j0t (k : Nat) (r : Bool) : ∀ {y0 y1 y2 y3 y4 y5}, w4_works.j0 k y0 y1 y2 y3 y4 y5 true = some r → ¬ r = true := by
 intro y0 y1 y2 y3 y4 y5 h hr
 cases k with
 | zero => simp [w4_works.j0] at h
 | succ k =>
  simp only [w4_works.j0] at h
  rw [if_pos trivial] at h
  rw [hr] at h
  exact absurd (Option.some.inj h) (by decide)
set_option maxHeartbeats 8000000 in
set_option maxRecDepth 100000 in
theorem w4_works.calls_t (k : Nat)  (r : Bool) (w : World) (hG : Glob w) (HRT : Az (r = true)) (h : w4_works.f k  = some r) :
  Calls Tryz.prog 7 #[] w fun e w' => e = .returned (.bool r) ∧ Below w.heap.size w w' := by
 have hu38 := Tryz.underlying38
 have HB := Az.mk (Below.refl w.heap.size w)
 have H := h
 unfold w4_works.f at H
 clear h
 replace H := Option.bind_eq_some_iff.mp H
 obtain ⟨⟨t101, t102, t103⟩, A10, H⟩ := H
 replace H : ((X.token_Tokens.f (⟨#[60, 63, 120, 109, 108, 63, 62, 60, 97, 62, 116, 60, 33, 45, 45, 32, 110, 32, 45, 45, 62, 60, 47, 97, 32, 62]⟩ : ByteArray)).bind fun bt106 => ((X.token_Tokens.f (⟨#[97, 60, 98, 32, 99, 61, 100, 62]⟩ : ByteArray)).bind fun bt111 => ((X.token_Tokens.f (⟨#[97, 38, 98, 59]⟩ : ByteArray)).bind fun bt116 => (if t103 = 0 then (if (t101.length : Int) = 2 then (if 0 < (t101.length : Int) then (if ((rd_T33 t101 0).f0) = 3 then (if ((rd_T33 t101 0).f1).toList = ([97] : List UInt8) then (if (((rd_T33 t101 0).f2).length : Int) = 2 then (if 1 < (((rd_T33 t101 0).f2).length : Int) then (if (!((((rd_T38 ((rd_T33 t101 0).f2) 1).f0).toList) == ([121] : List UInt8)) || (!((((rd_T38 ((rd_T33 t101 0).f2) 1).f1).toList) == ([60] : List UInt8)))) = true then (w4_works.j0 k bt106.1 bt106.2.2 bt111.2.1 bt111.2.2 bt116.2.1 bt116.2.2 true) else (if 1 < (t101.length : Int) then (if ((rd_T33 t101 1).f3).toList = ([98] : List UInt8) then (w4_works.j0 k bt106.1 bt106.2.2 bt111.2.1 bt111.2.2 bt116.2.1 bt116.2.2 (((rd_T33 t101 1).f4) != 19)) else (w4_works.j0 k bt106.1 bt106.2.2 bt111.2.1 bt111.2.2 bt116.2.1 bt116.2.2 true)) else (none))) else (none)) else (w4_works.j0 k bt106.1 bt106.2.2 bt111.2.1 bt111.2.2 bt116.2.1 bt116.2.2 true)) else (w4_works.j0 k bt106.1 bt106.2.2 bt111.2.1 bt111.2.2 bt116.2.1 bt116.2.2 true)) else (w4_works.j0 k bt106.1 bt106.2.2 bt111.2.1 bt111.2.2 bt116.2.1 bt116.2.2 true)) else (none)) else (w4_works.j0 k bt106.1 bt106.2.2 bt111.2.1 bt111.2.2 bt116.2.1 bt116.2.2 true)) else (w4_works.j0 k bt106.1 bt106.2.2 bt111.2.1 bt111.2.2 bt116.2.1 bt116.2.2 true))))) = some r := H
 have A1 := Az.mk A10
 clear A10
 replace H := Option.bind_eq_some_iff.mp H
 obtain ⟨⟨t106, t107, t108⟩, A20, H⟩ := H
 replace H : ((X.token_Tokens.f (⟨#[97, 60, 98, 32, 99, 61, 100, 62]⟩ : ByteArray)).bind fun bt111 => ((X.token_Tokens.f (⟨#[97, 38, 98, 59]⟩ : ByteArray)).bind fun bt116 => (if t103 = 0 then (if (t101.length : Int) = 2 then (if 0 < (t101.length : Int) then (if ((rd_T33 t101 0).f0) = 3 then (if ((rd_T33 t101 0).f1).toList = ([97] : List UInt8) then (if (((rd_T33 t101 0).f2).length : Int) = 2 then (if 1 < (((rd_T33 t101 0).f2).length : Int) then (if (!((((rd_T38 ((rd_T33 t101 0).f2) 1).f0).toList) == ([121] : List UInt8)) || (!((((rd_T38 ((rd_T33 t101 0).f2) 1).f1).toList) == ([60] : List UInt8)))) = true then (w4_works.j0 k t106 t108 bt111.2.1 bt111.2.2 bt116.2.1 bt116.2.2 true) else (if 1 < (t101.length : Int) then (if ((rd_T33 t101 1).f3).toList = ([98] : List UInt8) then (w4_works.j0 k t106 t108 bt111.2.1 bt111.2.2 bt116.2.1 bt116.2.2 (((rd_T33 t101 1).f4) != 19)) else (w4_works.j0 k t106 t108 bt111.2.1 bt111.2.2 bt116.2.1 bt116.2.2 true)) else (none))) else (none)) else (w4_works.j0 k t106 t108 bt111.2.1 bt111.2.2 bt116.2.1 bt116.2.2 true)) else (w4_works.j0 k t106 t108 bt111.2.1 bt111.2.2 bt116.2.1 bt116.2.2 true)) else (w4_works.j0 k t106 t108 bt111.2.1 bt111.2.2 bt116.2.1 bt116.2.2 true)) else (none)) else (w4_works.j0 k t106 t108 bt111.2.1 bt111.2.2 bt116.2.1 bt116.2.2 true)) else (w4_works.j0 k t106 t108 bt111.2.1 bt111.2.2 bt116.2.1 bt116.2.2 true)))) = some r := H
 have A2 := Az.mk A20
 clear A20
 replace H := Option.bind_eq_some_iff.mp H
 obtain ⟨⟨t111, t112, t113⟩, A30, H⟩ := H
 replace H : ((X.token_Tokens.f (⟨#[97, 38, 98, 59]⟩ : ByteArray)).bind fun bt116 => (if t103 = 0 then (if (t101.length : Int) = 2 then (if 0 < (t101.length : Int) then (if ((rd_T33 t101 0).f0) = 3 then (if ((rd_T33 t101 0).f1).toList = ([97] : List UInt8) then (if (((rd_T33 t101 0).f2).length : Int) = 2 then (if 1 < (((rd_T33 t101 0).f2).length : Int) then (if (!((((rd_T38 ((rd_T33 t101 0).f2) 1).f0).toList) == ([121] : List UInt8)) || (!((((rd_T38 ((rd_T33 t101 0).f2) 1).f1).toList) == ([60] : List UInt8)))) = true then (w4_works.j0 k t106 t108 t112 t113 bt116.2.1 bt116.2.2 true) else (if 1 < (t101.length : Int) then (if ((rd_T33 t101 1).f3).toList = ([98] : List UInt8) then (w4_works.j0 k t106 t108 t112 t113 bt116.2.1 bt116.2.2 (((rd_T33 t101 1).f4) != 19)) else (w4_works.j0 k t106 t108 t112 t113 bt116.2.1 bt116.2.2 true)) else (none))) else (none)) else (w4_works.j0 k t106 t108 t112 t113 bt116.2.1 bt116.2.2 true)) else (w4_works.j0 k t106 t108 t112 t113 bt116.2.1 bt116.2.2 true)) else (w4_works.j0 k t106 t108 t112 t113 bt116.2.1 bt116.2.2 true)) else (none)) else (w4_works.j0 k t106 t108 t112 t113 bt116.2.1 bt116.2.2 true)) else (w4_works.j0 k t106 t108 t112 t113 bt116.2.1 bt116.2.2 true))) = some r := H
 have A3 := Az.mk A30
 clear A30
 replace H := Option.bind_eq_some_iff.mp H
 obtain ⟨⟨t116, t117, t118⟩, A40, H⟩ := H
 replace H : (if t103 = 0 then (if (t101.length : Int) = 2 then (if 0 < (t101.length : Int) then (if ((rd_T33 t101 0).f0) = 3 then (if ((rd_T33 t101 0).f1).toList = ([97] : List UInt8) then (if (((rd_T33 t101 0).f2).length : Int) = 2 then (if 1 < (((rd_T33 t101 0).f2).length : Int) then (if (!((((rd_T38 ((rd_T33 t101 0).f2) 1).f0).toList) == ([121] : List UInt8)) || (!((((rd_T38 ((rd_T33 t101 0).f2) 1).f1).toList) == ([60] : List UInt8)))) = true then (w4_works.j0 k t106 t108 t112 t113 t117 t118 true) else (if 1 < (t101.length : Int) then (if ((rd_T33 t101 1).f3).toList = ([98] : List UInt8) then (w4_works.j0 k t106 t108 t112 t113 t117 t118 (((rd_T33 t101 1).f4) != 19)) else (w4_works.j0 k t106 t108 t112 t113 t117 t118 true)) else (none))) else (none)) else (w4_works.j0 k t106 t108 t112 t113 t117 t118 true)) else (w4_works.j0 k t106 t108 t112 t113 t117 t118 true)) else (w4_works.j0 k t106 t108 t112 t113 t117 t118 true)) else (none)) else (w4_works.j0 k t106 t108 t112 t113 t117 t118 true)) else (w4_works.j0 k t106 t108 t112 t113 t117 t118 true)) = some r := H
 have A4 := Az.mk A40
 clear A40
 have HC5 := Az.mk H
 clear H
 go_enter Tryz.func7, Tryz.ntmps7
 go_upto_region 5 with (first | ((with_reducible refine gate_callee (f := 9) rfl ?_); refine goesL_ (some 14) rfl rfl Tryz.func9 (by kernel_rfl) rfl #[.string (⟨#[60, 97, 32, 120, 61, 34, 49, 34, 32, 121, 61, 39, 38, 108, 116, 59, 39, 47, 62, 98]⟩ : ByteArray)] rfl (by (try simp only [List.map_toArray, List.map_cons, List.map_nil]); first | done | rfl | (simp only [List.length_drop, List.length_take]; rfl)) ?_; (with_reducible refine (X.token_Tokens.calls (⟨#[60, 97, 32, 120, 61, 34, 49, 34, 32, 121, 61, 39, 38, 108, 116, 59, 39, 47, 62, 98]⟩ : ByteArray) t101 t102 t103 _ ?side1 A1.out).mono ?_); (case side1 => exact Glob.of_below hG (tw HB.out)); rintro e w6 ⟨v104, rfl, ho0, hb⟩; refine ⟨_, rfl, ?_⟩; have n0_ := Az.mk (Kd.S_lower ho0 (below_size (tw HB.out))); have n1_ := Az.mk (below_step (tw HB.out) hb); clear HB; have HO105 := n0_; have HB := n1_; clear n0_ n1_; (try clear hb); (try clear hb2); (try clear hk); (try clear hi); (try clear ho0)) | ((with_reducible refine gate_callee (f := 9) rfl ?_); refine goesL_ (some 19) rfl rfl Tryz.func9 (by kernel_rfl) rfl #[.string (⟨#[60, 63, 120, 109, 108, 63, 62, 60, 97, 62, 116, 60, 33, 45, 45, 32, 110, 32, 45, 45, 62, 60, 47, 97, 32, 62]⟩ : ByteArray)] rfl (by (try simp only [List.map_toArray, List.map_cons, List.map_nil]); first | done | rfl | (simp only [List.length_drop, List.length_take]; rfl)) ?_; (with_reducible refine (X.token_Tokens.calls (⟨#[60, 63, 120, 109, 108, 63, 62, 60, 97, 62, 116, 60, 33, 45, 45, 32, 110, 32, 45, 45, 62, 60, 47, 97, 32, 62]⟩ : ByteArray) t106 t107 t108 _ ?side1 A2.out).mono ?_); (case side1 => exact Glob.of_below hG (tw HB.out)); rintro e w7 ⟨v109, rfl, ho0, hb⟩; refine ⟨_, rfl, ?_⟩; have n0_ := Az.mk (Kd.S_elder' (tws HO105.out) (Kd.S_base ho0) hb); have n1_ := Az.mk (Kd.S_lower (Kd.S_new' ho0 (Kd.S_lt (tws HO105.out))) (below_size (tw HB.out))); have n2_ := Az.mk (below_step (tw HB.out) hb); clear HO105; clear HB; have HO105 := n0_; have HO110 := n1_; have HB := n2_; clear n0_ n1_ n2_; (try clear hb); (try clear hb2); (try clear hk); (try clear hi); (try clear ho0)) | ((with_reducible refine gate_callee (f := 9) rfl ?_); refine goesL_ (some 24) rfl rfl Tryz.func9 (by kernel_rfl) rfl #[.string (⟨#[97, 60, 98, 32, 99, 61, 100, 62]⟩ : ByteArray)] rfl (by (try simp only [List.map_toArray, List.map_cons, List.map_nil]); first | done | rfl | (simp only [List.length_drop, List.length_take]; rfl)) ?_; (with_reducible refine (X.token_Tokens.calls (⟨#[97, 60, 98, 32, 99, 61, 100, 62]⟩ : ByteArray) t111 t112 t113 _ ?side1 A3.out).mono ?_); (case side1 => exact Glob.of_below hG (tw HB.out)); rintro e w8 ⟨v114, rfl, ho0, hb⟩; refine ⟨_, rfl, ?_⟩; have n0_ := Az.mk (Kd.S_elder' (tws HO105.out) (Kd.S_base ho0) hb); have n1_ := Az.mk (Kd.S_elder' (tws HO110.out) (Kd.S_base ho0) hb); have n2_ := Az.mk (Kd.S_lower (Kd.S_new' (Kd.S_new' ho0 (Kd.S_lt (tws HO105.out))) (Kd.S_lt (tws HO110.out))) (below_size (tw HB.out))); have n3_ := Az.mk (below_step (tw HB.out) hb); clear HO105; clear HO110; clear HB; have HO105 := n0_; have HO110 := n1_; have HO115 := n2_; have HB := n3_; clear n0_ n1_ n2_ n3_; (try clear hb); (try clear hb2); (try clear hk); (try clear hi); (try clear ho0)) | ((with_reducible refine gate_callee (f := 9) rfl ?_); refine goesL_ (some 29) rfl rfl Tryz.func9 (by kernel_rfl) rfl #[.string (⟨#[97, 38, 98, 59]⟩ : ByteArray)] rfl (by (try simp only [List.map_toArray, List.map_cons, List.map_nil]); first | done | rfl | (simp only [List.length_drop, List.length_take]; rfl)) ?_; (with_reducible refine (X.token_Tokens.calls (⟨#[97, 38, 98, 59]⟩ : ByteArray) t116 t117 t118 _ ?side1 A4.out).mono ?_); (case side1 => exact Glob.of_below hG (tw HB.out)); rintro e w9 ⟨v119, rfl, ho0, hb⟩; refine ⟨_, rfl, ?_⟩; have n0_ := Az.mk (Kd.S_elder' (tws HO105.out) (Kd.S_base ho0) hb); have n1_ := Az.mk (Kd.S_elder' (tws HO110.out) (Kd.S_base ho0) hb); have n2_ := Az.mk (Kd.S_elder' (tws HO115.out) (Kd.S_base ho0) hb); have n3_ := Az.mk (Kd.S_lower (Kd.S_new' (Kd.S_new' (Kd.S_new' ho0 (Kd.S_lt (tws HO105.out))) (Kd.S_lt (tws HO110.out))) (Kd.S_lt (tws HO115.out))) (below_size (tw HB.out))); have n4_ := Az.mk (below_step (tw HB.out) hb); clear HO105; clear HO110; clear HO115; clear HB; have HO105 := n0_; have HO110 := n1_; have HO115 := n2_; have HO120 := n3_; have HB := n4_; clear n0_ n1_ n2_ n3_ n4_; (try clear hb); (try clear hb2); (try clear hk); (try clear hi); (try clear ho0)))
 (try simp only [Act.put, List.setIfInBounds_toArray, List.set_cons_zero, List.set_cons_succ])
 go_cut [85] (fun v85 wc => ∃ (kq : Nat) (x85_4 : Bool), v85 = .bool x85_4 ∧ Az (w4_works.j0 kq t106 t108 t112 t113 t117 t118 x85_4 = some r) ∧ Az (kq ≤ k) ∧ Az (Kd.S k33 33 wc w.heap.size (fun _ => True) v109 t106) ∧ Az (Below w.heap.size w wc))
 case first =>
  have H := HC5.out
  clear HC5
  by_cases c10 : t103 = 0
  ·rw [if_pos c10] at H
   have c10b0 : (t103 == 0) = true := beq_iff_eq.mpr c10
   have c10b1 : (t103 != 0) = false := bne_eq_false_iff_eq.mpr c10
   clear c10
   (first | rw [c10b0] | (simp only [i64_w, i32_w]; rw [c10b0]) | skip)
   by_cases c11 : (t101.length : Int) = 2
   ·rw [if_pos c11] at H
    have c11b0 : ((t101.length : Int) == 2) = true := beq_iff_eq.mpr c11
    have c11b1 : ((t101.length : Int) != 2) = false := bne_eq_false_iff_eq.mpr c11
    clear c11
    by_cases c12 : 0 < (t101.length : Int)
    ·rw [if_pos c12] at H
     have c12b0 : decide (0 < (t101.length : Int)) = true := decide_eq_true c12
     have c12b1 : decide (0 < t101.length) = true := decide_eq_true (by omega)
     clear c12
     by_cases c13 : ((rd_T33 t101 0).f0) = 3
     ·rw [if_pos c13] at H
      have c13b0 : (((rd_T33 t101 0).f0) == 3) = true := beq_iff_eq.mpr c13
      have c13b1 : (((rd_T33 t101 0).f0) != 3) = false := bne_eq_false_iff_eq.mpr c13
      clear c13
      by_cases c14 : ((rd_T33 t101 0).f1).toList = ([97] : List UInt8)
      ·rw [if_pos c14] at H
       have c14b0 : (((rd_T33 t101 0).f1).toList == ([97] : List UInt8)) = true := beq_iff_eq.mpr c14
       have c14b1 : (((rd_T33 t101 0).f1).toList != ([97] : List UInt8)) = false := bne_eq_false_iff_eq.mpr c14
       clear c14
       by_cases c15 : (((rd_T33 t101 0).f2).length : Int) = 2
       ·rw [if_pos c15] at H
        have c15b0 : ((((rd_T33 t101 0).f2).length : Int) == 2) = true := beq_iff_eq.mpr c15
        have c15b1 : ((((rd_T33 t101 0).f2).length : Int) != 2) = false := bne_eq_false_iff_eq.mpr c15
        clear c15
        by_cases c16 : 1 < (((rd_T33 t101 0).f2).length : Int)
        ·rw [if_pos c16] at H
         have c16b0 : decide (1 < (((rd_T33 t101 0).f2).length : Int)) = true := decide_eq_true c16
         have c16b1 : decide (1 < ((rd_T33 t101 0).f2).length) = true := decide_eq_true (by omega)
         clear c16
         by_cases c17 : (!((((rd_T38 ((rd_T33 t101 0).f2) 1).f0).toList) == ([121] : List UInt8)) || (!((((rd_T38 ((rd_T33 t101 0).f2) 1).f1).toList) == ([60] : List UInt8)))) = true
         ·rw [if_pos c17] at H
          have c17b0 : (!((((rd_T38 ((rd_T33 t101 0).f2) 1).f0).toList) == ([121] : List UInt8)) || (!((((rd_T38 ((rd_T33 t101 0).f2) 1).f1).toList) == ([60] : List UInt8)))) = true := c17
          clear c17
          exact absurd HRT.out (w4_works.j0t _ _ H)
         ·rw [if_neg c17] at H
          have c17b0 : (!((((rd_T38 ((rd_T33 t101 0).f2) 1).f0).toList) == ([121] : List UInt8)) || (!((((rd_T38 ((rd_T33 t101 0).f2) 1).f1).toList) == ([60] : List UInt8)))) = false := by simpa using c17
          clear c17
          by_cases c19 : 1 < (t101.length : Int)
          ·rw [if_pos c19] at H
           have c19b0 : decide (1 < (t101.length : Int)) = true := decide_eq_true c19
           have c19b1 : decide (1 < t101.length) = true := decide_eq_true (by omega)
           clear c19
           by_cases c20 : ((rd_T33 t101 1).f3).toList = ([98] : List UInt8)
           ·rw [if_pos c20] at H
            have c20b0 : (((rd_T33 t101 1).f3).toList == ([98] : List UInt8)) = true := beq_iff_eq.mpr c20
            have c20b1 : (((rd_T33 t101 1).f3).toList != ([98] : List UInt8)) = false := bne_eq_false_iff_eq.mpr c20
            clear c20
            have H' := Az.mk H
            clear H
            obtain ⟨Ao21, co21, eo21⟩ := Kd.S_slice HO105.out
            subst eo21
            have p121 : 0 ≤ (0 : Int) := (by omega)
            have q121 : 0 < (t101.length : Int) := of_decide_eq_true (by assumption)
            obtain ⟨ad121, A121_2, c121_2, e121, hx121_0, hx121_1, hx121_2, hx121_3, hx121_4, hl121_2, hi121_2⟩ := at_T33 (Kd.S_reads' HO105.out).2.2 0 p121 q121
            cases e121
            obtain ⟨ce121, hce121, hMe121, hcc121⟩ := Kd.S_get HO105.out z33 0 p121 (by first | exact q121 | exact of_decide_eq_true (by assumption) | (have e_ := (Kd.S_reads' HO105.out).1; omega))
            obtain ⟨ve121_2, rfl, ge121_2⟩ := k33_openM hMe121
            have hv121_2 := hcc121 2 _ rfl
            rw [add_field _ _ 2 (by omega)] at hv121_2
            replace hv121_2 := Option.some.inj (hv121_2.symm.trans hx121_2)
            rw [hv121_2] at ge121_2
            have HL121_2 := Az.mk (show Kd.R k38 38 _ _ _ _ ((rd_T33 t101 0).f2) from ge121_2)
            clear hv121_2 ge121_2
            clear hcc121 hce121
            have qi121 : (0 < t101.length) = True := eq_true (by omega)
            (try rw [show ((0 : Int)).toNat = 0 from rfl] at hx121_0)
            (try rw [show 0 * 5 = 0 from rfl] at hx121_0)
            (try rw [Addr.add_zero'] at hx121_0)
            (try rw [show ((0 : Int)).toNat = 0 from rfl] at hx121_1)
            (try rw [show 0 * 5 = 0 from rfl] at hx121_1)
            (try rw [Addr.add_zero'] at hx121_1)
            (try rw [show ((0 : Int)).toNat = 0 from rfl] at hx121_2)
            (try rw [show 0 * 5 = 0 from rfl] at hx121_2)
            (try rw [Addr.add_zero'] at hx121_2)
            (try rw [show ((0 : Int)).toNat = 0 from rfl] at hx121_3)
            (try rw [show 0 * 5 = 0 from rfl] at hx121_3)
            (try rw [Addr.add_zero'] at hx121_3)
            (try rw [show ((0 : Int)).toNat = 0 from rfl] at hx121_4)
            (try rw [show 0 * 5 = 0 from rfl] at hx121_4)
            (try rw [Addr.add_zero'] at hx121_4)
            have HR121_2 := Az.mk hi121_2
            have HC121_2 := Az.mk hl121_2
            clear hi121_2 hl121_2
            replace p121 := eq_true p121
            replace q121 := eq_true q121
            have p122 : 0 ≤ (0 : Int) := (by omega)
            have q122 : 0 < (t101.length : Int) := of_decide_eq_true (by assumption)
            obtain ⟨ad122, A122_2, c122_2, e122, hx122_0, hx122_1, hx122_2, hx122_3, hx122_4, hl122_2, hi122_2⟩ := at_T33 (Kd.S_reads' HO105.out).2.2 0 p122 q122
            obtain rfl : ad121 = ad122 := (by injection e122)
            obtain ⟨ce122, hce122, hMe122, hcc122⟩ := Kd.S_get HO105.out z33 0 p122 (by first | exact q122 | exact of_decide_eq_true (by assumption) | (have e_ := (Kd.S_reads' HO105.out).1; omega))
            obtain ⟨ve122_2, rfl, ge122_2⟩ := k33_openM hMe122
            have hv122_2 := hcc122 2 _ rfl
            rw [add_field _ _ 2 (by omega)] at hv122_2
            replace hv122_2 := Option.some.inj (hv122_2.symm.trans hx122_2)
            rw [hv122_2] at ge122_2
            have HL122_2 := Az.mk (show Kd.R k38 38 _ _ _ _ ((rd_T33 t101 0).f2) from ge122_2)
            clear hv122_2 ge122_2
            clear hcc122 hce122
            have qi122 : (0 < t101.length) = True := eq_true (by omega)
            (try rw [show ((0 : Int)).toNat = 0 from rfl] at hx122_0)
            (try rw [show 0 * 5 = 0 from rfl] at hx122_0)
            (try rw [Addr.add_zero'] at hx122_0)
            (try rw [show ((0 : Int)).toNat = 0 from rfl] at hx122_1)
            (try rw [show 0 * 5 = 0 from rfl] at hx122_1)
            (try rw [Addr.add_zero'] at hx122_1)
            (try rw [show ((0 : Int)).toNat = 0 from rfl] at hx122_2)
            (try rw [show 0 * 5 = 0 from rfl] at hx122_2)
            (try rw [Addr.add_zero'] at hx122_2)
            (try rw [show ((0 : Int)).toNat = 0 from rfl] at hx122_3)
            (try rw [show 0 * 5 = 0 from rfl] at hx122_3)
            (try rw [Addr.add_zero'] at hx122_3)
            (try rw [show ((0 : Int)).toNat = 0 from rfl] at hx122_4)
            (try rw [show 0 * 5 = 0 from rfl] at hx122_4)
            (try rw [Addr.add_zero'] at hx122_4)
            have HR122_2 := Az.mk hi122_2
            have HC122_2 := Az.mk hl122_2
            clear hi122_2 hl122_2
            replace p122 := eq_true p122
            replace q122 := eq_true q122
            have ea_ := Option.some.inj (hx121_2.symm.trans hx122_2)
            injection ea_ with ea_ en_ ec_
            subst ea_
            subst ec_
            clear en_
            have p123 : 0 ≤ (0 : Int) := (by omega)
            have q123 : 0 < (t101.length : Int) := of_decide_eq_true (by assumption)
            obtain ⟨ad123, A123_2, c123_2, e123, hx123_0, hx123_1, hx123_2, hx123_3, hx123_4, hl123_2, hi123_2⟩ := at_T33 (Kd.S_reads' HO105.out).2.2 0 p123 q123
            obtain rfl : ad121 = ad123 := (by injection e123)
            obtain ⟨ce123, hce123, hMe123, hcc123⟩ := Kd.S_get HO105.out z33 0 p123 (by first | exact q123 | exact of_decide_eq_true (by assumption) | (have e_ := (Kd.S_reads' HO105.out).1; omega))
            obtain ⟨ve123_2, rfl, ge123_2⟩ := k33_openM hMe123
            have hv123_2 := hcc123 2 _ rfl
            rw [add_field _ _ 2 (by omega)] at hv123_2
            replace hv123_2 := Option.some.inj (hv123_2.symm.trans hx123_2)
            rw [hv123_2] at ge123_2
            have HL123_2 := Az.mk (show Kd.R k38 38 _ _ _ _ ((rd_T33 t101 0).f2) from ge123_2)
            clear hv123_2 ge123_2
            clear hcc123 hce123
            have qi123 : (0 < t101.length) = True := eq_true (by omega)
            (try rw [show ((0 : Int)).toNat = 0 from rfl] at hx123_0)
            (try rw [show 0 * 5 = 0 from rfl] at hx123_0)
            (try rw [Addr.add_zero'] at hx123_0)
            (try rw [show ((0 : Int)).toNat = 0 from rfl] at hx123_1)
            (try rw [show 0 * 5 = 0 from rfl] at hx123_1)
            (try rw [Addr.add_zero'] at hx123_1)
            (try rw [show ((0 : Int)).toNat = 0 from rfl] at hx123_2)
            (try rw [show 0 * 5 = 0 from rfl] at hx123_2)
            (try rw [Addr.add_zero'] at hx123_2)
            (try rw [show ((0 : Int)).toNat = 0 from rfl] at hx123_3)
            (try rw [show 0 * 5 = 0 from rfl] at hx123_3)
            (try rw [Addr.add_zero'] at hx123_3)
            (try rw [show ((0 : Int)).toNat = 0 from rfl] at hx123_4)
            (try rw [show 0 * 5 = 0 from rfl] at hx123_4)
            (try rw [Addr.add_zero'] at hx123_4)
            have HR123_2 := Az.mk hi123_2
            have HC123_2 := Az.mk hl123_2
            clear hi123_2 hl123_2
            replace p123 := eq_true p123
            replace q123 := eq_true q123
            have ea_ := Option.some.inj (hx121_2.symm.trans hx123_2)
            injection ea_ with ea_ en_ ec_
            subst ea_
            subst ec_
            clear en_
            have p124 : 0 ≤ (0 : Int) := (by omega)
            have q124 : 0 < (t101.length : Int) := of_decide_eq_true (by assumption)
            obtain ⟨ad124, A124_2, c124_2, e124, hx124_0, hx124_1, hx124_2, hx124_3, hx124_4, hl124_2, hi124_2⟩ := at_T33 (Kd.S_reads' HO105.out).2.2 0 p124 q124
            obtain rfl : ad121 = ad124 := (by injection e124)
            obtain ⟨ce124, hce124, hMe124, hcc124⟩ := Kd.S_get HO105.out z33 0 p124 (by first | exact q124 | exact of_decide_eq_true (by assumption) | (have e_ := (Kd.S_reads' HO105.out).1; omega))
            obtain ⟨ve124_2, rfl, ge124_2⟩ := k33_openM hMe124
            have hv124_2 := hcc124 2 _ rfl
            rw [add_field _ _ 2 (by omega)] at hv124_2
            replace hv124_2 := Option.some.inj (hv124_2.symm.trans hx124_2)
            rw [hv124_2] at ge124_2
            have HL124_2 := Az.mk (show Kd.R k38 38 _ _ _ _ ((rd_T33 t101 0).f2) from ge124_2)
            clear hv124_2 ge124_2
            clear hcc124 hce124
            have qi124 : (0 < t101.length) = True := eq_true (by omega)
            (try rw [show ((0 : Int)).toNat = 0 from rfl] at hx124_0)
            (try rw [show 0 * 5 = 0 from rfl] at hx124_0)
            (try rw [Addr.add_zero'] at hx124_0)
            (try rw [show ((0 : Int)).toNat = 0 from rfl] at hx124_1)
            (try rw [show 0 * 5 = 0 from rfl] at hx124_1)
            (try rw [Addr.add_zero'] at hx124_1)
            (try rw [show ((0 : Int)).toNat = 0 from rfl] at hx124_2)
            (try rw [show 0 * 5 = 0 from rfl] at hx124_2)
            (try rw [Addr.add_zero'] at hx124_2)
            (try rw [show ((0 : Int)).toNat = 0 from rfl] at hx124_3)
            (try rw [show 0 * 5 = 0 from rfl] at hx124_3)
            (try rw [Addr.add_zero'] at hx124_3)
            (try rw [show ((0 : Int)).toNat = 0 from rfl] at hx124_4)
            (try rw [show 0 * 5 = 0 from rfl] at hx124_4)
            (try rw [Addr.add_zero'] at hx124_4)
            have HR124_2 := Az.mk hi124_2
            have HC124_2 := Az.mk hl124_2
            clear hi124_2 hl124_2
            replace p124 := eq_true p124
            replace q124 := eq_true q124
            have ea_ := Option.some.inj (hx121_2.symm.trans hx124_2)
            injection ea_ with ea_ en_ ec_
            subst ea_
            subst ec_
            clear en_
            have p125 : 0 ≤ (1 : Int) := (by omega)
            have q125 : 1 < (((rd_T33 t101 0).f2).length : Int) := of_decide_eq_true (by assumption)
            obtain ⟨ad125, e125, hx125_0, hx125_1⟩ := at_T38 (by repeat (first | (with_reducible exact HR124_2.out) | (with_reducible refine Kd.C_alloc ?_ _) | (with_reducible refine Kd.C_drewN ?_ _) | (with_reducible refine Kd.C_drew ?_) | exact HR124_2.out)) 1 p125 q125
            cases e125
            (try simp only [show (1 : Int).toNat = 1 from rfl, Nat.reduceMul, Nat.reduceEqDiff, Go.Addr.add, ↓reduceIte] at hx125_0)
            (try simp only [show (1 : Int).toNat = 1 from rfl, Nat.reduceMul, Nat.reduceEqDiff, Go.Addr.add, ↓reduceIte] at hx125_1)
            have qi125 : (1 < ((rd_T33 t101 0).f2).length) = True := eq_true (by omega)
            (try rw [show ((1 : Int)).toNat = 1 from rfl] at hx125_0)
            (try rw [show 1 * 2 = 2 from rfl] at hx125_0)
            (try rw [show ((1 : Int)).toNat = 1 from rfl] at hx125_1)
            (try rw [show 1 * 2 = 2 from rfl] at hx125_1)
            replace p125 := eq_true p125
            replace q125 := eq_true q125
            have p126 : 0 ≤ (1 : Int) := (by omega)
            have q126 : 1 < (t101.length : Int) := of_decide_eq_true (by assumption)
            obtain ⟨ad126, A126_2, c126_2, e126, hx126_0, hx126_1, hx126_2, hx126_3, hx126_4, hl126_2, hi126_2⟩ := at_T33 (Kd.S_reads' HO105.out).2.2 1 p126 q126
            obtain rfl : ad121 = ad126 := (by injection e126)
            obtain ⟨ce126, hce126, hMe126, hcc126⟩ := Kd.S_get HO105.out z33 1 p126 (by first | exact q126 | exact of_decide_eq_true (by assumption) | (have e_ := (Kd.S_reads' HO105.out).1; omega))
            obtain ⟨ve126_2, rfl, ge126_2⟩ := k33_openM hMe126
            have hv126_2 := hcc126 2 _ rfl
            rw [add_field _ _ 2 (by omega)] at hv126_2
            replace hv126_2 := Option.some.inj (hv126_2.symm.trans hx126_2)
            rw [hv126_2] at ge126_2
            have HL126_2 := Az.mk (show Kd.R k38 38 _ _ _ _ ((rd_T33 t101 1).f2) from ge126_2)
            clear hv126_2 ge126_2
            clear hcc126 hce126
            (try simp only [show (1 : Int).toNat = 1 from rfl, Nat.reduceMul, Nat.reduceEqDiff, Go.Addr.add, ↓reduceIte] at hx126_0)
            (try simp only [show (1 : Int).toNat = 1 from rfl, Nat.reduceMul, Nat.reduceEqDiff, Go.Addr.add, ↓reduceIte] at hx126_1)
            (try simp only [show (1 : Int).toNat = 1 from rfl, Nat.reduceMul, Nat.reduceEqDiff, Go.Addr.add, ↓reduceIte] at hx126_2)
            (try simp only [show (1 : Int).toNat = 1 from rfl, Nat.reduceMul, Nat.reduceEqDiff, Go.Addr.add, ↓reduceIte] at hx126_3)
            (try simp only [show (1 : Int).toNat = 1 from rfl, Nat.reduceMul, Nat.reduceEqDiff, Go.Addr.add, ↓reduceIte] at hx126_4)
            have qi126 : (1 < t101.length) = True := eq_true (by omega)
            (try rw [show ((1 : Int)).toNat = 1 from rfl] at hx126_0)
            (try rw [show 1 * 5 = 5 from rfl] at hx126_0)
            (try rw [show ((1 : Int)).toNat = 1 from rfl] at hx126_1)
            (try rw [show 1 * 5 = 5 from rfl] at hx126_1)
            (try rw [show ((1 : Int)).toNat = 1 from rfl] at hx126_2)
            (try rw [show 1 * 5 = 5 from rfl] at hx126_2)
            (try rw [show ((1 : Int)).toNat = 1 from rfl] at hx126_3)
            (try rw [show 1 * 5 = 5 from rfl] at hx126_3)
            (try rw [show ((1 : Int)).toNat = 1 from rfl] at hx126_4)
            (try rw [show 1 * 5 = 5 from rfl] at hx126_4)
            have HR126_2 := Az.mk hi126_2
            have HC126_2 := Az.mk hl126_2
            clear hi126_2 hl126_2
            replace p126 := eq_true p126
            replace q126 := eq_true q126
            have p127 : 0 ≤ (1 : Int) := (by omega)
            have q127 : 1 < (t101.length : Int) := of_decide_eq_true (by assumption)
            obtain ⟨ad127, A127_2, c127_2, e127, hx127_0, hx127_1, hx127_2, hx127_3, hx127_4, hl127_2, hi127_2⟩ := at_T33 (Kd.S_reads' HO105.out).2.2 1 p127 q127
            obtain rfl : ad121 = ad127 := (by injection e127)
            obtain ⟨ce127, hce127, hMe127, hcc127⟩ := Kd.S_get HO105.out z33 1 p127 (by first | exact q127 | exact of_decide_eq_true (by assumption) | (have e_ := (Kd.S_reads' HO105.out).1; omega))
            obtain ⟨ve127_2, rfl, ge127_2⟩ := k33_openM hMe127
            have hv127_2 := hcc127 2 _ rfl
            rw [add_field _ _ 2 (by omega)] at hv127_2
            replace hv127_2 := Option.some.inj (hv127_2.symm.trans hx127_2)
            rw [hv127_2] at ge127_2
            have HL127_2 := Az.mk (show Kd.R k38 38 _ _ _ _ ((rd_T33 t101 1).f2) from ge127_2)
            clear hv127_2 ge127_2
            clear hcc127 hce127
            (try simp only [show (1 : Int).toNat = 1 from rfl, Nat.reduceMul, Nat.reduceEqDiff, Go.Addr.add, ↓reduceIte] at hx127_0)
            (try simp only [show (1 : Int).toNat = 1 from rfl, Nat.reduceMul, Nat.reduceEqDiff, Go.Addr.add, ↓reduceIte] at hx127_1)
            (try simp only [show (1 : Int).toNat = 1 from rfl, Nat.reduceMul, Nat.reduceEqDiff, Go.Addr.add, ↓reduceIte] at hx127_2)
            (try simp only [show (1 : Int).toNat = 1 from rfl, Nat.reduceMul, Nat.reduceEqDiff, Go.Addr.add, ↓reduceIte] at hx127_3)
            (try simp only [show (1 : Int).toNat = 1 from rfl, Nat.reduceMul, Nat.reduceEqDiff, Go.Addr.add, ↓reduceIte] at hx127_4)
            have qi127 : (1 < t101.length) = True := eq_true (by omega)
            (try rw [show ((1 : Int)).toNat = 1 from rfl] at hx127_0)
            (try rw [show 1 * 5 = 5 from rfl] at hx127_0)
            (try rw [show ((1 : Int)).toNat = 1 from rfl] at hx127_1)
            (try rw [show 1 * 5 = 5 from rfl] at hx127_1)
            (try rw [show ((1 : Int)).toNat = 1 from rfl] at hx127_2)
            (try rw [show 1 * 5 = 5 from rfl] at hx127_2)
            (try rw [show ((1 : Int)).toNat = 1 from rfl] at hx127_3)
            (try rw [show 1 * 5 = 5 from rfl] at hx127_3)
            (try rw [show ((1 : Int)).toNat = 1 from rfl] at hx127_4)
            (try rw [show 1 * 5 = 5 from rfl] at hx127_4)
            have HR127_2 := Az.mk hi127_2
            have HC127_2 := Az.mk hl127_2
            clear hi127_2 hl127_2
            replace p127 := eq_true p127
            replace q127 := eq_true q127
            have ea_ := Option.some.inj (hx126_2.symm.trans hx127_2)
            injection ea_ with ea_ en_ ec_
            subst ea_
            subst ec_
            clear en_
            go_wp2
            go_meet
            case rel => exact ⟨_, ((((rd_T33 t101 1).f4) != 19)), (by first | rfl | (simp; done) | (simp [*]; done)), H', ⟨by first | omega | exact Nat.le_refl _⟩, ⟨by (with_reducible repeat (first | apply Kd.S_alloc | apply Kd.S_drewN | apply Kd.S_drew)); exact Kd.S_mono HO110.out (fun _ hk => trivial)⟩, ⟨tw HB.out⟩⟩
           ·rw [if_neg c20] at H
            have c20b0 : (((rd_T33 t101 1).f3).toList == ([98] : List UInt8)) = false := beq_eq_false_iff_ne.mpr c20
            have c20b1 : (((rd_T33 t101 1).f3).toList != ([98] : List UInt8)) = true := bne_iff_ne.mpr c20
            exact absurd HRT.out (w4_works.j0t _ _ H)
          ·rw [if_neg c19] at H
           exact absurd H (by simp)
        ·rw [if_neg c16] at H
         exact absurd H (by simp)
       ·rw [if_neg c15] at H
        have c15b0 : ((((rd_T33 t101 0).f2).length : Int) == 2) = false := beq_eq_false_iff_ne.mpr c15
        have c15b1 : ((((rd_T33 t101 0).f2).length : Int) != 2) = true := bne_iff_ne.mpr c15
        exact absurd HRT.out (w4_works.j0t _ _ H)
      ·rw [if_neg c14] at H
       have c14b0 : (((rd_T33 t101 0).f1).toList == ([97] : List UInt8)) = false := beq_eq_false_iff_ne.mpr c14
       have c14b1 : (((rd_T33 t101 0).f1).toList != ([97] : List UInt8)) = true := bne_iff_ne.mpr c14
       exact absurd HRT.out (w4_works.j0t _ _ H)
     ·rw [if_neg c13] at H
      have c13b0 : (((rd_T33 t101 0).f0) == 3) = false := beq_eq_false_iff_ne.mpr c13
      have c13b1 : (((rd_T33 t101 0).f0) != 3) = true := bne_iff_ne.mpr c13
      exact absurd HRT.out (w4_works.j0t _ _ H)
    ·rw [if_neg c12] at H
     exact absurd H (by simp)
   ·rw [if_neg c11] at H
    have c11b0 : ((t101.length : Int) == 2) = false := beq_eq_false_iff_ne.mpr c11
    have c11b1 : ((t101.length : Int) != 2) = true := bne_iff_ne.mpr c11
    exact absurd HRT.out (w4_works.j0t _ _ H)
  ·rw [if_neg c10] at H
   have c10b0 : (t103 == 0) = false := beq_eq_false_iff_ne.mpr c10
   have c10b1 : (t103 != 0) = true := bne_iff_ne.mpr c10
   (first | rw [c10b0] | (simp only [i64_w, i32_w]; rw [c10b0]) | skip)
   exact absurd HRT.out (w4_works.j0t _ _ H)
 case rest =>
  clear HC5
  try clear c1
  try clear p1
  try clear q1
  try clear hx1
  try clear qi1
  try clear c2
  try clear p2
  try clear c10
  try clear c10b0
  try clear c10b1
  try clear c11
  try clear c11b0
  try clear c11b1
  try clear c12
  try clear p12
  try clear q12
  try clear hx12
  try clear qi12
  try clear c13
  try clear c13b0
  try clear c13b1
  try clear c14
  try clear c14b0
  try clear c14b1
  try clear c15
  try clear c15b0
  try clear c15b1
  try clear c16
  try clear c19
  try clear c20
  try clear c20b0
  try clear c20b1
  try clear hx121_0
  try clear hx121_1
  try clear hx121_2
  try clear hx121_3
  try clear hx121_4
  try clear hx122_0
  try clear hx122_1
  try clear hx122_2
  try clear hx122_3
  try clear hx122_4
  try clear hx123_0
  try clear hx123_1
  try clear hx123_2
  try clear hx123_3
  try clear hx123_4
  try clear hx124_0
  try clear hx124_1
  try clear hx124_2
  try clear hx124_3
  try clear hx124_4
  try clear hx125_0
  try clear hx125_1
  try clear hx126_0
  try clear hx126_1
  try clear hx126_2
  try clear hx126_3
  try clear hx126_4
  try clear hx127_0
  try clear hx127_1
  try clear hx127_2
  try clear hx127_3
  try clear hx127_4
  try clear p121
  try clear p122
  try clear p123
  try clear p124
  try clear p125
  try clear p126
  try clear p127
  try clear q121
  try clear q122
  try clear q123
  try clear q124
  try clear q125
  try clear q126
  try clear q127
  obtain ⟨kq, x85_4, rfl, HA, HJ4, HO_4, HB⟩ := hcut
  cases kq with
  | zero => exact absurd HA.out (by simp [w4_works.j0])
  | succ kj4 =>
   have H := HA.out
   clear HA
   simp only [w4_works.j0] at H
   by_cases c27 : x85_4 = true
   ·subst c27
    have H1 : (some false) = some r := by rw [if_pos rfl] at H; exact H
    exact absurd HRT.out (by rw [← Option.some.inj H1]; decide)
   ·replace c27 := Bool.eq_false_iff.mpr c27
    subst c27
    have H1 : (if t108 = 0 then (if (t106.length : Int) = 3 then (if 0 < (t106.length : Int) then (if ((rd_T33 t106 0).f4) = 7 then (if 1 < (t106.length : Int) then (if ((rd_T33 t106 1).f3).toList = ([116] : List UInt8) then (if 2 < (t106.length : Int) then (if ((rd_T33 t106 2).f0) = 2 then (if ((rd_T33 t106 2).f4) = 21 then (if t112 = 1 then (if t113 = 40 then (if t117 = 1 then (if t118 = 30 then ((X.token_Blank.f (⟨#[32, 10]⟩ : ByteArray)).bind fun t132 => (if t132 = true then ((X.token_Blank.f (⟨#[97]⟩ : ByteArray)).bind fun t133 => (some (!t133))) else (some false))) else (some false)) else (some false)) else (some false)) else (some false)) else (some false)) else (some false)) else (none)) else (some false)) else (none)) else (some false)) else (none)) else (some false)) else (some false)) = some r := by rw [if_neg (show ¬ (false = true) by decide)] at H; exact H
    clear H
    have H := H1
    clear H1
    by_cases c28 : t108 = 0
    ·rw [if_pos c28] at H
     have c28b0 : (t108 == 0) = true := beq_iff_eq.mpr c28
     have c28b1 : (t108 != 0) = false := bne_eq_false_iff_eq.mpr c28
     clear c28
     by_cases c29 : (t106.length : Int) = 3
     ·rw [if_pos c29] at H
      have c29b0 : ((t106.length : Int) == 3) = true := beq_iff_eq.mpr c29
      have c29b1 : ((t106.length : Int) != 3) = false := bne_eq_false_iff_eq.mpr c29
      clear c29
      by_cases c30 : 0 < (t106.length : Int)
      ·rw [if_pos c30] at H
       have c30b0 : decide (0 < (t106.length : Int)) = true := decide_eq_true c30
       have c30b1 : decide (0 < t106.length) = true := decide_eq_true (by omega)
       clear c30
       by_cases c31 : ((rd_T33 t106 0).f4) = 7
       ·rw [if_pos c31] at H
        have c31b0 : (((rd_T33 t106 0).f4) == 7) = true := beq_iff_eq.mpr c31
        have c31b1 : (((rd_T33 t106 0).f4) != 7) = false := bne_eq_false_iff_eq.mpr c31
        clear c31
        by_cases c32 : 1 < (t106.length : Int)
        ·rw [if_pos c32] at H
         have c32b0 : decide (1 < (t106.length : Int)) = true := decide_eq_true c32
         have c32b1 : decide (1 < t106.length) = true := decide_eq_true (by omega)
         clear c32
         by_cases c33 : ((rd_T33 t106 1).f3).toList = ([116] : List UInt8)
         ·rw [if_pos c33] at H
          have c33b0 : (((rd_T33 t106 1).f3).toList == ([116] : List UInt8)) = true := beq_iff_eq.mpr c33
          have c33b1 : (((rd_T33 t106 1).f3).toList != ([116] : List UInt8)) = false := bne_eq_false_iff_eq.mpr c33
          clear c33
          by_cases c34 : 2 < (t106.length : Int)
          ·rw [if_pos c34] at H
           have c34b0 : decide (2 < (t106.length : Int)) = true := decide_eq_true c34
           have c34b1 : decide (2 < t106.length) = true := decide_eq_true (by omega)
           clear c34
           by_cases c35 : ((rd_T33 t106 2).f0) = 2
           ·rw [if_pos c35] at H
            have c35b0 : (((rd_T33 t106 2).f0) == 2) = true := beq_iff_eq.mpr c35
            have c35b1 : (((rd_T33 t106 2).f0) != 2) = false := bne_eq_false_iff_eq.mpr c35
            clear c35
            by_cases c36 : ((rd_T33 t106 2).f4) = 21
            ·rw [if_pos c36] at H
             have c36b0 : (((rd_T33 t106 2).f4) == 21) = true := beq_iff_eq.mpr c36
             have c36b1 : (((rd_T33 t106 2).f4) != 21) = false := bne_eq_false_iff_eq.mpr c36
             clear c36
             by_cases c37 : t112 = 1
             ·rw [if_pos c37] at H
              have c37b0 : (t112 == 1) = true := beq_iff_eq.mpr c37
              have c37b1 : (t112 != 1) = false := bne_eq_false_iff_eq.mpr c37
              clear c37
              by_cases c38 : t113 = 40
              ·rw [if_pos c38] at H
               have c38b0 : (t113 == 40) = true := beq_iff_eq.mpr c38
               have c38b1 : (t113 != 40) = false := bne_eq_false_iff_eq.mpr c38
               clear c38
               by_cases c39 : t117 = 1
               ·rw [if_pos c39] at H
                have c39b0 : (t117 == 1) = true := beq_iff_eq.mpr c39
                have c39b1 : (t117 != 1) = false := bne_eq_false_iff_eq.mpr c39
                clear c39
                by_cases c40 : t118 = 30
                ·rw [if_pos c40] at H
                 have c40b0 : (t118 == 30) = true := beq_iff_eq.mpr c40
                 have c40b1 : (t118 != 30) = false := bne_eq_false_iff_eq.mpr c40
                 clear c40
                 replace H := Option.bind_eq_some_iff.mp H
                 obtain ⟨t132, A410, H⟩ := H
                 replace H : (if t132 = true then ((X.token_Blank.f (⟨#[97]⟩ : ByteArray)).bind fun t133 => (some (!t133))) else (some false)) = some r := H
                 have A41 := Az.mk A410
                 clear A410
                 by_cases c42 : t132 = true
                 ·subst c42
                  have H1 : ((X.token_Blank.f (⟨#[97]⟩ : ByteArray)).bind fun t133 => (some (!t133))) = some r := by rw [if_pos rfl] at H; exact H
                  clear H
                  have H := H1
                  clear H1
                  replace H := Option.bind_eq_some_iff.mp H
                  obtain ⟨t133, A430, H⟩ := H
                  replace H : (some (!t133)) = some r := H
                  have A43 := Az.mk A430
                  clear A430
                  obtain rfl := Option.some.inj H
                  obtain ⟨Ao44, co44, eo44⟩ := Kd.S_slice HO_4.out
                  subst eo44
                  have p128 : 0 ≤ (0 : Int) := (by omega)
                  have q128 : 0 < (t106.length : Int) := of_decide_eq_true (by assumption)
                  obtain ⟨ad128, A128_2, c128_2, e128, hx128_0, hx128_1, hx128_2, hx128_3, hx128_4, hl128_2, hi128_2⟩ := at_T33 (Kd.S_reads' HO_4.out).2.2 0 p128 q128
                  cases e128
                  obtain ⟨ce128, hce128, hMe128, hcc128⟩ := Kd.S_get HO_4.out z33 0 p128 (by first | exact q128 | exact of_decide_eq_true (by assumption) | (have e_ := (Kd.S_reads' HO_4.out).1; omega))
                  obtain ⟨ve128_2, rfl, ge128_2⟩ := k33_openM hMe128
                  have hv128_2 := hcc128 2 _ rfl
                  rw [add_field _ _ 2 (by omega)] at hv128_2
                  replace hv128_2 := Option.some.inj (hv128_2.symm.trans hx128_2)
                  rw [hv128_2] at ge128_2
                  have HL128_2 := Az.mk (show Kd.R k38 38 _ _ _ _ ((rd_T33 t106 0).f2) from ge128_2)
                  clear hv128_2 ge128_2
                  clear hcc128 hce128
                  have qi128 : (0 < t106.length) = True := eq_true (by omega)
                  (try rw [show ((0 : Int)).toNat = 0 from rfl] at hx128_0)
                  (try rw [show 0 * 5 = 0 from rfl] at hx128_0)
                  (try rw [Addr.add_zero'] at hx128_0)
                  (try rw [show ((0 : Int)).toNat = 0 from rfl] at hx128_1)
                  (try rw [show 0 * 5 = 0 from rfl] at hx128_1)
                  (try rw [Addr.add_zero'] at hx128_1)
                  (try rw [show ((0 : Int)).toNat = 0 from rfl] at hx128_2)
                  (try rw [show 0 * 5 = 0 from rfl] at hx128_2)
                  (try rw [Addr.add_zero'] at hx128_2)
                  (try rw [show ((0 : Int)).toNat = 0 from rfl] at hx128_3)
                  (try rw [show 0 * 5 = 0 from rfl] at hx128_3)
                  (try rw [Addr.add_zero'] at hx128_3)
                  (try rw [show ((0 : Int)).toNat = 0 from rfl] at hx128_4)
                  (try rw [show 0 * 5 = 0 from rfl] at hx128_4)
                  (try rw [Addr.add_zero'] at hx128_4)
                  have HR128_2 := Az.mk hi128_2
                  have HC128_2 := Az.mk hl128_2
                  clear hi128_2 hl128_2
                  replace p128 := eq_true p128
                  replace q128 := eq_true q128
                  have p129 : 0 ≤ (1 : Int) := (by omega)
                  have q129 : 1 < (t106.length : Int) := of_decide_eq_true (by assumption)
                  obtain ⟨ad129, A129_2, c129_2, e129, hx129_0, hx129_1, hx129_2, hx129_3, hx129_4, hl129_2, hi129_2⟩ := at_T33 (Kd.S_reads' HO_4.out).2.2 1 p129 q129
                  obtain rfl : ad128 = ad129 := (by injection e129)
                  obtain ⟨ce129, hce129, hMe129, hcc129⟩ := Kd.S_get HO_4.out z33 1 p129 (by first | exact q129 | exact of_decide_eq_true (by assumption) | (have e_ := (Kd.S_reads' HO_4.out).1; omega))
                  obtain ⟨ve129_2, rfl, ge129_2⟩ := k33_openM hMe129
                  have hv129_2 := hcc129 2 _ rfl
                  rw [add_field _ _ 2 (by omega)] at hv129_2
                  replace hv129_2 := Option.some.inj (hv129_2.symm.trans hx129_2)
                  rw [hv129_2] at ge129_2
                  have HL129_2 := Az.mk (show Kd.R k38 38 _ _ _ _ ((rd_T33 t106 1).f2) from ge129_2)
                  clear hv129_2 ge129_2
                  clear hcc129 hce129
                  (try simp only [show (1 : Int).toNat = 1 from rfl, Nat.reduceMul, Nat.reduceEqDiff, Go.Addr.add, ↓reduceIte] at hx129_0)
                  (try simp only [show (1 : Int).toNat = 1 from rfl, Nat.reduceMul, Nat.reduceEqDiff, Go.Addr.add, ↓reduceIte] at hx129_1)
                  (try simp only [show (1 : Int).toNat = 1 from rfl, Nat.reduceMul, Nat.reduceEqDiff, Go.Addr.add, ↓reduceIte] at hx129_2)
                  (try simp only [show (1 : Int).toNat = 1 from rfl, Nat.reduceMul, Nat.reduceEqDiff, Go.Addr.add, ↓reduceIte] at hx129_3)
                  (try simp only [show (1 : Int).toNat = 1 from rfl, Nat.reduceMul, Nat.reduceEqDiff, Go.Addr.add, ↓reduceIte] at hx129_4)
                  have qi129 : (1 < t106.length) = True := eq_true (by omega)
                  (try rw [show ((1 : Int)).toNat = 1 from rfl] at hx129_0)
                  (try rw [show 1 * 5 = 5 from rfl] at hx129_0)
                  (try rw [show ((1 : Int)).toNat = 1 from rfl] at hx129_1)
                  (try rw [show 1 * 5 = 5 from rfl] at hx129_1)
                  (try rw [show ((1 : Int)).toNat = 1 from rfl] at hx129_2)
                  (try rw [show 1 * 5 = 5 from rfl] at hx129_2)
                  (try rw [show ((1 : Int)).toNat = 1 from rfl] at hx129_3)
                  (try rw [show 1 * 5 = 5 from rfl] at hx129_3)
                  (try rw [show ((1 : Int)).toNat = 1 from rfl] at hx129_4)
                  (try rw [show 1 * 5 = 5 from rfl] at hx129_4)
                  have HR129_2 := Az.mk hi129_2
                  have HC129_2 := Az.mk hl129_2
                  clear hi129_2 hl129_2
                  replace p129 := eq_true p129
                  replace q129 := eq_true q129
                  have p130 : 0 ≤ (2 : Int) := (by omega)
                  have q130 : 2 < (t106.length : Int) := of_decide_eq_true (by assumption)
                  obtain ⟨ad130, A130_2, c130_2, e130, hx130_0, hx130_1, hx130_2, hx130_3, hx130_4, hl130_2, hi130_2⟩ := at_T33 (Kd.S_reads' HO_4.out).2.2 2 p130 q130
                  obtain rfl : ad128 = ad130 := (by injection e130)
                  obtain ⟨ce130, hce130, hMe130, hcc130⟩ := Kd.S_get HO_4.out z33 2 p130 (by first | exact q130 | exact of_decide_eq_true (by assumption) | (have e_ := (Kd.S_reads' HO_4.out).1; omega))
                  obtain ⟨ve130_2, rfl, ge130_2⟩ := k33_openM hMe130
                  have hv130_2 := hcc130 2 _ rfl
                  rw [add_field _ _ 2 (by omega)] at hv130_2
                  replace hv130_2 := Option.some.inj (hv130_2.symm.trans hx130_2)
                  rw [hv130_2] at ge130_2
                  have HL130_2 := Az.mk (show Kd.R k38 38 _ _ _ _ ((rd_T33 t106 2).f2) from ge130_2)
                  clear hv130_2 ge130_2
                  clear hcc130 hce130
                  (try simp only [show (2 : Int).toNat = 2 from rfl, Nat.reduceMul, Nat.reduceEqDiff, Go.Addr.add, ↓reduceIte] at hx130_0)
                  (try simp only [show (2 : Int).toNat = 2 from rfl, Nat.reduceMul, Nat.reduceEqDiff, Go.Addr.add, ↓reduceIte] at hx130_1)
                  (try simp only [show (2 : Int).toNat = 2 from rfl, Nat.reduceMul, Nat.reduceEqDiff, Go.Addr.add, ↓reduceIte] at hx130_2)
                  (try simp only [show (2 : Int).toNat = 2 from rfl, Nat.reduceMul, Nat.reduceEqDiff, Go.Addr.add, ↓reduceIte] at hx130_3)
                  (try simp only [show (2 : Int).toNat = 2 from rfl, Nat.reduceMul, Nat.reduceEqDiff, Go.Addr.add, ↓reduceIte] at hx130_4)
                  have qi130 : (2 < t106.length) = True := eq_true (by omega)
                  (try rw [show ((2 : Int)).toNat = 2 from rfl] at hx130_0)
                  (try rw [show 2 * 5 = 10 from rfl] at hx130_0)
                  (try rw [show ((2 : Int)).toNat = 2 from rfl] at hx130_1)
                  (try rw [show 2 * 5 = 10 from rfl] at hx130_1)
                  (try rw [show ((2 : Int)).toNat = 2 from rfl] at hx130_2)
                  (try rw [show 2 * 5 = 10 from rfl] at hx130_2)
                  (try rw [show ((2 : Int)).toNat = 2 from rfl] at hx130_3)
                  (try rw [show 2 * 5 = 10 from rfl] at hx130_3)
                  (try rw [show ((2 : Int)).toNat = 2 from rfl] at hx130_4)
                  (try rw [show 2 * 5 = 10 from rfl] at hx130_4)
                  have HR130_2 := Az.mk hi130_2
                  have HC130_2 := Az.mk hl130_2
                  clear hi130_2 hl130_2
                  replace p130 := eq_true p130
                  replace q130 := eq_true q130
                  have p131 : 0 ≤ (2 : Int) := (by omega)
                  have q131 : 2 < (t106.length : Int) := of_decide_eq_true (by assumption)
                  obtain ⟨ad131, A131_2, c131_2, e131, hx131_0, hx131_1, hx131_2, hx131_3, hx131_4, hl131_2, hi131_2⟩ := at_T33 (Kd.S_reads' HO_4.out).2.2 2 p131 q131
                  obtain rfl : ad128 = ad131 := (by injection e131)
                  obtain ⟨ce131, hce131, hMe131, hcc131⟩ := Kd.S_get HO_4.out z33 2 p131 (by first | exact q131 | exact of_decide_eq_true (by assumption) | (have e_ := (Kd.S_reads' HO_4.out).1; omega))
                  obtain ⟨ve131_2, rfl, ge131_2⟩ := k33_openM hMe131
                  have hv131_2 := hcc131 2 _ rfl
                  rw [add_field _ _ 2 (by omega)] at hv131_2
                  replace hv131_2 := Option.some.inj (hv131_2.symm.trans hx131_2)
                  rw [hv131_2] at ge131_2
                  have HL131_2 := Az.mk (show Kd.R k38 38 _ _ _ _ ((rd_T33 t106 2).f2) from ge131_2)
                  clear hv131_2 ge131_2
                  clear hcc131 hce131
                  (try simp only [show (2 : Int).toNat = 2 from rfl, Nat.reduceMul, Nat.reduceEqDiff, Go.Addr.add, ↓reduceIte] at hx131_0)
                  (try simp only [show (2 : Int).toNat = 2 from rfl, Nat.reduceMul, Nat.reduceEqDiff, Go.Addr.add, ↓reduceIte] at hx131_1)
                  (try simp only [show (2 : Int).toNat = 2 from rfl, Nat.reduceMul, Nat.reduceEqDiff, Go.Addr.add, ↓reduceIte] at hx131_2)
                  (try simp only [show (2 : Int).toNat = 2 from rfl, Nat.reduceMul, Nat.reduceEqDiff, Go.Addr.add, ↓reduceIte] at hx131_3)
                  (try simp only [show (2 : Int).toNat = 2 from rfl, Nat.reduceMul, Nat.reduceEqDiff, Go.Addr.add, ↓reduceIte] at hx131_4)
                  have qi131 : (2 < t106.length) = True := eq_true (by omega)
                  (try rw [show ((2 : Int)).toNat = 2 from rfl] at hx131_0)
                  (try rw [show 2 * 5 = 10 from rfl] at hx131_0)
                  (try rw [show ((2 : Int)).toNat = 2 from rfl] at hx131_1)
                  (try rw [show 2 * 5 = 10 from rfl] at hx131_1)
                  (try rw [show ((2 : Int)).toNat = 2 from rfl] at hx131_2)
                  (try rw [show 2 * 5 = 10 from rfl] at hx131_2)
                  (try rw [show ((2 : Int)).toNat = 2 from rfl] at hx131_3)
                  (try rw [show 2 * 5 = 10 from rfl] at hx131_3)
                  (try rw [show ((2 : Int)).toNat = 2 from rfl] at hx131_4)
                  (try rw [show 2 * 5 = 10 from rfl] at hx131_4)
                  have HR131_2 := Az.mk hi131_2
                  have HC131_2 := Az.mk hl131_2
                  clear hi131_2 hl131_2
                  replace p131 := eq_true p131
                  replace q131 := eq_true q131
                  have ea_ := Option.some.inj (hx130_2.symm.trans hx131_2)
                  injection ea_ with ea_ en_ ec_
                  subst ea_
                  subst ec_
                  clear en_
                  go_wp2_with (first | (go_at_call 11; (with_reducible refine (X.token_Blank.calls (⟨#[32, 10]⟩ : ByteArray) true _ A41.out).mono ?_); rintro e w45 ⟨rfl, hb⟩; have n0_ := Az.mk (Kd.S_below (tws HO_4.out) hb); have n1_ := Az.mk (Kd.R_below (twr HL128_2.out) hb); have n2_ := Az.mk (Kd.R_below (twr HL129_2.out) hb); have n3_ := Az.mk (Kd.R_below (twr HL130_2.out) hb); have n4_ := Az.mk (Kd.R_below (twr HL131_2.out) hb); have n5_ := Az.mk (Kd.C_below (by repeat (first | (with_reducible exact HR128_2.out) | (with_reducible refine Kd.C_alloc ?_ _) | (with_reducible refine Kd.C_drewN ?_ _) | (with_reducible refine Kd.C_drew ?_) | exact HR128_2.out)) hb); have n6_ := Az.mk (Kd.C_below (by repeat (first | (with_reducible exact HR129_2.out) | (with_reducible refine Kd.C_alloc ?_ _) | (with_reducible refine Kd.C_drewN ?_ _) | (with_reducible refine Kd.C_drew ?_) | exact HR129_2.out)) hb); have n7_ := Az.mk (Kd.C_below (by repeat (first | (with_reducible exact HR130_2.out) | (with_reducible refine Kd.C_alloc ?_ _) | (with_reducible refine Kd.C_drewN ?_ _) | (with_reducible refine Kd.C_drew ?_) | exact HR130_2.out)) hb); have n8_ := Az.mk (Kd.C_below (by repeat (first | (with_reducible exact HR131_2.out) | (with_reducible refine Kd.C_alloc ?_ _) | (with_reducible refine Kd.C_drewN ?_ _) | (with_reducible refine Kd.C_drew ?_) | exact HR131_2.out)) hb); have n9_ := Az.mk (below_step (tw HB.out) hb); clear HO_4; clear HL128_2; clear HL129_2; clear HL130_2; clear HL131_2; clear HR128_2; clear HR129_2; clear HR130_2; clear HR131_2; clear HB; have HO_4 := n0_; have HL128_2 := n1_; have HL129_2 := n2_; have HL130_2 := n3_; have HL131_2 := n4_; have HR128_2 := n5_; have HR129_2 := n6_; have HR130_2 := n7_; have HR131_2 := n8_; have HB := n9_; clear n0_ n1_ n2_ n3_ n4_ n5_ n6_ n7_ n8_ n9_; (try clear hb); (try clear hb2); (try clear hk); (try clear hi)) | (go_at_call 11; (with_reducible refine (X.token_Blank.calls (⟨#[97]⟩ : ByteArray) t133 _ A43.out).mono ?_); rintro e w46 ⟨rfl, hb⟩; have n0_ := Az.mk (Kd.S_below (tws HO_4.out) hb); have n1_ := Az.mk (Kd.R_below (twr HL128_2.out) hb); have n2_ := Az.mk (Kd.R_below (twr HL129_2.out) hb); have n3_ := Az.mk (Kd.R_below (twr HL130_2.out) hb); have n4_ := Az.mk (Kd.R_below (twr HL131_2.out) hb); have n5_ := Az.mk (Kd.C_below (by repeat (first | (with_reducible exact HR128_2.out) | (with_reducible refine Kd.C_alloc ?_ _) | (with_reducible refine Kd.C_drewN ?_ _) | (with_reducible refine Kd.C_drew ?_) | exact HR128_2.out)) hb); have n6_ := Az.mk (Kd.C_below (by repeat (first | (with_reducible exact HR129_2.out) | (with_reducible refine Kd.C_alloc ?_ _) | (with_reducible refine Kd.C_drewN ?_ _) | (with_reducible refine Kd.C_drew ?_) | exact HR129_2.out)) hb); have n7_ := Az.mk (Kd.C_below (by repeat (first | (with_reducible exact HR130_2.out) | (with_reducible refine Kd.C_alloc ?_ _) | (with_reducible refine Kd.C_drewN ?_ _) | (with_reducible refine Kd.C_drew ?_) | exact HR130_2.out)) hb); have n8_ := Az.mk (Kd.C_below (by repeat (first | (with_reducible exact HR131_2.out) | (with_reducible refine Kd.C_alloc ?_ _) | (with_reducible refine Kd.C_drewN ?_ _) | (with_reducible refine Kd.C_drew ?_) | exact HR131_2.out)) hb); have n9_ := Az.mk (below_step (tw HB.out) hb); clear HO_4; clear HL128_2; clear HL129_2; clear HL130_2; clear HL131_2; clear HR128_2; clear HR129_2; clear HR130_2; clear HR131_2; clear HB; have HO_4 := n0_; have HL128_2 := n1_; have HL129_2 := n2_; have HL130_2 := n3_; have HL131_2 := n4_; have HR128_2 := n5_; have HR129_2 := n6_; have HR130_2 := n7_; have HR131_2 := n8_; have HB := n9_; clear n0_ n1_ n2_ n3_ n4_ n5_ n6_ n7_ n8_ n9_; (try clear hb); (try clear hb2); (try clear hk); (try clear hi)))
                  go_ret
                  exact ⟨by first | rfl | (simp [errW_none, errW_some] <;> rfl) | (simp [*, errW_none, errW_some] <;> rfl), tw HB.out⟩
                 ·replace c42 := Bool.eq_false_iff.mpr c42
                  subst c42
                  have H1 : (some false) = some r := by rw [if_neg (show ¬ (false = true) by decide)] at H; exact H
                  exact absurd HRT.out (by rw [← Option.some.inj H1]; decide)
                ·rw [if_neg c40] at H
                 have c40b0 : (t118 == 30) = false := beq_eq_false_iff_ne.mpr c40
                 have c40b1 : (t118 != 30) = true := bne_iff_ne.mpr c40
                 obtain rfl := Option.some.inj H
                 exact absurd HRT.out (by decide)
               ·rw [if_neg c39] at H
                have c39b0 : (t117 == 1) = false := beq_eq_false_iff_ne.mpr c39
                have c39b1 : (t117 != 1) = true := bne_iff_ne.mpr c39
                obtain rfl := Option.some.inj H
                exact absurd HRT.out (by decide)
              ·rw [if_neg c38] at H
               have c38b0 : (t113 == 40) = false := beq_eq_false_iff_ne.mpr c38
               have c38b1 : (t113 != 40) = true := bne_iff_ne.mpr c38
               obtain rfl := Option.some.inj H
               exact absurd HRT.out (by decide)
             ·rw [if_neg c37] at H
              have c37b0 : (t112 == 1) = false := beq_eq_false_iff_ne.mpr c37
              have c37b1 : (t112 != 1) = true := bne_iff_ne.mpr c37
              obtain rfl := Option.some.inj H
              exact absurd HRT.out (by decide)
            ·rw [if_neg c36] at H
             have c36b0 : (((rd_T33 t106 2).f4) == 21) = false := beq_eq_false_iff_ne.mpr c36
             have c36b1 : (((rd_T33 t106 2).f4) != 21) = true := bne_iff_ne.mpr c36
             obtain rfl := Option.some.inj H
             exact absurd HRT.out (by decide)
           ·rw [if_neg c35] at H
            have c35b0 : (((rd_T33 t106 2).f0) == 2) = false := beq_eq_false_iff_ne.mpr c35
            have c35b1 : (((rd_T33 t106 2).f0) != 2) = true := bne_iff_ne.mpr c35
            obtain rfl := Option.some.inj H
            exact absurd HRT.out (by decide)
          ·rw [if_neg c34] at H
           exact absurd H (by simp)
         ·rw [if_neg c33] at H
          have c33b0 : (((rd_T33 t106 1).f3).toList == ([116] : List UInt8)) = false := beq_eq_false_iff_ne.mpr c33
          have c33b1 : (((rd_T33 t106 1).f3).toList != ([116] : List UInt8)) = true := bne_iff_ne.mpr c33
          obtain rfl := Option.some.inj H
          exact absurd HRT.out (by decide)
        ·rw [if_neg c32] at H
         exact absurd H (by simp)
       ·rw [if_neg c31] at H
        have c31b0 : (((rd_T33 t106 0).f4) == 7) = false := beq_eq_false_iff_ne.mpr c31
        have c31b1 : (((rd_T33 t106 0).f4) != 7) = true := bne_iff_ne.mpr c31
        obtain rfl := Option.some.inj H
        exact absurd HRT.out (by decide)
      ·rw [if_neg c30] at H
       exact absurd H (by simp)
     ·rw [if_neg c29] at H
      have c29b0 : ((t106.length : Int) == 3) = false := beq_eq_false_iff_ne.mpr c29
      have c29b1 : ((t106.length : Int) != 3) = true := bne_iff_ne.mpr c29
      obtain rfl := Option.some.inj H
      exact absurd HRT.out (by decide)
    ·rw [if_neg c28] at H
     have c28b0 : (t108 == 0) = false := beq_eq_false_iff_ne.mpr c28
     have c28b1 : (t108 != 0) = true := bne_iff_ne.mpr c28
     obtain rfl := Option.some.inj H
     exact absurd HRT.out (by decide)
set_option maxRecDepth 100000 in
theorem w4_works.only (k : Nat) (r : Bool) (h : w4_works.f k = some r) : r = true := by
 obtain ⟨K, hK⟩ := (Ev.of (fun k => w4_works.mono k) (k := 2) (by decide +kernel) : Ev (fun k => w4_works.f k) true)
 obtain ⟨K2, hK2⟩ := (Ev.of (fun k => w4_works.mono k) h : Ev (fun k => w4_works.f k) r)
 exact Option.some.inj ((hK2 (max K K2) (Nat.le_max_right _ _)).symm.trans (hK (max K K2) (Nat.le_max_left _ _)))
theorem w4_works.calls (k : Nat)  (r : Bool) (w : World) (hG : Glob w) (h : w4_works.f k  = some r) :
  Calls Tryz.prog 7 #[] w fun e w' => e = .returned (.bool r) ∧ Below w.heap.size w w' :=
 w4_works.calls_t k r w hG ⟨w4_works.only k r h⟩ h
end Go.Proofs.YtpknhgejnfmijaaGreatDoor.PC
