/- Contracts of the functions that the statement reaches, each with the plain function that it computes, written by a program out of the translation: whatever Lean takes of it stands proved. -/
import Derived.Test.YtpldpnkjmdlcdaaDoorPU0
import Derived.Test.YtpldpnkjmdlcdaaDoorPU1
import Derived.Test.YtpldpnkjmdlcdaaDoorPU2
import Derived.Test.YtpldpnkjmdlcdaaDoorPU3
import Derived.Test.YtpldpnkjmdlcdaaDoorPU4
namespace Go.Proofs.YtpldpnkjmdlcdaaDoor.PU
open Go.RowKit Go.Proofs.YtpldpnkjmdlcdaaDoorW.PrintWords Go.Proofs.YtpldpnkjmdlcdaaDoorW.PrintLast Go.Proofs.YtpldpnkjmdlcdaaDoorW.PrintMore
attribute [local go_sem] max2_int min2_int max_two min_two max_three min_three max_four min_four   -- for this text's walks alone
set_option linter.unusedVariables false
set_option linter.unusedSimpArgs false

/-! ### hopscotchlaw01_UtfKnown: function 7 -/
mutual
def hopscotchlaw01_UtfKnown.l0 : Nat → Int → Option (Bool)
  | 0, _ => none
  | k + 1, x1 => if x1 < 256 then (hopscotchlaw01_UtfKnown.l1 k x1 0) else ((some (([(-2147483648), (-1), 0, 8, 9, 10, 11, 13, 14, 31, 32, 127, 128, 2047, 2048, 55295, 55296, 57343, 57344, 65533, 65534, 65535, 65536, 1114111, 1114112, 2147483647] : List Int) : List Int)).bind fun y202 => (hopscotchlaw01_UtfKnown.l2 k y202 (y202.length : Int) 0))
def hopscotchlaw01_UtfKnown.l1 : Nat → Int → Int → Option (Bool)
  | 0, _, _ => none
  | k + 1, x1, x2 => if x2 < 256 then ((hopscotchlaw01_UtfNext.f k (strOfNums (([(x1) % 256, (x2) % 256, 128, 191] : List Int)))).bind fun t201 => (if t201 = true then (hopscotchlaw01_UtfKnown.l1 k x1 (wrap64 ((wrap64 (x2 + 1)) + (Int.tmod x1 3)))) else (some false))) else (hopscotchlaw01_UtfKnown.l0 k (wrap64 (x1 + 1)))
def hopscotchlaw01_UtfKnown.l2 : Nat → List Int → Int → Int → Option (Bool)
  | 0, _, _, _ => none
  | k + 1, x24, x25, x26 => if x26 < x25 then (if 0 ≤ x26 then (if x26 < (x24.length : Int) then ((hopscotchlaw01_UtfPut.f k (rd x24 x26) (⟨#[128]⟩ : ByteArray)).bind fun t206 => (if t206 = true then ((hopscotchlaw01_UtfPut.f k (rd x24 x26) (⟨#[]⟩ : ByteArray)).bind fun t207 => (if t207 = true then ((Go.Proofs.YtpldpnkjmdlcdaaDoor.X.utf_Put.f (rd x24 x26)).bind fun t208 => (if t208.size + 1 ≤ 9223372036854775807 then ((Go.Proofs.YtpldpnkjmdlcdaaDoor.X.utf_Put.f (rd x24 x26)).bind fun t209 => ((hopscotchlaw01_UtfPieces.f k (t208 ++ (⟨#[97]⟩ : ByteArray)) t209).bind fun t210 => (if t210 = true then ((Go.Proofs.YtpldpnkjmdlcdaaDoor.X.utf_Put.f (rd x24 x26)).bind fun t211 => (if t211.size + 3 ≤ 9223372036854775807 then ((hopscotchlaw01_UtfValid.f k (t211 ++ (⟨#[237, 160, 128]⟩ : ByteArray))).bind fun t212 => (if t212 = true then (hopscotchlaw01_UtfKnown.l2 k x24 x25 (wrap64 (x26 + 1))) else (some false))) else (none))) else (some false)))) else (none))) else (some false))) else (some false))) else (none)) else (none)) else ((hopscotchlaw01_UtfValid.f k (⟨#[]⟩ : ByteArray)).bind fun t213 => (if t213 = true then ((hopscotchlaw01_UtfNext.f k (⟨#[]⟩ : ByteArray)).bind fun t214 => (if t214 = true then ((hopscotchlaw01_UtfPieces.f k (⟨#[240, 144, 128]⟩ : ByteArray) (⟨#[97]⟩ : ByteArray)).bind fun t215 => (if t215 = true then ((hopscotchlaw01_works.f).bind fun t216 => (some t216)) else (some false))) else (some false))) else (some false)))
end
def hopscotchlaw01_UtfKnown.f (k : Nat)  : Option (Bool) := hopscotchlaw01_UtfKnown.l0 k 0
theorem hopscotchlaw01_UtfKnown.mono_l : ∀ k, (∀ y0, LeO (hopscotchlaw01_UtfKnown.l0 k y0) (hopscotchlaw01_UtfKnown.l0 (k + 1) y0)) ∧ (∀ y0 y1, LeO (hopscotchlaw01_UtfKnown.l1 k y0 y1) (hopscotchlaw01_UtfKnown.l1 (k + 1) y0 y1)) ∧ (∀ y0 y1 y2, LeO (hopscotchlaw01_UtfKnown.l2 k y0 y1 y2) (hopscotchlaw01_UtfKnown.l2 (k + 1) y0 y1 y2))
  | 0 => ⟨fun _ r h => by simp [hopscotchlaw01_UtfKnown.l0] at h, fun _ _ r h => by simp [hopscotchlaw01_UtfKnown.l1] at h, fun _ _ _ r h => by simp [hopscotchlaw01_UtfKnown.l2] at h⟩
  | k + 1 => by
    obtain ⟨ih0, ih1, ih2⟩ := hopscotchlaw01_UtfKnown.mono_l k
    refine ⟨?_, ?_, ?_⟩
    · intro y0
      unfold hopscotchlaw01_UtfKnown.l0
      repeat' first
      | (with_reducible exact ih0 _)
      | (with_reducible exact ih1 _ _)
      | (with_reducible exact ih2 _ _ _)
      | (with_reducible exact hopscotchlaw01_UtfNext.mono _ _)
      | (with_reducible exact hopscotchlaw01_UtfPieces.mono _ _ _)
      | (with_reducible exact hopscotchlaw01_UtfPut.mono _ _ _)
      | (with_reducible exact hopscotchlaw01_UtfValid.mono _ _)
      | (with_reducible exact LeO.refl _)
      | (with_reducible exact LeO.none _)
      | (with_reducible refine LeO.ite ?_ ?_)
      | (with_reducible refine LeO.bind ?_ (fun _ => ?_))
      | exact ih0 _
      | exact ih1 _ _
      | exact ih2 _ _ _
      | exact hopscotchlaw01_UtfNext.mono _ _
      | exact hopscotchlaw01_UtfPieces.mono _ _ _
      | exact hopscotchlaw01_UtfPut.mono _ _ _
      | exact hopscotchlaw01_UtfValid.mono _ _
      | exact LeO.none _
      | refine LeO.ite ?_ ?_
      | refine LeO.bind ?_ (fun _ => ?_)
    · intro y0 y1
      unfold hopscotchlaw01_UtfKnown.l1
      repeat' first
      | (with_reducible exact ih0 _)
      | (with_reducible exact ih1 _ _)
      | (with_reducible exact ih2 _ _ _)
      | (with_reducible exact hopscotchlaw01_UtfNext.mono _ _)
      | (with_reducible exact hopscotchlaw01_UtfPieces.mono _ _ _)
      | (with_reducible exact hopscotchlaw01_UtfPut.mono _ _ _)
      | (with_reducible exact hopscotchlaw01_UtfValid.mono _ _)
      | (with_reducible exact LeO.refl _)
      | (with_reducible exact LeO.none _)
      | (with_reducible refine LeO.ite ?_ ?_)
      | (with_reducible refine LeO.bind ?_ (fun _ => ?_))
      | exact ih0 _
      | exact ih1 _ _
      | exact ih2 _ _ _
      | exact hopscotchlaw01_UtfNext.mono _ _
      | exact hopscotchlaw01_UtfPieces.mono _ _ _
      | exact hopscotchlaw01_UtfPut.mono _ _ _
      | exact hopscotchlaw01_UtfValid.mono _ _
      | exact LeO.none _
      | refine LeO.ite ?_ ?_
      | refine LeO.bind ?_ (fun _ => ?_)
    · intro y0 y1 y2
      unfold hopscotchlaw01_UtfKnown.l2
      repeat' first
      | (with_reducible exact ih0 _)
      | (with_reducible exact ih1 _ _)
      | (with_reducible exact ih2 _ _ _)
      | (with_reducible exact hopscotchlaw01_UtfNext.mono _ _)
      | (with_reducible exact hopscotchlaw01_UtfPieces.mono _ _ _)
      | (with_reducible exact hopscotchlaw01_UtfPut.mono _ _ _)
      | (with_reducible exact hopscotchlaw01_UtfValid.mono _ _)
      | (with_reducible exact LeO.refl _)
      | (with_reducible exact LeO.none _)
      | (with_reducible refine LeO.ite ?_ ?_)
      | (with_reducible refine LeO.bind ?_ (fun _ => ?_))
      | exact ih0 _
      | exact ih1 _ _
      | exact ih2 _ _ _
      | exact hopscotchlaw01_UtfNext.mono _ _
      | exact hopscotchlaw01_UtfPieces.mono _ _ _
      | exact hopscotchlaw01_UtfPut.mono _ _ _
      | exact hopscotchlaw01_UtfValid.mono _ _
      | exact LeO.none _
      | refine LeO.ite ?_ ?_
      | refine LeO.bind ?_ (fun _ => ?_)
theorem hopscotchlaw01_UtfKnown.mono : ∀ k, LeO (hopscotchlaw01_UtfKnown.f k ) (hopscotchlaw01_UtfKnown.f (k + 1) ) := by
  intro  k
  obtain ⟨ih0, ih1, ih2⟩ := hopscotchlaw01_UtfKnown.mono_l k
  unfold hopscotchlaw01_UtfKnown.f
  repeat' first
      | (with_reducible exact ih0 _)
      | (with_reducible exact ih1 _ _)
      | (with_reducible exact ih2 _ _ _)
      | (with_reducible exact hopscotchlaw01_UtfNext.mono _ _)
      | (with_reducible exact hopscotchlaw01_UtfPieces.mono _ _ _)
      | (with_reducible exact hopscotchlaw01_UtfPut.mono _ _ _)
      | (with_reducible exact hopscotchlaw01_UtfValid.mono _ _)
      | (with_reducible exact LeO.refl _)
      | (with_reducible exact LeO.none _)
      | (with_reducible refine LeO.ite ?_ ?_)
      | (with_reducible refine LeO.bind ?_ (fun _ => ?_))
      | exact ih0 _
      | exact ih1 _ _
      | exact ih2 _ _ _
      | exact hopscotchlaw01_UtfNext.mono _ _
      | exact hopscotchlaw01_UtfPieces.mono _ _ _
      | exact hopscotchlaw01_UtfPut.mono _ _ _
      | exact hopscotchlaw01_UtfValid.mono _ _
      | exact LeO.none _
      | refine LeO.ite ?_ ?_
      | refine LeO.bind ?_ (fun _ => ?_)
set_option maxHeartbeats 8000000 in
set_option maxRecDepth 100000 in
theorem hopscotchlaw01_UtfKnown.calls (k : Nat)  (r : Bool) (w : World) (hG : Glob w) (h : hopscotchlaw01_UtfKnown.f k  = some r) :
    Calls Tryd.prog 7 #[] w fun e w' => e = .returned (.bool r) ∧ Below w.heap.size w w' := by
  have HB := Aside0.mk (Below.refl w.heap.size w)
  have H : (hopscotchlaw01_UtfKnown.l0 k 0) = some r := h
  clear h
  have H' := Aside0.mk H
  clear H
  go_enter Tryd.func7, Tryd.ntmps7
  go_wp2
  go_loopg [1] k (fun kq v1 w' => ∃ (x1_1 : Int), v1 = .int .i64 x1_1 ∧ Aside0 (hopscotchlaw01_UtfKnown.l0 kq x1_1 = some r) ∧ Aside0 (kq ≤ k) ∧ Aside0 (Below w.heap.size w w'))
  case atStart => exact ⟨(0), (by first | rfl | (simp; done) | (simp [*]; done) | (simp [bne, show ∀ l_ : List UInt8, (l_ == []) = l_.isEmpty from fun l_ => by cases l_ <;> rfl]; done)), H', ⟨Nat.le_refl _⟩, ⟨by repeat (first | (with_reducible first | exact HB.out | apply below_alloc | apply pw_below_drewN | apply below_drew1) | exact HB.out)⟩⟩
  case round =>
    clear H'
    obtain ⟨x1_1, rfl, HA, HK1, HB⟩ := hrel
    cases gk with
    | zero => exact absurd HA.out (by simp [hopscotchlaw01_UtfKnown.l0])
    | succ k1 =>
      have H := HA.out
      clear HA
      simp only [hopscotchlaw01_UtfKnown.l0] at H
      by_cases c1 : x1_1 < 256
      · rw [if_pos c1] at H
        have c1b0 : decide (x1_1 < 256) = true := decide_eq_true c1
        clear c1
        have H' := Aside0.mk H
        clear H
        go_wp2
        go_loopg [2] k1 (fun kq v2 w' => ∃ (x2_2 : Int), v2 = .int .i64 x2_2 ∧ Aside0 (hopscotchlaw01_UtfKnown.l1 kq x1_1 x2_2 = some r) ∧ Aside0 (kq ≤ k1) ∧ Aside0 (Below w.heap.size w w'))
        case atStart => exact ⟨(0), (by first | rfl | (simp; done) | (simp [*]; done) | (simp [bne, show ∀ l_ : List UInt8, (l_ == []) = l_.isEmpty from fun l_ => by cases l_ <;> rfl]; done)), H', ⟨Nat.le_refl _⟩, ⟨by repeat (first | (with_reducible first | exact HB.out | apply below_alloc | apply pw_below_drewN | apply below_drew1) | exact HB.out)⟩⟩
        case round =>
          clear H'
          try clear c1
          try clear c1b0
          obtain ⟨x2_2, rfl, HA, HK2, HB⟩ := hrel
          cases gk with
          | zero => exact absurd HA.out (by simp [hopscotchlaw01_UtfKnown.l1])
          | succ k2 =>
            have H := HA.out
            clear HA
            simp only [hopscotchlaw01_UtfKnown.l1] at H
            by_cases c2 : x2_2 < 256
            · rw [if_pos c2] at H
              have c2b0 : decide (x2_2 < 256) = true := decide_eq_true c2
              clear c2
              obtain ⟨y198, hy198⟩ : ∃ y_ : List Int, y_ = (([(x1_1) % 256, (x2_2) % 256, 128, 191] : List Int)) := ⟨_, rfl⟩
              replace H : ((hopscotchlaw01_UtfNext.f k2 (strOfNums y198)).bind fun t201 => (if t201 = true then (hopscotchlaw01_UtfKnown.l1 k2 x1_1 (wrap64 ((wrap64 (x2_2 + 1)) + (Int.tmod x1_1 3)))) else (some false))) = some r := by first | (rw [hy198]; with_reducible exact H) | (have H2_ := (Option.bind_some _ _).symm.trans H; rw [hy198]; with_reducible exact H2_) | (have H2_ := (Option.bind_some _ _).symm.trans H; with_reducible exact H2_) | with_reducible exact H | (rw [hy198]; exact H) | exact H
              have Ny198 := Aside0.mk hy198
              clear hy198
              replace H := Option.bind_eq_some_iff.mp H
              obtain ⟨t201, A30, H⟩ := H
              replace H : (if t201 = true then (hopscotchlaw01_UtfKnown.l1 k2 x1_1 (wrap64 ((wrap64 (x2_2 + 1)) + (Int.tmod x1_1 3)))) else (some false)) = some r := H
              have A3 := Aside0.mk A30
              clear A30
              by_cases c4 : t201 = true
              · subst c4
                have H1 : (hopscotchlaw01_UtfKnown.l1 k2 x1_1 (wrap64 ((wrap64 (x2_2 + 1)) + (Int.tmod x1_1 3)))) = some r := by rw [if_pos rfl] at H; exact H
                clear H
                have H := H1
                clear H1
                have H' := Aside0.mk H
                clear H
                go_wp2_with (first | ((with_reducible refine gate_dst (N := 20) rfl ?_); refine Kd.R_lit (Kd.int .u8) _ 5 ?hg (N := 20) ?hd (xs := ([(x1_1) % 256, (x2_2) % 256, 128, 191] : List Int)) (inner := [.int .u8 ((x1_1) % 256), .int .u8 ((x2_2) % 256), .int .u8 128, .int .u8 191]) (ok := fun _ => True) (okp := fun _ => True) ?hr ?hp (fun _ hk => hk) trivial (Below.refl _ _) (Nat.le_refl _) (by simp) ?_; (case hd => rfl); (case hg => rfl); (case hr => first | (go_simp; done) | (go_simp; rfl)); (case hp => exact (Reps.one (show Kd.M (Kd.int .u8) _ _ _ ((x1_1) % 256) [.int .u8 ((x1_1) % 256)] from rfl) (Reps.one (show Kd.M (Kd.int .u8) _ _ _ ((x2_2) % 256) [.int .u8 ((x2_2) % 256)] from rfl) (Reps.one (show Kd.M (Kd.int .u8) _ _ _ 128 [.int .u8 128] from rfl) (Reps.one (show Kd.M (Kd.int .u8) _ _ _ 191 [.int .u8 191] from rfl) (Reps.none _ _)))))); intro v199 w5 ho6 hb hg_ hnew_; clear hg_ hnew_; (first | rw [← Ny198.out] at ho6 | (simp only [Int.reduceToNat] at ho6; rw [← Ny198.out] at ho6)); have n0_ := Aside0.mk (Kd.R_lower ho6 (below_size (by repeat (first | (with_reducible first | exact HB.out | apply below_alloc | apply pw_below_drewN | apply below_drew1) | exact HB.out)))); have n1_ := Aside0.mk (below_step (by repeat (first | (with_reducible first | exact HB.out | apply below_alloc | apply pw_below_drewN | apply below_drew1) | exact HB.out)) hb); clear HB; have HO200 := n0_; have HB := n1_; clear n0_ n1_; clear hb ho6; have hcv7 := own_string (P := Tryd.prog) Tryd.underlying37 Tryd.underlying5 Tryd.underlying9 (Kd.own_of_R HO200.out)) | ((with_reducible refine gate_callee (f := 3) rfl ?_); refine goesL_ (some 22) rfl rfl Tryd.func3 (by kernel_rfl) rfl #[.string (strOfNums y198)] rfl (by (try simp only [List.map_toArray, List.map_cons, List.map_nil]); first | done | rfl | (simp only [List.length_drop, List.length_take]; rfl)) ?_; (with_reducible refine (hopscotchlaw01_UtfNext.calls k2 (strOfNums y198) true _ ?side1 A3.out).mono ?_); (case side1 => exact Glob.of_below hG (by repeat (first | (with_reducible first | exact HB.out | apply below_alloc | apply pw_below_drewN | apply below_drew1) | exact HB.out))); rintro e w8 ⟨rfl, hb⟩; refine ⟨_, rfl, ?_⟩; have n0_ := Aside0.mk (Kd.R_below (by (with_reducible repeat (first | apply Kd.R_alloc | apply Kd.R_drewN | apply Kd.R_drew)); exact HO200.out) hb); have n1_ := Aside0.mk (below_step (by repeat (first | (with_reducible first | exact HB.out | apply below_alloc | apply pw_below_drewN | apply below_drew1) | exact HB.out)) hb); clear HO200; clear HB; have HO200 := n0_; have HB := n1_; clear n0_ n1_; (try clear hb); (try clear hb2); (try clear hk); (try clear hi)))
                go_roundg k2
                case measure => have := HK1.out; have := HK2.out; omega
                case rel => exact ⟨(wrap64 ((wrap64 (x2_2 + 1)) + (Int.tmod x1_1 3))), (by first | rfl | (simp; done) | (simp [*]; done) | (simp [bne, show ∀ l_ : List UInt8, (l_ == []) = l_.isEmpty from fun l_ => by cases l_ <;> rfl]; done)), H', ⟨by have := HK1.out; have := HK2.out; omega⟩, ⟨by repeat (first | (with_reducible first | exact HB.out | apply below_alloc | apply pw_below_drewN | apply below_drew1) | exact HB.out)⟩⟩
              · replace c4 := Bool.eq_false_iff.mpr c4
                subst c4
                have H1 : (some false) = some r := by rw [if_neg (show ¬ (false = true) by decide)] at H; exact H
                clear H
                have H := H1
                clear H1
                obtain rfl := Option.some.inj H
                go_wp2_with (first | ((with_reducible refine gate_dst (N := 20) rfl ?_); refine Kd.R_lit (Kd.int .u8) _ 5 ?hg (N := 20) ?hd (xs := ([(x1_1) % 256, (x2_2) % 256, 128, 191] : List Int)) (inner := [.int .u8 ((x1_1) % 256), .int .u8 ((x2_2) % 256), .int .u8 128, .int .u8 191]) (ok := fun _ => True) (okp := fun _ => True) ?hr ?hp (fun _ hk => hk) trivial (Below.refl _ _) (Nat.le_refl _) (by simp) ?_; (case hd => rfl); (case hg => rfl); (case hr => first | (go_simp; done) | (go_simp; rfl)); (case hp => exact (Reps.one (show Kd.M (Kd.int .u8) _ _ _ ((x1_1) % 256) [.int .u8 ((x1_1) % 256)] from rfl) (Reps.one (show Kd.M (Kd.int .u8) _ _ _ ((x2_2) % 256) [.int .u8 ((x2_2) % 256)] from rfl) (Reps.one (show Kd.M (Kd.int .u8) _ _ _ 128 [.int .u8 128] from rfl) (Reps.one (show Kd.M (Kd.int .u8) _ _ _ 191 [.int .u8 191] from rfl) (Reps.none _ _)))))); intro v199 w9 ho10 hb hg_ hnew_; clear hg_ hnew_; (first | rw [← Ny198.out] at ho10 | (simp only [Int.reduceToNat] at ho10; rw [← Ny198.out] at ho10)); have n0_ := Aside0.mk (Kd.R_lower ho10 (below_size (by repeat (first | (with_reducible first | exact HB.out | apply below_alloc | apply pw_below_drewN | apply below_drew1) | exact HB.out)))); have n1_ := Aside0.mk (below_step (by repeat (first | (with_reducible first | exact HB.out | apply below_alloc | apply pw_below_drewN | apply below_drew1) | exact HB.out)) hb); clear HB; have HO200 := n0_; have HB := n1_; clear n0_ n1_; clear hb ho10; have hcv11 := own_string (P := Tryd.prog) Tryd.underlying37 Tryd.underlying5 Tryd.underlying9 (Kd.own_of_R HO200.out)) | ((with_reducible refine gate_callee (f := 3) rfl ?_); refine goesL_ (some 22) rfl rfl Tryd.func3 (by kernel_rfl) rfl #[.string (strOfNums y198)] rfl (by (try simp only [List.map_toArray, List.map_cons, List.map_nil]); first | done | rfl | (simp only [List.length_drop, List.length_take]; rfl)) ?_; (with_reducible refine (hopscotchlaw01_UtfNext.calls k2 (strOfNums y198) false _ ?side1 A3.out).mono ?_); (case side1 => exact Glob.of_below hG (by repeat (first | (with_reducible first | exact HB.out | apply below_alloc | apply pw_below_drewN | apply below_drew1) | exact HB.out))); rintro e w12 ⟨rfl, hb⟩; refine ⟨_, rfl, ?_⟩; have n0_ := Aside0.mk (Kd.R_below (by (with_reducible repeat (first | apply Kd.R_alloc | apply Kd.R_drewN | apply Kd.R_drew)); exact HO200.out) hb); have n1_ := Aside0.mk (below_step (by repeat (first | (with_reducible first | exact HB.out | apply below_alloc | apply pw_below_drewN | apply below_drew1) | exact HB.out)) hb); clear HO200; clear HB; have HO200 := n0_; have HB := n1_; clear n0_ n1_; (try clear hb); (try clear hb2); (try clear hk); (try clear hi)))
                go_ret
                exact ⟨by first | rfl | (simp [errW_none, errW_some] <;> rfl) | (simp [*, errW_none, errW_some] <;> rfl), by repeat (first | (with_reducible first | exact HB.out | apply below_alloc | apply pw_below_drewN | apply below_drew1) | exact HB.out)⟩
            · rw [if_neg c2] at H
              have c2b0 : decide (x2_2 < 256) = false := decide_eq_false c2
              clear c2
              have H' := Aside0.mk H
              clear H
              go_wp2
              go_roundg k2
              case measure => have := HK1.out; have := HK2.out; omega
              case rel => exact ⟨(wrap64 (x1_1 + 1)), (by first | rfl | (simp; done) | (simp [*]; done) | (simp [bne, show ∀ l_ : List UInt8, (l_ == []) = l_.isEmpty from fun l_ => by cases l_ <;> rfl]; done)), H', ⟨by have := HK1.out; have := HK2.out; omega⟩, ⟨by repeat (first | (with_reducible first | exact HB.out | apply below_alloc | apply pw_below_drewN | apply below_drew1) | exact HB.out)⟩⟩
      · rw [if_neg c1] at H
        have c1b0 : decide (x1_1 < 256) = false := decide_eq_false c1
        clear c1
        obtain ⟨y202, hy202⟩ : ∃ y_ : List Int, y_ = (([(-2147483648), (-1), 0, 8, 9, 10, 11, 13, 14, 31, 32, 127, 128, 2047, 2048, 55295, 55296, 57343, 57344, 65533, 65534, 65535, 65536, 1114111, 1114112, 2147483647] : List Int)) := ⟨_, rfl⟩
        replace H : (hopscotchlaw01_UtfKnown.l2 k1 y202 (y202.length : Int) 0) = some r := by first | (rw [hy202]; with_reducible exact H) | (have H2_ := (Option.bind_some _ _).symm.trans H; rw [hy202]; with_reducible exact H2_) | (have H2_ := (Option.bind_some _ _).symm.trans H; with_reducible exact H2_) | with_reducible exact H | (rw [hy202]; exact H) | exact H
        have Ny202 := Aside0.mk hy202
        clear hy202
        have H' := Aside0.mk H
        clear H
        go_wp2_with (first | ((with_reducible refine gate_dst (N := 24) rfl ?_); refine Kd.R_lit (Kd.int .i32) _ 21 ?hg (N := 24) ?hd (xs := ([(-2147483648), (-1), 0, 8, 9, 10, 11, 13, 14, 31, 32, 127, 128, 2047, 2048, 55295, 55296, 57343, 57344, 65533, 65534, 65535, 65536, 1114111, 1114112, 2147483647] : List Int)) (inner := [.int .i32 (-2147483648), .int .i32 (-1), .int .i32 0, .int .i32 8, .int .i32 9, .int .i32 10, .int .i32 11, .int .i32 13, .int .i32 14, .int .i32 31, .int .i32 32, .int .i32 127, .int .i32 128, .int .i32 2047, .int .i32 2048, .int .i32 55295, .int .i32 55296, .int .i32 57343, .int .i32 57344, .int .i32 65533, .int .i32 65534, .int .i32 65535, .int .i32 65536, .int .i32 1114111, .int .i32 1114112, .int .i32 2147483647]) (ok := fun _ => True) (okp := fun _ => True) ?hr ?hp (fun _ hk => hk) trivial (Below.refl _ _) (Nat.le_refl _) (by simp) ?_; (case hd => rfl); (case hg => rfl); (case hr => first | (go_simp; done) | (go_simp; rfl)); (case hp => exact (Reps.one (show Kd.M (Kd.int .i32) _ _ _ (-2147483648) [.int .i32 (-2147483648)] from rfl) (Reps.one (show Kd.M (Kd.int .i32) _ _ _ (-1) [.int .i32 (-1)] from rfl) (Reps.one (show Kd.M (Kd.int .i32) _ _ _ 0 [.int .i32 0] from rfl) (Reps.one (show Kd.M (Kd.int .i32) _ _ _ 8 [.int .i32 8] from rfl) (Reps.one (show Kd.M (Kd.int .i32) _ _ _ 9 [.int .i32 9] from rfl) (Reps.one (show Kd.M (Kd.int .i32) _ _ _ 10 [.int .i32 10] from rfl) (Reps.one (show Kd.M (Kd.int .i32) _ _ _ 11 [.int .i32 11] from rfl) (Reps.one (show Kd.M (Kd.int .i32) _ _ _ 13 [.int .i32 13] from rfl) (Reps.one (show Kd.M (Kd.int .i32) _ _ _ 14 [.int .i32 14] from rfl) (Reps.one (show Kd.M (Kd.int .i32) _ _ _ 31 [.int .i32 31] from rfl) (Reps.one (show Kd.M (Kd.int .i32) _ _ _ 32 [.int .i32 32] from rfl) (Reps.one (show Kd.M (Kd.int .i32) _ _ _ 127 [.int .i32 127] from rfl) (Reps.one (show Kd.M (Kd.int .i32) _ _ _ 128 [.int .i32 128] from rfl) (Reps.one (show Kd.M (Kd.int .i32) _ _ _ 2047 [.int .i32 2047] from rfl) (Reps.one (show Kd.M (Kd.int .i32) _ _ _ 2048 [.int .i32 2048] from rfl) (Reps.one (show Kd.M (Kd.int .i32) _ _ _ 55295 [.int .i32 55295] from rfl) (Reps.one (show Kd.M (Kd.int .i32) _ _ _ 55296 [.int .i32 55296] from rfl) (Reps.one (show Kd.M (Kd.int .i32) _ _ _ 57343 [.int .i32 57343] from rfl) (Reps.one (show Kd.M (Kd.int .i32) _ _ _ 57344 [.int .i32 57344] from rfl) (Reps.one (show Kd.M (Kd.int .i32) _ _ _ 65533 [.int .i32 65533] from rfl) (Reps.one (show Kd.M (Kd.int .i32) _ _ _ 65534 [.int .i32 65534] from rfl) (Reps.one (show Kd.M (Kd.int .i32) _ _ _ 65535 [.int .i32 65535] from rfl) (Reps.one (show Kd.M (Kd.int .i32) _ _ _ 65536 [.int .i32 65536] from rfl) (Reps.one (show Kd.M (Kd.int .i32) _ _ _ 1114111 [.int .i32 1114111] from rfl) (Reps.one (show Kd.M (Kd.int .i32) _ _ _ 1114112 [.int .i32 1114112] from rfl) (Reps.one (show Kd.M (Kd.int .i32) _ _ _ 2147483647 [.int .i32 2147483647] from rfl) (Reps.none _ _)))))))))))))))))))))))))))); intro v203 w13 ho14 hb hg_ hnew_; clear hg_ hnew_; (first | rw [← Ny202.out] at ho14 | (simp only [Int.reduceToNat] at ho14; rw [← Ny202.out] at ho14)); have n0_ := Aside0.mk (Kd.R_lower ho14 (below_size (by repeat (first | (with_reducible first | exact HB.out | apply below_alloc | apply pw_below_drewN | apply below_drew1) | exact HB.out)))); have n1_ := Aside0.mk (below_step (by repeat (first | (with_reducible first | exact HB.out | apply below_alloc | apply pw_below_drewN | apply below_drew1) | exact HB.out)) hb); clear HB; have HO204 := n0_; have HB := n1_; clear n0_ n1_; clear hb ho14; obtain ⟨Ao15, co15, eo15⟩ := Kd.R_slice HO204.out; subst eo15))
        go_loopg [26] k1 (fun kq v26 w' => ∃ (x26_2 : Int), v26 = .int .i64 x26_2 ∧ Aside0 (hopscotchlaw01_UtfKnown.l2 kq y202 (y202.length : Int) x26_2 = some r) ∧ Aside0 (kq ≤ k1) ∧ Aside0 (Kd.R (Kd.int .i32) 21 w' w.heap.size (fun _ => True) (.slice Ao15 y202.length co15) y202) ∧ Aside0 (Below w.heap.size w w'))
        case atStart => exact ⟨(0), (by first | rfl | (simp; done) | (simp [*]; done) | (simp [bne, show ∀ l_ : List UInt8, (l_ == []) = l_.isEmpty from fun l_ => by cases l_ <;> rfl]; done)), H', ⟨Nat.le_refl _⟩, ⟨by (with_reducible repeat (first | apply Kd.R_alloc | apply Kd.R_drewN | apply Kd.R_drew)); exact HO204.out⟩, ⟨by repeat (first | (with_reducible first | exact HB.out | apply below_alloc | apply pw_below_drewN | apply below_drew1) | exact HB.out)⟩⟩
        case round =>
          clear H'
          try clear c1
          try clear c1b0
          try clear hcv1
          try clear c2
          try clear c2b0
          try clear p2
          try clear c3
          try clear c4
          try clear p6
          try clear c7
          try clear hcv7
          try clear hcv11
          obtain ⟨x26_2, rfl, HA, HK2, HO_24, HB⟩ := hrel
          cases gk with
          | zero => exact absurd HA.out (by simp [hopscotchlaw01_UtfKnown.l2])
          | succ k2 =>
            have H := HA.out
            clear HA
            simp only [hopscotchlaw01_UtfKnown.l2] at H
            by_cases c16 : x26_2 < (y202.length : Int)
            · rw [if_pos c16] at H
              have c16b0 : decide (x26_2 < (y202.length : Int)) = true := decide_eq_true c16
              clear c16
              by_cases c17 : 0 ≤ x26_2
              · rw [if_pos c17] at H
                have c17b0 : decide (0 ≤ x26_2) = true := decide_eq_true c17
                clear c17
                by_cases c18 : x26_2 < (y202.length : Int)
                · rw [if_pos c18] at H
                  have c18b0 : decide (x26_2 < (y202.length : Int)) = true := decide_eq_true c18
                  clear c18
                  replace H := Option.bind_eq_some_iff.mp H
                  obtain ⟨t206, A190, H⟩ := H
                  replace H : (if t206 = true then ((hopscotchlaw01_UtfPut.f k2 (rd y202 x26_2) (⟨#[]⟩ : ByteArray)).bind fun t207 => (if t207 = true then ((Go.Proofs.YtpldpnkjmdlcdaaDoor.X.utf_Put.f (rd y202 x26_2)).bind fun t208 => (if t208.size + 1 ≤ 9223372036854775807 then ((Go.Proofs.YtpldpnkjmdlcdaaDoor.X.utf_Put.f (rd y202 x26_2)).bind fun t209 => ((hopscotchlaw01_UtfPieces.f k2 (t208 ++ (⟨#[97]⟩ : ByteArray)) t209).bind fun t210 => (if t210 = true then ((Go.Proofs.YtpldpnkjmdlcdaaDoor.X.utf_Put.f (rd y202 x26_2)).bind fun t211 => (if t211.size + 3 ≤ 9223372036854775807 then ((hopscotchlaw01_UtfValid.f k2 (t211 ++ (⟨#[237, 160, 128]⟩ : ByteArray))).bind fun t212 => (if t212 = true then (hopscotchlaw01_UtfKnown.l2 k2 y202 (y202.length : Int) (wrap64 (x26_2 + 1))) else (some false))) else (none))) else (some false)))) else (none))) else (some false))) else (some false)) = some r := H
                  have A19 := Aside0.mk A190
                  clear A190
                  by_cases c20 : t206 = true
                  · subst c20
                    have H1 : ((hopscotchlaw01_UtfPut.f k2 (rd y202 x26_2) (⟨#[]⟩ : ByteArray)).bind fun t207 => (if t207 = true then ((Go.Proofs.YtpldpnkjmdlcdaaDoor.X.utf_Put.f (rd y202 x26_2)).bind fun t208 => (if t208.size + 1 ≤ 9223372036854775807 then ((Go.Proofs.YtpldpnkjmdlcdaaDoor.X.utf_Put.f (rd y202 x26_2)).bind fun t209 => ((hopscotchlaw01_UtfPieces.f k2 (t208 ++ (⟨#[97]⟩ : ByteArray)) t209).bind fun t210 => (if t210 = true then ((Go.Proofs.YtpldpnkjmdlcdaaDoor.X.utf_Put.f (rd y202 x26_2)).bind fun t211 => (if t211.size + 3 ≤ 9223372036854775807 then ((hopscotchlaw01_UtfValid.f k2 (t211 ++ (⟨#[237, 160, 128]⟩ : ByteArray))).bind fun t212 => (if t212 = true then (hopscotchlaw01_UtfKnown.l2 k2 y202 (y202.length : Int) (wrap64 (x26_2 + 1))) else (some false))) else (none))) else (some false)))) else (none))) else (some false))) = some r := by rw [if_pos rfl] at H; exact H
                    clear H
                    have H := H1
                    clear H1
                    replace H := Option.bind_eq_some_iff.mp H
                    obtain ⟨t207, A210, H⟩ := H
                    replace H : (if t207 = true then ((Go.Proofs.YtpldpnkjmdlcdaaDoor.X.utf_Put.f (rd y202 x26_2)).bind fun t208 => (if t208.size + 1 ≤ 9223372036854775807 then ((Go.Proofs.YtpldpnkjmdlcdaaDoor.X.utf_Put.f (rd y202 x26_2)).bind fun t209 => ((hopscotchlaw01_UtfPieces.f k2 (t208 ++ (⟨#[97]⟩ : ByteArray)) t209).bind fun t210 => (if t210 = true then ((Go.Proofs.YtpldpnkjmdlcdaaDoor.X.utf_Put.f (rd y202 x26_2)).bind fun t211 => (if t211.size + 3 ≤ 9223372036854775807 then ((hopscotchlaw01_UtfValid.f k2 (t211 ++ (⟨#[237, 160, 128]⟩ : ByteArray))).bind fun t212 => (if t212 = true then (hopscotchlaw01_UtfKnown.l2 k2 y202 (y202.length : Int) (wrap64 (x26_2 + 1))) else (some false))) else (none))) else (some false)))) else (none))) else (some false)) = some r := H
                    have A21 := Aside0.mk A210
                    clear A210
                    by_cases c22 : t207 = true
                    · subst c22
                      have H1 : ((Go.Proofs.YtpldpnkjmdlcdaaDoor.X.utf_Put.f (rd y202 x26_2)).bind fun t208 => (if t208.size + 1 ≤ 9223372036854775807 then ((Go.Proofs.YtpldpnkjmdlcdaaDoor.X.utf_Put.f (rd y202 x26_2)).bind fun t209 => ((hopscotchlaw01_UtfPieces.f k2 (t208 ++ (⟨#[97]⟩ : ByteArray)) t209).bind fun t210 => (if t210 = true then ((Go.Proofs.YtpldpnkjmdlcdaaDoor.X.utf_Put.f (rd y202 x26_2)).bind fun t211 => (if t211.size + 3 ≤ 9223372036854775807 then ((hopscotchlaw01_UtfValid.f k2 (t211 ++ (⟨#[237, 160, 128]⟩ : ByteArray))).bind fun t212 => (if t212 = true then (hopscotchlaw01_UtfKnown.l2 k2 y202 (y202.length : Int) (wrap64 (x26_2 + 1))) else (some false))) else (none))) else (some false)))) else (none))) = some r := by rw [if_pos rfl] at H; exact H
                      clear H
                      have H := H1
                      clear H1
                      replace H := Option.bind_eq_some_iff.mp H
                      obtain ⟨t208, A230, H⟩ := H
                      replace H : (if t208.size + 1 ≤ 9223372036854775807 then ((Go.Proofs.YtpldpnkjmdlcdaaDoor.X.utf_Put.f (rd y202 x26_2)).bind fun t209 => ((hopscotchlaw01_UtfPieces.f k2 (t208 ++ (⟨#[97]⟩ : ByteArray)) t209).bind fun t210 => (if t210 = true then ((Go.Proofs.YtpldpnkjmdlcdaaDoor.X.utf_Put.f (rd y202 x26_2)).bind fun t211 => (if t211.size + 3 ≤ 9223372036854775807 then ((hopscotchlaw01_UtfValid.f k2 (t211 ++ (⟨#[237, 160, 128]⟩ : ByteArray))).bind fun t212 => (if t212 = true then (hopscotchlaw01_UtfKnown.l2 k2 y202 (y202.length : Int) (wrap64 (x26_2 + 1))) else (some false))) else (none))) else (some false)))) else (none)) = some r := H
                      have A23 := Aside0.mk A230
                      clear A230
                      by_cases c24 : t208.size + 1 ≤ 9223372036854775807
                      · rw [if_pos c24] at H
                        have c24b0 := eq_true c24
                        have c24b1 : decide (t208.size + 1 ≤ 9223372036854775807) = true := decide_eq_true c24
                        try have c24b2 : (9223372036854775807 < t208.size + 1) = False := eq_false (Nat.not_lt.2 c24)
                        replace H := Option.bind_eq_some_iff.mp H
                        obtain ⟨t209, A250, H⟩ := H
                        replace H : ((hopscotchlaw01_UtfPieces.f k2 (t208 ++ (⟨#[97]⟩ : ByteArray)) t209).bind fun t210 => (if t210 = true then ((Go.Proofs.YtpldpnkjmdlcdaaDoor.X.utf_Put.f (rd y202 x26_2)).bind fun t211 => (if t211.size + 3 ≤ 9223372036854775807 then ((hopscotchlaw01_UtfValid.f k2 (t211 ++ (⟨#[237, 160, 128]⟩ : ByteArray))).bind fun t212 => (if t212 = true then (hopscotchlaw01_UtfKnown.l2 k2 y202 (y202.length : Int) (wrap64 (x26_2 + 1))) else (some false))) else (none))) else (some false))) = some r := H
                        have A25 := Aside0.mk A250
                        clear A250
                        replace H := Option.bind_eq_some_iff.mp H
                        obtain ⟨t210, A260, H⟩ := H
                        replace H : (if t210 = true then ((Go.Proofs.YtpldpnkjmdlcdaaDoor.X.utf_Put.f (rd y202 x26_2)).bind fun t211 => (if t211.size + 3 ≤ 9223372036854775807 then ((hopscotchlaw01_UtfValid.f k2 (t211 ++ (⟨#[237, 160, 128]⟩ : ByteArray))).bind fun t212 => (if t212 = true then (hopscotchlaw01_UtfKnown.l2 k2 y202 (y202.length : Int) (wrap64 (x26_2 + 1))) else (some false))) else (none))) else (some false)) = some r := H
                        have A26 := Aside0.mk A260
                        clear A260
                        by_cases c27 : t210 = true
                        · subst c27
                          have H1 : ((Go.Proofs.YtpldpnkjmdlcdaaDoor.X.utf_Put.f (rd y202 x26_2)).bind fun t211 => (if t211.size + 3 ≤ 9223372036854775807 then ((hopscotchlaw01_UtfValid.f k2 (t211 ++ (⟨#[237, 160, 128]⟩ : ByteArray))).bind fun t212 => (if t212 = true then (hopscotchlaw01_UtfKnown.l2 k2 y202 (y202.length : Int) (wrap64 (x26_2 + 1))) else (some false))) else (none))) = some r := by rw [if_pos rfl] at H; exact H
                          clear H
                          have H := H1
                          clear H1
                          replace H := Option.bind_eq_some_iff.mp H
                          obtain ⟨t211, A280, H⟩ := H
                          replace H : (if t211.size + 3 ≤ 9223372036854775807 then ((hopscotchlaw01_UtfValid.f k2 (t211 ++ (⟨#[237, 160, 128]⟩ : ByteArray))).bind fun t212 => (if t212 = true then (hopscotchlaw01_UtfKnown.l2 k2 y202 (y202.length : Int) (wrap64 (x26_2 + 1))) else (some false))) else (none)) = some r := H
                          have A28 := Aside0.mk A280
                          clear A280
                          by_cases c29 : t211.size + 3 ≤ 9223372036854775807
                          · rw [if_pos c29] at H
                            have c29b0 := eq_true c29
                            have c29b1 : decide (t211.size + 3 ≤ 9223372036854775807) = true := decide_eq_true c29
                            try have c29b2 : (9223372036854775807 < t211.size + 3) = False := eq_false (Nat.not_lt.2 c29)
                            replace H := Option.bind_eq_some_iff.mp H
                            obtain ⟨t212, A300, H⟩ := H
                            replace H : (if t212 = true then (hopscotchlaw01_UtfKnown.l2 k2 y202 (y202.length : Int) (wrap64 (x26_2 + 1))) else (some false)) = some r := H
                            have A30 := Aside0.mk A300
                            clear A300
                            by_cases c31 : t212 = true
                            · subst c31
                              have H1 : (hopscotchlaw01_UtfKnown.l2 k2 y202 (y202.length : Int) (wrap64 (x26_2 + 1))) = some r := by rw [if_pos rfl] at H; exact H
                              clear H
                              have H := H1
                              clear H1
                              have H' := Aside0.mk H
                              clear H
                              have p205 : 0 ≤ (x26_2 : Int) := of_decide_eq_true (by first | (with_reducible assumption) | assumption)
                              have q205 : x26_2 < (y202.length : Int) := of_decide_eq_true (by first | (with_reducible assumption) | assumption)
                              obtain ⟨ad205, e205, hx205_0⟩ := Kd.at_int (Kd.R_reads' HO_24.out).2.2 x26_2 p205 q205
                              cases e205
                              replace p205 := eq_true p205
                              replace q205 := eq_true q205
                              have tok205_2 : True := trivial
                              have tok205_3 : True := trivial
                              have tok205_5 : True := trivial
                              go_wp2_with (first | ((with_reducible refine gate_callee (f := 4) rfl ?_); refine goesL_ (some 31) rfl rfl Tryd.func4 (by kernel_rfl) rfl #[.int .i32 (rd y202 x26_2), .string (⟨#[128]⟩ : ByteArray)] rfl (by (try simp only [List.map_toArray, List.map_cons, List.map_nil]); first | done | rfl | (simp only [List.length_drop, List.length_take]; rfl)) ?_; (with_reducible refine (hopscotchlaw01_UtfPut.calls k2 (rd y202 x26_2) (⟨#[128]⟩ : ByteArray) true _ ?side1 A19.out).mono ?_); (case side1 => exact Glob.of_below hG (by repeat (first | (with_reducible first | exact HB.out | apply below_alloc | apply pw_below_drewN | apply below_drew1) | exact HB.out))); rintro e w32 ⟨rfl, hb⟩; refine ⟨_, rfl, ?_⟩; have n0_ := Aside0.mk (Kd.R_below (by (with_reducible repeat (first | apply Kd.R_alloc | apply Kd.R_drewN | apply Kd.R_drew)); exact HO_24.out) hb); have n1_ := Aside0.mk (below_step (by repeat (first | (with_reducible first | exact HB.out | apply below_alloc | apply pw_below_drewN | apply below_drew1) | exact HB.out)) hb); clear HO_24; clear HB; have HO_24 := n0_; have HB := n1_; clear n0_ n1_; (try clear hb); (try clear hb2); (try clear hk); (try clear hi)) | (go_at_call 4; (with_reducible refine (hopscotchlaw01_UtfPut.calls k2 (rd y202 x26_2) (⟨#[]⟩ : ByteArray) true _ ?side1 A21.out).mono ?_); (case side1 => exact Glob.of_below hG (by repeat (first | (with_reducible first | exact HB.out | apply below_alloc | apply pw_below_drewN | apply below_drew1) | exact HB.out))); rintro e w33 ⟨rfl, hb⟩; have n0_ := Aside0.mk (Kd.R_below (by (with_reducible repeat (first | apply Kd.R_alloc | apply Kd.R_drewN | apply Kd.R_drew)); exact HO_24.out) hb); have n1_ := Aside0.mk (below_step (by repeat (first | (with_reducible first | exact HB.out | apply below_alloc | apply pw_below_drewN | apply below_drew1) | exact HB.out)) hb); clear HO_24; clear HB; have HO_24 := n0_; have HB := n1_; clear n0_ n1_; (try clear hb); (try clear hb2); (try clear hk); (try clear hi)) | (have tu_ := tok205_2; clear tu_ tok205_2; go_at_call 11; (with_reducible refine (Go.Proofs.YtpldpnkjmdlcdaaDoor.X.utf_Put.calls (rd y202 x26_2) t208 _ ?side1 A23.out).mono ?_); (case side1 => exact Glob.of_below hG (by repeat (first | (with_reducible first | exact HB.out | apply below_alloc | apply pw_below_drewN | apply below_drew1) | exact HB.out))); rintro e w34 ⟨rfl, hb⟩; have n0_ := Aside0.mk (Kd.R_below (by (with_reducible repeat (first | apply Kd.R_alloc | apply Kd.R_drewN | apply Kd.R_drew)); exact HO_24.out) hb); have n1_ := Aside0.mk (below_step (by repeat (first | (with_reducible first | exact HB.out | apply below_alloc | apply pw_below_drewN | apply below_drew1) | exact HB.out)) hb); clear HO_24; clear HB; have HO_24 := n0_; have HB := n1_; clear n0_ n1_; (try clear hb); (try clear hb2); (try clear hk); (try clear hi)) | (have tu_ := tok205_3; clear tu_ tok205_3; go_at_call 11; (with_reducible refine (Go.Proofs.YtpldpnkjmdlcdaaDoor.X.utf_Put.calls (rd y202 x26_2) t209 _ ?side1 A25.out).mono ?_); (case side1 => exact Glob.of_below hG (by repeat (first | (with_reducible first | exact HB.out | apply below_alloc | apply pw_below_drewN | apply below_drew1) | exact HB.out))); rintro e w35 ⟨rfl, hb⟩; have n0_ := Aside0.mk (Kd.R_below (by (with_reducible repeat (first | apply Kd.R_alloc | apply Kd.R_drewN | apply Kd.R_drew)); exact HO_24.out) hb); have n1_ := Aside0.mk (below_step (by repeat (first | (with_reducible first | exact HB.out | apply below_alloc | apply pw_below_drewN | apply below_drew1) | exact HB.out)) hb); clear HO_24; clear HB; have HO_24 := n0_; have HB := n1_; clear n0_ n1_; (try clear hb); (try clear hb2); (try clear hk); (try clear hi)) | (go_at_call 6; (with_reducible refine (hopscotchlaw01_UtfPieces.calls k2 (t208 ++ (⟨#[97]⟩ : ByteArray)) t209 true _ ?side1 A26.out).mono ?_); (case side1 => exact Glob.of_below hG (by repeat (first | (with_reducible first | exact HB.out | apply below_alloc | apply pw_below_drewN | apply below_drew1) | exact HB.out))); rintro e w36 ⟨rfl, hb⟩; have n0_ := Aside0.mk (Kd.R_below (by (with_reducible repeat (first | apply Kd.R_alloc | apply Kd.R_drewN | apply Kd.R_drew)); exact HO_24.out) hb); have n1_ := Aside0.mk (below_step (by repeat (first | (with_reducible first | exact HB.out | apply below_alloc | apply pw_below_drewN | apply below_drew1) | exact HB.out)) hb); clear HO_24; clear HB; have HO_24 := n0_; have HB := n1_; clear n0_ n1_; (try clear hb); (try clear hb2); (try clear hk); (try clear hi)) | (have tu_ := tok205_5; clear tu_ tok205_5; go_at_call 11; (with_reducible refine (Go.Proofs.YtpldpnkjmdlcdaaDoor.X.utf_Put.calls (rd y202 x26_2) t211 _ ?side1 A28.out).mono ?_); (case side1 => exact Glob.of_below hG (by repeat (first | (with_reducible first | exact HB.out | apply below_alloc | apply pw_below_drewN | apply below_drew1) | exact HB.out))); rintro e w37 ⟨rfl, hb⟩; have n0_ := Aside0.mk (Kd.R_below (by (with_reducible repeat (first | apply Kd.R_alloc | apply Kd.R_drewN | apply Kd.R_drew)); exact HO_24.out) hb); have n1_ := Aside0.mk (below_step (by repeat (first | (with_reducible first | exact HB.out | apply below_alloc | apply pw_below_drewN | apply below_drew1) | exact HB.out)) hb); clear HO_24; clear HB; have HO_24 := n0_; have HB := n1_; clear n0_ n1_; (try clear hb); (try clear hb2); (try clear hk); (try clear hi)) | (go_at_call 5; (with_reducible refine (hopscotchlaw01_UtfValid.calls k2 (t211 ++ (⟨#[237, 160, 128]⟩ : ByteArray)) true _ ?side1 A30.out).mono ?_); (case side1 => exact Glob.of_below hG (by repeat (first | (with_reducible first | exact HB.out | apply below_alloc | apply pw_below_drewN | apply below_drew1) | exact HB.out))); rintro e w38 ⟨rfl, hb⟩; have n0_ := Aside0.mk (Kd.R_below (by (with_reducible repeat (first | apply Kd.R_alloc | apply Kd.R_drewN | apply Kd.R_drew)); exact HO_24.out) hb); have n1_ := Aside0.mk (below_step (by repeat (first | (with_reducible first | exact HB.out | apply below_alloc | apply pw_below_drewN | apply below_drew1) | exact HB.out)) hb); clear HO_24; clear HB; have HO_24 := n0_; have HB := n1_; clear n0_ n1_; (try clear hb); (try clear hb2); (try clear hk); (try clear hi)))
                              go_roundg k2
                              case measure => have := HK1.out; have := HK2.out; omega
                              case rel => exact ⟨(wrap64 (x26_2 + 1)), (by first | rfl | (simp; done) | (simp [*]; done) | (simp [bne, show ∀ l_ : List UInt8, (l_ == []) = l_.isEmpty from fun l_ => by cases l_ <;> rfl]; done)), H', ⟨by have := HK1.out; have := HK2.out; omega⟩, ⟨by (with_reducible repeat (first | apply Kd.R_alloc | apply Kd.R_drewN | apply Kd.R_drew)); exact HO_24.out⟩, ⟨by repeat (first | (with_reducible first | exact HB.out | apply below_alloc | apply pw_below_drewN | apply below_drew1) | exact HB.out)⟩⟩
                            · replace c31 := Bool.eq_false_iff.mpr c31
                              subst c31
                              have H1 : (some false) = some r := by rw [if_neg (show ¬ (false = true) by decide)] at H; exact H
                              clear H
                              have H := H1
                              clear H1
                              obtain rfl := Option.some.inj H
                              have p205 : 0 ≤ (x26_2 : Int) := of_decide_eq_true (by first | (with_reducible assumption) | assumption)
                              have q205 : x26_2 < (y202.length : Int) := of_decide_eq_true (by first | (with_reducible assumption) | assumption)
                              obtain ⟨ad205, e205, hx205_0⟩ := Kd.at_int (Kd.R_reads' HO_24.out).2.2 x26_2 p205 q205
                              cases e205
                              replace p205 := eq_true p205
                              replace q205 := eq_true q205
                              have tok225_2 : True := trivial
                              have tok225_3 : True := trivial
                              have tok225_5 : True := trivial
                              go_wp2_with (first | ((with_reducible refine gate_callee (f := 4) rfl ?_); refine goesL_ (some 31) rfl rfl Tryd.func4 (by kernel_rfl) rfl #[.int .i32 (rd y202 x26_2), .string (⟨#[128]⟩ : ByteArray)] rfl (by (try simp only [List.map_toArray, List.map_cons, List.map_nil]); first | done | rfl | (simp only [List.length_drop, List.length_take]; rfl)) ?_; (with_reducible refine (hopscotchlaw01_UtfPut.calls k2 (rd y202 x26_2) (⟨#[128]⟩ : ByteArray) true _ ?side1 A19.out).mono ?_); (case side1 => exact Glob.of_below hG (by repeat (first | (with_reducible first | exact HB.out | apply below_alloc | apply pw_below_drewN | apply below_drew1) | exact HB.out))); rintro e w39 ⟨rfl, hb⟩; refine ⟨_, rfl, ?_⟩; have n0_ := Aside0.mk (Kd.R_below (by (with_reducible repeat (first | apply Kd.R_alloc | apply Kd.R_drewN | apply Kd.R_drew)); exact HO_24.out) hb); have n1_ := Aside0.mk (below_step (by repeat (first | (with_reducible first | exact HB.out | apply below_alloc | apply pw_below_drewN | apply below_drew1) | exact HB.out)) hb); clear HO_24; clear HB; have HO_24 := n0_; have HB := n1_; clear n0_ n1_; (try clear hb); (try clear hb2); (try clear hk); (try clear hi)) | (go_at_call 4; (with_reducible refine (hopscotchlaw01_UtfPut.calls k2 (rd y202 x26_2) (⟨#[]⟩ : ByteArray) true _ ?side1 A21.out).mono ?_); (case side1 => exact Glob.of_below hG (by repeat (first | (with_reducible first | exact HB.out | apply below_alloc | apply pw_below_drewN | apply below_drew1) | exact HB.out))); rintro e w40 ⟨rfl, hb⟩; have n0_ := Aside0.mk (Kd.R_below (by (with_reducible repeat (first | apply Kd.R_alloc | apply Kd.R_drewN | apply Kd.R_drew)); exact HO_24.out) hb); have n1_ := Aside0.mk (below_step (by repeat (first | (with_reducible first | exact HB.out | apply below_alloc | apply pw_below_drewN | apply below_drew1) | exact HB.out)) hb); clear HO_24; clear HB; have HO_24 := n0_; have HB := n1_; clear n0_ n1_; (try clear hb); (try clear hb2); (try clear hk); (try clear hi)) | (have tu_ := tok225_2; clear tu_ tok225_2; go_at_call 11; (with_reducible refine (Go.Proofs.YtpldpnkjmdlcdaaDoor.X.utf_Put.calls (rd y202 x26_2) t208 _ ?side1 A23.out).mono ?_); (case side1 => exact Glob.of_below hG (by repeat (first | (with_reducible first | exact HB.out | apply below_alloc | apply pw_below_drewN | apply below_drew1) | exact HB.out))); rintro e w41 ⟨rfl, hb⟩; have n0_ := Aside0.mk (Kd.R_below (by (with_reducible repeat (first | apply Kd.R_alloc | apply Kd.R_drewN | apply Kd.R_drew)); exact HO_24.out) hb); have n1_ := Aside0.mk (below_step (by repeat (first | (with_reducible first | exact HB.out | apply below_alloc | apply pw_below_drewN | apply below_drew1) | exact HB.out)) hb); clear HO_24; clear HB; have HO_24 := n0_; have HB := n1_; clear n0_ n1_; (try clear hb); (try clear hb2); (try clear hk); (try clear hi)) | (have tu_ := tok225_3; clear tu_ tok225_3; go_at_call 11; (with_reducible refine (Go.Proofs.YtpldpnkjmdlcdaaDoor.X.utf_Put.calls (rd y202 x26_2) t209 _ ?side1 A25.out).mono ?_); (case side1 => exact Glob.of_below hG (by repeat (first | (with_reducible first | exact HB.out | apply below_alloc | apply pw_below_drewN | apply below_drew1) | exact HB.out))); rintro e w42 ⟨rfl, hb⟩; have n0_ := Aside0.mk (Kd.R_below (by (with_reducible repeat (first | apply Kd.R_alloc | apply Kd.R_drewN | apply Kd.R_drew)); exact HO_24.out) hb); have n1_ := Aside0.mk (below_step (by repeat (first | (with_reducible first | exact HB.out | apply below_alloc | apply pw_below_drewN | apply below_drew1) | exact HB.out)) hb); clear HO_24; clear HB; have HO_24 := n0_; have HB := n1_; clear n0_ n1_; (try clear hb); (try clear hb2); (try clear hk); (try clear hi)) | (go_at_call 6; (with_reducible refine (hopscotchlaw01_UtfPieces.calls k2 (t208 ++ (⟨#[97]⟩ : ByteArray)) t209 true _ ?side1 A26.out).mono ?_); (case side1 => exact Glob.of_below hG (by repeat (first | (with_reducible first | exact HB.out | apply below_alloc | apply pw_below_drewN | apply below_drew1) | exact HB.out))); rintro e w43 ⟨rfl, hb⟩; have n0_ := Aside0.mk (Kd.R_below (by (with_reducible repeat (first | apply Kd.R_alloc | apply Kd.R_drewN | apply Kd.R_drew)); exact HO_24.out) hb); have n1_ := Aside0.mk (below_step (by repeat (first | (with_reducible first | exact HB.out | apply below_alloc | apply pw_below_drewN | apply below_drew1) | exact HB.out)) hb); clear HO_24; clear HB; have HO_24 := n0_; have HB := n1_; clear n0_ n1_; (try clear hb); (try clear hb2); (try clear hk); (try clear hi)) | (have tu_ := tok225_5; clear tu_ tok225_5; go_at_call 11; (with_reducible refine (Go.Proofs.YtpldpnkjmdlcdaaDoor.X.utf_Put.calls (rd y202 x26_2) t211 _ ?side1 A28.out).mono ?_); (case side1 => exact Glob.of_below hG (by repeat (first | (with_reducible first | exact HB.out | apply below_alloc | apply pw_below_drewN | apply below_drew1) | exact HB.out))); rintro e w44 ⟨rfl, hb⟩; have n0_ := Aside0.mk (Kd.R_below (by (with_reducible repeat (first | apply Kd.R_alloc | apply Kd.R_drewN | apply Kd.R_drew)); exact HO_24.out) hb); have n1_ := Aside0.mk (below_step (by repeat (first | (with_reducible first | exact HB.out | apply below_alloc | apply pw_below_drewN | apply below_drew1) | exact HB.out)) hb); clear HO_24; clear HB; have HO_24 := n0_; have HB := n1_; clear n0_ n1_; (try clear hb); (try clear hb2); (try clear hk); (try clear hi)) | (go_at_call 5; (with_reducible refine (hopscotchlaw01_UtfValid.calls k2 (t211 ++ (⟨#[237, 160, 128]⟩ : ByteArray)) false _ ?side1 A30.out).mono ?_); (case side1 => exact Glob.of_below hG (by repeat (first | (with_reducible first | exact HB.out | apply below_alloc | apply pw_below_drewN | apply below_drew1) | exact HB.out))); rintro e w45 ⟨rfl, hb⟩; have n0_ := Aside0.mk (Kd.R_below (by (with_reducible repeat (first | apply Kd.R_alloc | apply Kd.R_drewN | apply Kd.R_drew)); exact HO_24.out) hb); have n1_ := Aside0.mk (below_step (by repeat (first | (with_reducible first | exact HB.out | apply below_alloc | apply pw_below_drewN | apply below_drew1) | exact HB.out)) hb); clear HO_24; clear HB; have HO_24 := n0_; have HB := n1_; clear n0_ n1_; (try clear hb); (try clear hb2); (try clear hk); (try clear hi)))
                              go_ret
                              exact ⟨by first | rfl | (simp [errW_none, errW_some] <;> rfl) | (simp [*, errW_none, errW_some] <;> rfl), by repeat (first | (with_reducible first | exact HB.out | apply below_alloc | apply pw_below_drewN | apply below_drew1) | exact HB.out)⟩
                          · rw [if_neg c29] at H
                            exact absurd H (by simp)
                        · replace c27 := Bool.eq_false_iff.mpr c27
                          subst c27
                          have H1 : (some false) = some r := by rw [if_neg (show ¬ (false = true) by decide)] at H; exact H
                          clear H
                          have H := H1
                          clear H1
                          obtain rfl := Option.some.inj H
                          have p205 : 0 ≤ (x26_2 : Int) := of_decide_eq_true (by first | (with_reducible assumption) | assumption)
                          have q205 : x26_2 < (y202.length : Int) := of_decide_eq_true (by first | (with_reducible assumption) | assumption)
                          obtain ⟨ad205, e205, hx205_0⟩ := Kd.at_int (Kd.R_reads' HO_24.out).2.2 x26_2 p205 q205
                          cases e205
                          replace p205 := eq_true p205
                          replace q205 := eq_true q205
                          have tok246_2 : True := trivial
                          have tok246_3 : True := trivial
                          go_wp2_with (first | ((with_reducible refine gate_callee (f := 4) rfl ?_); refine goesL_ (some 31) rfl rfl Tryd.func4 (by kernel_rfl) rfl #[.int .i32 (rd y202 x26_2), .string (⟨#[128]⟩ : ByteArray)] rfl (by (try simp only [List.map_toArray, List.map_cons, List.map_nil]); first | done | rfl | (simp only [List.length_drop, List.length_take]; rfl)) ?_; (with_reducible refine (hopscotchlaw01_UtfPut.calls k2 (rd y202 x26_2) (⟨#[128]⟩ : ByteArray) true _ ?side1 A19.out).mono ?_); (case side1 => exact Glob.of_below hG (by repeat (first | (with_reducible first | exact HB.out | apply below_alloc | apply pw_below_drewN | apply below_drew1) | exact HB.out))); rintro e w46 ⟨rfl, hb⟩; refine ⟨_, rfl, ?_⟩; have n0_ := Aside0.mk (Kd.R_below (by (with_reducible repeat (first | apply Kd.R_alloc | apply Kd.R_drewN | apply Kd.R_drew)); exact HO_24.out) hb); have n1_ := Aside0.mk (below_step (by repeat (first | (with_reducible first | exact HB.out | apply below_alloc | apply pw_below_drewN | apply below_drew1) | exact HB.out)) hb); clear HO_24; clear HB; have HO_24 := n0_; have HB := n1_; clear n0_ n1_; (try clear hb); (try clear hb2); (try clear hk); (try clear hi)) | (go_at_call 4; (with_reducible refine (hopscotchlaw01_UtfPut.calls k2 (rd y202 x26_2) (⟨#[]⟩ : ByteArray) true _ ?side1 A21.out).mono ?_); (case side1 => exact Glob.of_below hG (by repeat (first | (with_reducible first | exact HB.out | apply below_alloc | apply pw_below_drewN | apply below_drew1) | exact HB.out))); rintro e w47 ⟨rfl, hb⟩; have n0_ := Aside0.mk (Kd.R_below (by (with_reducible repeat (first | apply Kd.R_alloc | apply Kd.R_drewN | apply Kd.R_drew)); exact HO_24.out) hb); have n1_ := Aside0.mk (below_step (by repeat (first | (with_reducible first | exact HB.out | apply below_alloc | apply pw_below_drewN | apply below_drew1) | exact HB.out)) hb); clear HO_24; clear HB; have HO_24 := n0_; have HB := n1_; clear n0_ n1_; (try clear hb); (try clear hb2); (try clear hk); (try clear hi)) | (have tu_ := tok246_2; clear tu_ tok246_2; go_at_call 11; (with_reducible refine (Go.Proofs.YtpldpnkjmdlcdaaDoor.X.utf_Put.calls (rd y202 x26_2) t208 _ ?side1 A23.out).mono ?_); (case side1 => exact Glob.of_below hG (by repeat (first | (with_reducible first | exact HB.out | apply below_alloc | apply pw_below_drewN | apply below_drew1) | exact HB.out))); rintro e w48 ⟨rfl, hb⟩; have n0_ := Aside0.mk (Kd.R_below (by (with_reducible repeat (first | apply Kd.R_alloc | apply Kd.R_drewN | apply Kd.R_drew)); exact HO_24.out) hb); have n1_ := Aside0.mk (below_step (by repeat (first | (with_reducible first | exact HB.out | apply below_alloc | apply pw_below_drewN | apply below_drew1) | exact HB.out)) hb); clear HO_24; clear HB; have HO_24 := n0_; have HB := n1_; clear n0_ n1_; (try clear hb); (try clear hb2); (try clear hk); (try clear hi)) | (have tu_ := tok246_3; clear tu_ tok246_3; go_at_call 11; (with_reducible refine (Go.Proofs.YtpldpnkjmdlcdaaDoor.X.utf_Put.calls (rd y202 x26_2) t209 _ ?side1 A25.out).mono ?_); (case side1 => exact Glob.of_below hG (by repeat (first | (with_reducible first | exact HB.out | apply below_alloc | apply pw_below_drewN | apply below_drew1) | exact HB.out))); rintro e w49 ⟨rfl, hb⟩; have n0_ := Aside0.mk (Kd.R_below (by (with_reducible repeat (first | apply Kd.R_alloc | apply Kd.R_drewN | apply Kd.R_drew)); exact HO_24.out) hb); have n1_ := Aside0.mk (below_step (by repeat (first | (with_reducible first | exact HB.out | apply below_alloc | apply pw_below_drewN | apply below_drew1) | exact HB.out)) hb); clear HO_24; clear HB; have HO_24 := n0_; have HB := n1_; clear n0_ n1_; (try clear hb); (try clear hb2); (try clear hk); (try clear hi)) | (go_at_call 6; (with_reducible refine (hopscotchlaw01_UtfPieces.calls k2 (t208 ++ (⟨#[97]⟩ : ByteArray)) t209 false _ ?side1 A26.out).mono ?_); (case side1 => exact Glob.of_below hG (by repeat (first | (with_reducible first | exact HB.out | apply below_alloc | apply pw_below_drewN | apply below_drew1) | exact HB.out))); rintro e w50 ⟨rfl, hb⟩; have n0_ := Aside0.mk (Kd.R_below (by (with_reducible repeat (first | apply Kd.R_alloc | apply Kd.R_drewN | apply Kd.R_drew)); exact HO_24.out) hb); have n1_ := Aside0.mk (below_step (by repeat (first | (with_reducible first | exact HB.out | apply below_alloc | apply pw_below_drewN | apply below_drew1) | exact HB.out)) hb); clear HO_24; clear HB; have HO_24 := n0_; have HB := n1_; clear n0_ n1_; (try clear hb); (try clear hb2); (try clear hk); (try clear hi)))
                          go_ret
                          exact ⟨by first | rfl | (simp [errW_none, errW_some] <;> rfl) | (simp [*, errW_none, errW_some] <;> rfl), by repeat (first | (with_reducible first | exact HB.out | apply below_alloc | apply pw_below_drewN | apply below_drew1) | exact HB.out)⟩
                      · rw [if_neg c24] at H
                        exact absurd H (by simp)
                    · replace c22 := Bool.eq_false_iff.mpr c22
                      subst c22
                      have H1 : (some false) = some r := by rw [if_neg (show ¬ (false = true) by decide)] at H; exact H
                      clear H
                      have H := H1
                      clear H1
                      obtain rfl := Option.some.inj H
                      have p205 : 0 ≤ (x26_2 : Int) := of_decide_eq_true (by first | (with_reducible assumption) | assumption)
                      have q205 : x26_2 < (y202.length : Int) := of_decide_eq_true (by first | (with_reducible assumption) | assumption)
                      obtain ⟨ad205, e205, hx205_0⟩ := Kd.at_int (Kd.R_reads' HO_24.out).2.2 x26_2 p205 q205
                      cases e205
                      replace p205 := eq_true p205
                      replace q205 := eq_true q205
                      go_wp2_with (first | ((with_reducible refine gate_callee (f := 4) rfl ?_); refine goesL_ (some 31) rfl rfl Tryd.func4 (by kernel_rfl) rfl #[.int .i32 (rd y202 x26_2), .string (⟨#[128]⟩ : ByteArray)] rfl (by (try simp only [List.map_toArray, List.map_cons, List.map_nil]); first | done | rfl | (simp only [List.length_drop, List.length_take]; rfl)) ?_; (with_reducible refine (hopscotchlaw01_UtfPut.calls k2 (rd y202 x26_2) (⟨#[128]⟩ : ByteArray) true _ ?side1 A19.out).mono ?_); (case side1 => exact Glob.of_below hG (by repeat (first | (with_reducible first | exact HB.out | apply below_alloc | apply pw_below_drewN | apply below_drew1) | exact HB.out))); rintro e w51 ⟨rfl, hb⟩; refine ⟨_, rfl, ?_⟩; have n0_ := Aside0.mk (Kd.R_below (by (with_reducible repeat (first | apply Kd.R_alloc | apply Kd.R_drewN | apply Kd.R_drew)); exact HO_24.out) hb); have n1_ := Aside0.mk (below_step (by repeat (first | (with_reducible first | exact HB.out | apply below_alloc | apply pw_below_drewN | apply below_drew1) | exact HB.out)) hb); clear HO_24; clear HB; have HO_24 := n0_; have HB := n1_; clear n0_ n1_; (try clear hb); (try clear hb2); (try clear hk); (try clear hi)) | (go_at_call 4; (with_reducible refine (hopscotchlaw01_UtfPut.calls k2 (rd y202 x26_2) (⟨#[]⟩ : ByteArray) false _ ?side1 A21.out).mono ?_); (case side1 => exact Glob.of_below hG (by repeat (first | (with_reducible first | exact HB.out | apply below_alloc | apply pw_below_drewN | apply below_drew1) | exact HB.out))); rintro e w52 ⟨rfl, hb⟩; have n0_ := Aside0.mk (Kd.R_below (by (with_reducible repeat (first | apply Kd.R_alloc | apply Kd.R_drewN | apply Kd.R_drew)); exact HO_24.out) hb); have n1_ := Aside0.mk (below_step (by repeat (first | (with_reducible first | exact HB.out | apply below_alloc | apply pw_below_drewN | apply below_drew1) | exact HB.out)) hb); clear HO_24; clear HB; have HO_24 := n0_; have HB := n1_; clear n0_ n1_; (try clear hb); (try clear hb2); (try clear hk); (try clear hi)))
                      go_ret
                      exact ⟨by first | rfl | (simp [errW_none, errW_some] <;> rfl) | (simp [*, errW_none, errW_some] <;> rfl), by repeat (first | (with_reducible first | exact HB.out | apply below_alloc | apply pw_below_drewN | apply below_drew1) | exact HB.out)⟩
                  · replace c20 := Bool.eq_false_iff.mpr c20
                    subst c20
                    have H1 : (some false) = some r := by rw [if_neg (show ¬ (false = true) by decide)] at H; exact H
                    clear H
                    have H := H1
                    clear H1
                    obtain rfl := Option.some.inj H
                    have p205 : 0 ≤ (x26_2 : Int) := of_decide_eq_true (by first | (with_reducible assumption) | assumption)
                    have q205 : x26_2 < (y202.length : Int) := of_decide_eq_true (by first | (with_reducible assumption) | assumption)
                    obtain ⟨ad205, e205, hx205_0⟩ := Kd.at_int (Kd.R_reads' HO_24.out).2.2 x26_2 p205 q205
                    cases e205
                    replace p205 := eq_true p205
                    replace q205 := eq_true q205
                    go_wp2_with (first | ((with_reducible refine gate_callee (f := 4) rfl ?_); refine goesL_ (some 31) rfl rfl Tryd.func4 (by kernel_rfl) rfl #[.int .i32 (rd y202 x26_2), .string (⟨#[128]⟩ : ByteArray)] rfl (by (try simp only [List.map_toArray, List.map_cons, List.map_nil]); first | done | rfl | (simp only [List.length_drop, List.length_take]; rfl)) ?_; (with_reducible refine (hopscotchlaw01_UtfPut.calls k2 (rd y202 x26_2) (⟨#[128]⟩ : ByteArray) false _ ?side1 A19.out).mono ?_); (case side1 => exact Glob.of_below hG (by repeat (first | (with_reducible first | exact HB.out | apply below_alloc | apply pw_below_drewN | apply below_drew1) | exact HB.out))); rintro e w53 ⟨rfl, hb⟩; refine ⟨_, rfl, ?_⟩; have n0_ := Aside0.mk (Kd.R_below (by (with_reducible repeat (first | apply Kd.R_alloc | apply Kd.R_drewN | apply Kd.R_drew)); exact HO_24.out) hb); have n1_ := Aside0.mk (below_step (by repeat (first | (with_reducible first | exact HB.out | apply below_alloc | apply pw_below_drewN | apply below_drew1) | exact HB.out)) hb); clear HO_24; clear HB; have HO_24 := n0_; have HB := n1_; clear n0_ n1_; (try clear hb); (try clear hb2); (try clear hk); (try clear hi)))
                    go_ret
                    exact ⟨by first | rfl | (simp [errW_none, errW_some] <;> rfl) | (simp [*, errW_none, errW_some] <;> rfl), by repeat (first | (with_reducible first | exact HB.out | apply below_alloc | apply pw_below_drewN | apply below_drew1) | exact HB.out)⟩
                · rw [if_neg c18] at H
                  exact absurd H (by simp)
              · rw [if_neg c17] at H
                exact absurd H (by simp)
            · rw [if_neg c16] at H
              have c16b0 : decide (x26_2 < (y202.length : Int)) = false := decide_eq_false c16
              clear c16
              replace H := Option.bind_eq_some_iff.mp H
              obtain ⟨t213, A540, H⟩ := H
              replace H : (if t213 = true then ((hopscotchlaw01_UtfNext.f k2 (⟨#[]⟩ : ByteArray)).bind fun t214 => (if t214 = true then ((hopscotchlaw01_UtfPieces.f k2 (⟨#[240, 144, 128]⟩ : ByteArray) (⟨#[97]⟩ : ByteArray)).bind fun t215 => (if t215 = true then ((hopscotchlaw01_works.f).bind fun t216 => (some t216)) else (some false))) else (some false))) else (some false)) = some r := H
              have A54 := Aside0.mk A540
              clear A540
              by_cases c55 : t213 = true
              · subst c55
                have H1 : ((hopscotchlaw01_UtfNext.f k2 (⟨#[]⟩ : ByteArray)).bind fun t214 => (if t214 = true then ((hopscotchlaw01_UtfPieces.f k2 (⟨#[240, 144, 128]⟩ : ByteArray) (⟨#[97]⟩ : ByteArray)).bind fun t215 => (if t215 = true then ((hopscotchlaw01_works.f).bind fun t216 => (some t216)) else (some false))) else (some false))) = some r := by rw [if_pos rfl] at H; exact H
                clear H
                have H := H1
                clear H1
                replace H := Option.bind_eq_some_iff.mp H
                obtain ⟨t214, A560, H⟩ := H
                replace H : (if t214 = true then ((hopscotchlaw01_UtfPieces.f k2 (⟨#[240, 144, 128]⟩ : ByteArray) (⟨#[97]⟩ : ByteArray)).bind fun t215 => (if t215 = true then ((hopscotchlaw01_works.f).bind fun t216 => (some t216)) else (some false))) else (some false)) = some r := H
                have A56 := Aside0.mk A560
                clear A560
                by_cases c57 : t214 = true
                · subst c57
                  have H1 : ((hopscotchlaw01_UtfPieces.f k2 (⟨#[240, 144, 128]⟩ : ByteArray) (⟨#[97]⟩ : ByteArray)).bind fun t215 => (if t215 = true then ((hopscotchlaw01_works.f).bind fun t216 => (some t216)) else (some false))) = some r := by rw [if_pos rfl] at H; exact H
                  clear H
                  have H := H1
                  clear H1
                  replace H := Option.bind_eq_some_iff.mp H
                  obtain ⟨t215, A580, H⟩ := H
                  replace H : (if t215 = true then ((hopscotchlaw01_works.f).bind fun t216 => (some t216)) else (some false)) = some r := H
                  have A58 := Aside0.mk A580
                  clear A580
                  by_cases c59 : t215 = true
                  · subst c59
                    have H1 : ((hopscotchlaw01_works.f).bind fun t216 => (some t216)) = some r := by rw [if_pos rfl] at H; exact H
                    clear H
                    have H := H1
                    clear H1
                    replace H := Option.bind_eq_some_iff.mp H
                    obtain ⟨t216, A600, H⟩ := H
                    replace H : (some t216) = some r := H
                    have A60 := Aside0.mk A600
                    clear A600
                    obtain rfl := Option.some.inj H
                    go_wp2_with (first | ((with_reducible refine gate_callee (f := 5) rfl ?_); refine goesL_ (some 55) rfl rfl Tryd.func5 (by kernel_rfl) rfl #[.string (⟨#[]⟩ : ByteArray)] rfl (by (try simp only [List.map_toArray, List.map_cons, List.map_nil]); first | done | rfl | (simp only [List.length_drop, List.length_take]; rfl)) ?_; (with_reducible refine (hopscotchlaw01_UtfValid.calls k2 (⟨#[]⟩ : ByteArray) true _ ?side1 A54.out).mono ?_); (case side1 => exact Glob.of_below hG (by repeat (first | (with_reducible first | exact HB.out | apply below_alloc | apply pw_below_drewN | apply below_drew1) | exact HB.out))); rintro e w61 ⟨rfl, hb⟩; refine ⟨_, rfl, ?_⟩; have n0_ := Aside0.mk (Kd.R_below (by (with_reducible repeat (first | apply Kd.R_alloc | apply Kd.R_drewN | apply Kd.R_drew)); exact HO_24.out) hb); have n1_ := Aside0.mk (below_step (by repeat (first | (with_reducible first | exact HB.out | apply below_alloc | apply pw_below_drewN | apply below_drew1) | exact HB.out)) hb); clear HO_24; clear HB; have HO_24 := n0_; have HB := n1_; clear n0_ n1_; (try clear hb); (try clear hb2); (try clear hk); (try clear hi)) | (go_at_call 3; (with_reducible refine (hopscotchlaw01_UtfNext.calls k2 (⟨#[]⟩ : ByteArray) true _ ?side1 A56.out).mono ?_); (case side1 => exact Glob.of_below hG (by repeat (first | (with_reducible first | exact HB.out | apply below_alloc | apply pw_below_drewN | apply below_drew1) | exact HB.out))); rintro e w62 ⟨rfl, hb⟩; have n0_ := Aside0.mk (Kd.R_below (by (with_reducible repeat (first | apply Kd.R_alloc | apply Kd.R_drewN | apply Kd.R_drew)); exact HO_24.out) hb); have n1_ := Aside0.mk (below_step (by repeat (first | (with_reducible first | exact HB.out | apply below_alloc | apply pw_below_drewN | apply below_drew1) | exact HB.out)) hb); clear HO_24; clear HB; have HO_24 := n0_; have HB := n1_; clear n0_ n1_; (try clear hb); (try clear hb2); (try clear hk); (try clear hi)) | (go_at_call 6; (with_reducible refine (hopscotchlaw01_UtfPieces.calls k2 (⟨#[240, 144, 128]⟩ : ByteArray) (⟨#[97]⟩ : ByteArray) true _ ?side1 A58.out).mono ?_); (case side1 => exact Glob.of_below hG (by repeat (first | (with_reducible first | exact HB.out | apply below_alloc | apply pw_below_drewN | apply below_drew1) | exact HB.out))); rintro e w63 ⟨rfl, hb⟩; have n0_ := Aside0.mk (Kd.R_below (by (with_reducible repeat (first | apply Kd.R_alloc | apply Kd.R_drewN | apply Kd.R_drew)); exact HO_24.out) hb); have n1_ := Aside0.mk (below_step (by repeat (first | (with_reducible first | exact HB.out | apply below_alloc | apply pw_below_drewN | apply below_drew1) | exact HB.out)) hb); clear HO_24; clear HB; have HO_24 := n0_; have HB := n1_; clear n0_ n1_; (try clear hb); (try clear hb2); (try clear hk); (try clear hi)) | (go_at_call 8; (with_reducible refine (hopscotchlaw01_works.calls  t216 _ ?side1 A60.out).mono ?_); (case side1 => exact Glob.of_below hG (by repeat (first | (with_reducible first | exact HB.out | apply below_alloc | apply pw_below_drewN | apply below_drew1) | exact HB.out))); rintro e w64 ⟨rfl, hb⟩; have n0_ := Aside0.mk (Kd.R_below (by (with_reducible repeat (first | apply Kd.R_alloc | apply Kd.R_drewN | apply Kd.R_drew)); exact HO_24.out) hb); have n1_ := Aside0.mk (below_step (by repeat (first | (with_reducible first | exact HB.out | apply below_alloc | apply pw_below_drewN | apply below_drew1) | exact HB.out)) hb); clear HO_24; clear HB; have HO_24 := n0_; have HB := n1_; clear n0_ n1_; (try clear hb); (try clear hb2); (try clear hk); (try clear hi)))
                    go_ret
                    exact ⟨by first | rfl | (simp [errW_none, errW_some] <;> rfl) | (simp [*, errW_none, errW_some] <;> rfl), by repeat (first | (with_reducible first | exact HB.out | apply below_alloc | apply pw_below_drewN | apply below_drew1) | exact HB.out)⟩
                  · replace c59 := Bool.eq_false_iff.mpr c59
                    subst c59
                    have H1 : (some false) = some r := by rw [if_neg (show ¬ (false = true) by decide)] at H; exact H
                    clear H
                    have H := H1
                    clear H1
                    obtain rfl := Option.some.inj H
                    go_wp2_with (first | ((with_reducible refine gate_callee (f := 5) rfl ?_); refine goesL_ (some 55) rfl rfl Tryd.func5 (by kernel_rfl) rfl #[.string (⟨#[]⟩ : ByteArray)] rfl (by (try simp only [List.map_toArray, List.map_cons, List.map_nil]); first | done | rfl | (simp only [List.length_drop, List.length_take]; rfl)) ?_; (with_reducible refine (hopscotchlaw01_UtfValid.calls k2 (⟨#[]⟩ : ByteArray) true _ ?side1 A54.out).mono ?_); (case side1 => exact Glob.of_below hG (by repeat (first | (with_reducible first | exact HB.out | apply below_alloc | apply pw_below_drewN | apply below_drew1) | exact HB.out))); rintro e w65 ⟨rfl, hb⟩; refine ⟨_, rfl, ?_⟩; have n0_ := Aside0.mk (Kd.R_below (by (with_reducible repeat (first | apply Kd.R_alloc | apply Kd.R_drewN | apply Kd.R_drew)); exact HO_24.out) hb); have n1_ := Aside0.mk (below_step (by repeat (first | (with_reducible first | exact HB.out | apply below_alloc | apply pw_below_drewN | apply below_drew1) | exact HB.out)) hb); clear HO_24; clear HB; have HO_24 := n0_; have HB := n1_; clear n0_ n1_; (try clear hb); (try clear hb2); (try clear hk); (try clear hi)) | (go_at_call 3; (with_reducible refine (hopscotchlaw01_UtfNext.calls k2 (⟨#[]⟩ : ByteArray) true _ ?side1 A56.out).mono ?_); (case side1 => exact Glob.of_below hG (by repeat (first | (with_reducible first | exact HB.out | apply below_alloc | apply pw_below_drewN | apply below_drew1) | exact HB.out))); rintro e w66 ⟨rfl, hb⟩; have n0_ := Aside0.mk (Kd.R_below (by (with_reducible repeat (first | apply Kd.R_alloc | apply Kd.R_drewN | apply Kd.R_drew)); exact HO_24.out) hb); have n1_ := Aside0.mk (below_step (by repeat (first | (with_reducible first | exact HB.out | apply below_alloc | apply pw_below_drewN | apply below_drew1) | exact HB.out)) hb); clear HO_24; clear HB; have HO_24 := n0_; have HB := n1_; clear n0_ n1_; (try clear hb); (try clear hb2); (try clear hk); (try clear hi)) | (go_at_call 6; (with_reducible refine (hopscotchlaw01_UtfPieces.calls k2 (⟨#[240, 144, 128]⟩ : ByteArray) (⟨#[97]⟩ : ByteArray) false _ ?side1 A58.out).mono ?_); (case side1 => exact Glob.of_below hG (by repeat (first | (with_reducible first | exact HB.out | apply below_alloc | apply pw_below_drewN | apply below_drew1) | exact HB.out))); rintro e w67 ⟨rfl, hb⟩; have n0_ := Aside0.mk (Kd.R_below (by (with_reducible repeat (first | apply Kd.R_alloc | apply Kd.R_drewN | apply Kd.R_drew)); exact HO_24.out) hb); have n1_ := Aside0.mk (below_step (by repeat (first | (with_reducible first | exact HB.out | apply below_alloc | apply pw_below_drewN | apply below_drew1) | exact HB.out)) hb); clear HO_24; clear HB; have HO_24 := n0_; have HB := n1_; clear n0_ n1_; (try clear hb); (try clear hb2); (try clear hk); (try clear hi)))
                    go_ret
                    exact ⟨by first | rfl | (simp [errW_none, errW_some] <;> rfl) | (simp [*, errW_none, errW_some] <;> rfl), by repeat (first | (with_reducible first | exact HB.out | apply below_alloc | apply pw_below_drewN | apply below_drew1) | exact HB.out)⟩
                · replace c57 := Bool.eq_false_iff.mpr c57
                  subst c57
                  have H1 : (some false) = some r := by rw [if_neg (show ¬ (false = true) by decide)] at H; exact H
                  clear H
                  have H := H1
                  clear H1
                  obtain rfl := Option.some.inj H
                  go_wp2_with (first | ((with_reducible refine gate_callee (f := 5) rfl ?_); refine goesL_ (some 55) rfl rfl Tryd.func5 (by kernel_rfl) rfl #[.string (⟨#[]⟩ : ByteArray)] rfl (by (try simp only [List.map_toArray, List.map_cons, List.map_nil]); first | done | rfl | (simp only [List.length_drop, List.length_take]; rfl)) ?_; (with_reducible refine (hopscotchlaw01_UtfValid.calls k2 (⟨#[]⟩ : ByteArray) true _ ?side1 A54.out).mono ?_); (case side1 => exact Glob.of_below hG (by repeat (first | (with_reducible first | exact HB.out | apply below_alloc | apply pw_below_drewN | apply below_drew1) | exact HB.out))); rintro e w68 ⟨rfl, hb⟩; refine ⟨_, rfl, ?_⟩; have n0_ := Aside0.mk (Kd.R_below (by (with_reducible repeat (first | apply Kd.R_alloc | apply Kd.R_drewN | apply Kd.R_drew)); exact HO_24.out) hb); have n1_ := Aside0.mk (below_step (by repeat (first | (with_reducible first | exact HB.out | apply below_alloc | apply pw_below_drewN | apply below_drew1) | exact HB.out)) hb); clear HO_24; clear HB; have HO_24 := n0_; have HB := n1_; clear n0_ n1_; (try clear hb); (try clear hb2); (try clear hk); (try clear hi)) | (go_at_call 3; (with_reducible refine (hopscotchlaw01_UtfNext.calls k2 (⟨#[]⟩ : ByteArray) false _ ?side1 A56.out).mono ?_); (case side1 => exact Glob.of_below hG (by repeat (first | (with_reducible first | exact HB.out | apply below_alloc | apply pw_below_drewN | apply below_drew1) | exact HB.out))); rintro e w69 ⟨rfl, hb⟩; have n0_ := Aside0.mk (Kd.R_below (by (with_reducible repeat (first | apply Kd.R_alloc | apply Kd.R_drewN | apply Kd.R_drew)); exact HO_24.out) hb); have n1_ := Aside0.mk (below_step (by repeat (first | (with_reducible first | exact HB.out | apply below_alloc | apply pw_below_drewN | apply below_drew1) | exact HB.out)) hb); clear HO_24; clear HB; have HO_24 := n0_; have HB := n1_; clear n0_ n1_; (try clear hb); (try clear hb2); (try clear hk); (try clear hi)))
                  go_ret
                  exact ⟨by first | rfl | (simp [errW_none, errW_some] <;> rfl) | (simp [*, errW_none, errW_some] <;> rfl), by repeat (first | (with_reducible first | exact HB.out | apply below_alloc | apply pw_below_drewN | apply below_drew1) | exact HB.out)⟩
              · replace c55 := Bool.eq_false_iff.mpr c55
                subst c55
                have H1 : (some false) = some r := by rw [if_neg (show ¬ (false = true) by decide)] at H; exact H
                clear H
                have H := H1
                clear H1
                obtain rfl := Option.some.inj H
                go_wp2_with (first | ((with_reducible refine gate_callee (f := 5) rfl ?_); refine goesL_ (some 55) rfl rfl Tryd.func5 (by kernel_rfl) rfl #[.string (⟨#[]⟩ : ByteArray)] rfl (by (try simp only [List.map_toArray, List.map_cons, List.map_nil]); first | done | rfl | (simp only [List.length_drop, List.length_take]; rfl)) ?_; (with_reducible refine (hopscotchlaw01_UtfValid.calls k2 (⟨#[]⟩ : ByteArray) false _ ?side1 A54.out).mono ?_); (case side1 => exact Glob.of_below hG (by repeat (first | (with_reducible first | exact HB.out | apply below_alloc | apply pw_below_drewN | apply below_drew1) | exact HB.out))); rintro e w70 ⟨rfl, hb⟩; refine ⟨_, rfl, ?_⟩; have n0_ := Aside0.mk (Kd.R_below (by (with_reducible repeat (first | apply Kd.R_alloc | apply Kd.R_drewN | apply Kd.R_drew)); exact HO_24.out) hb); have n1_ := Aside0.mk (below_step (by repeat (first | (with_reducible first | exact HB.out | apply below_alloc | apply pw_below_drewN | apply below_drew1) | exact HB.out)) hb); clear HO_24; clear HB; have HO_24 := n0_; have HB := n1_; clear n0_ n1_; (try clear hb); (try clear hb2); (try clear hk); (try clear hi)))
                go_ret
                exact ⟨by first | rfl | (simp [errW_none, errW_some] <;> rfl) | (simp [*, errW_none, errW_some] <;> rfl), by repeat (first | (with_reducible first | exact HB.out | apply below_alloc | apply pw_below_drewN | apply below_drew1) | exact HB.out)⟩

end Go.Proofs.YtpldpnkjmdlcdaaDoor.PU
