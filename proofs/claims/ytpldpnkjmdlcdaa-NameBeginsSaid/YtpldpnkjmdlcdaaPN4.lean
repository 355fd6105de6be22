/- Contracts of the functions that the statement reaches, each with the plain function that it computes, written by a program out of the translation: whatever Lean takes of it stands proved. -/
import Derived.Test.YtpldpnkjmdlcdaaPN0
import Derived.Test.YtpldpnkjmdlcdaaPN2
import Derived.Test.YtpldpnkjmdlcdaaPN3
namespace Go.Proofs.Ytpldpnkjmdlcdaa.PN
open Go.RowKit Go.Proofs.YtpldpnkjmdlcdaaW.PrintWords Go.Proofs.YtpldpnkjmdlcdaaW.PrintLast Go.Proofs.YtpldpnkjmdlcdaaW.PrintMore
attribute [local go_sem] max2_int min2_int max_two min_two max_three min_three max_four min_four   -- for this text's walks alone
set_option linter.unusedVariables false
set_option linter.unusedSimpArgs false

/-! ### hopscotchlaw02_NameKnown: function 6 -/
mutual
def hopscotchlaw02_NameKnown.l0 : Nat → Int → Option (Bool)
  | 0, _ => none
  | k + 1, x1 => if x1 < 256 then ((some (([(x1) % 256] : List Int) : List Int)).bind fun y179 => (if (strOfNums y179).size + 1 ≤ 9223372036854775807 then (if 1 + (strOfNums y179).size ≤ 9223372036854775807 then (if ((⟨#[97]⟩ : ByteArray) ++ (strOfNums y179)).size + 1 ≤ 9223372036854775807 then (if 2 + (strOfNums y179).size ≤ 9223372036854775807 then (if (strOfNums y179).size + 2 ≤ 9223372036854775807 then (if 3 + (strOfNums y179).size ≤ 9223372036854775807 then (if ((⟨#[97, 58, 98]⟩ : ByteArray) ++ (strOfNums y179)).size + 1 ≤ 9223372036854775807 then (if (strOfNums y179).size + (strOfNums y179).size ≤ 9223372036854775807 then ((some (([strOfNums y179, (strOfNums y179) ++ (⟨#[97]⟩ : ByteArray), (⟨#[97]⟩ : ByteArray) ++ (strOfNums y179), ((⟨#[97]⟩ : ByteArray) ++ (strOfNums y179)) ++ (⟨#[98]⟩ : ByteArray), (⟨#[97, 58]⟩ : ByteArray) ++ (strOfNums y179), (strOfNums y179) ++ (⟨#[58, 97]⟩ : ByteArray), (⟨#[97, 58, 98]⟩ : ByteArray) ++ (strOfNums y179), ((⟨#[97, 58, 98]⟩ : ByteArray) ++ (strOfNums y179)) ++ (⟨#[99]⟩ : ByteArray), (strOfNums y179) ++ (strOfNums y179)] : List ByteArray) : List ByteArray)).bind fun y182 => (hopscotchlaw02_NameKnown.l1 k x1 y182 (y182.length : Int) 0)) else (none)) else (none)) else (none)) else (none)) else (none)) else (none)) else (none)) else (none))) else (hopscotchlaw02_NameKnown.l2 k (⟨#[]⟩ : ByteArray) 0)
def hopscotchlaw02_NameKnown.l1 : Nat → Int → List ByteArray → Int → Int → Option (Bool)
  | 0, _, _, _, _ => none
  | k + 1, x1, x35, x36, x37 => if x37 < x36 then (if 0 ≤ x37 then (if x37 < (x35.length : Int) then ((hopscotchlaw02_NameSplits.f k (rdOf ByteArray.empty x35 x37)).bind fun t186 => (if t186 = true then ((hopscotchlaw02_NameBegins.f k (rdOf ByteArray.empty x35 x37)).bind fun t187 => (if t187 = true then ((hopscotchlaw02_NameBack.f k (rdOf ByteArray.empty x35 x37) (⟨#[122]⟩ : ByteArray) ((x1) % 256)).bind fun t188 => (if t188 = true then ((hopscotchlaw02_NameBack.f k (⟨#[120, 109, 105, 58, 105, 100]⟩ : ByteArray) (rdOf ByteArray.empty x35 x37) ((x1) % 256)).bind fun t189 => (if t189 = true then (hopscotchlaw02_NameKnown.l1 k x1 x35 x36 (wrap64 (x37 + 1))) else (some false))) else (some false))) else (some false))) else (some false))) else (none)) else (none)) else (hopscotchlaw02_NameKnown.l0 k (wrap64 (x1 + 1)))
def hopscotchlaw02_NameKnown.l2 : Nat → ByteArray → Int → Option (Bool)
  | 0, _, _ => none
  | k + 1, x5, x6 => if x6 < 70 then ((hopscotchlaw02_NameSplits.f k x5).bind fun t191 => (if t191 = true then (if 2 + x5.size ≤ 9223372036854775807 then ((hopscotchlaw02_NameSplits.f k ((⟨#[97, 58]⟩ : ByteArray) ++ x5)).bind fun t192 => (if t192 = true then (if x5.size + 2 ≤ 9223372036854775807 then ((hopscotchlaw02_NameSplits.f k (x5 ++ (⟨#[58, 98]⟩ : ByteArray))).bind fun t193 => (if t193 = true then ((hopscotchlaw02_NameBegins.f k x5).bind fun t194 => (if t194 = true then (if x5.size + 4 ≤ 9223372036854775807 then ((hopscotchlaw02_NameBegins.f k (x5 ++ (⟨#[58, 98, 58, 99]⟩ : ByteArray))).bind fun t195 => (if t195 = true then ((hopscotchlaw02_NameBack.f k x5 (⟨#[97, 98]⟩ : ByteArray) 32).bind fun t196 => (if t196 = true then ((hopscotchlaw02_NameBack.f k x5 x5 61).bind fun t197 => (if t197 = true then (if x5.size + 1 ≤ 9223372036854775807 then (hopscotchlaw02_NameKnown.l2 k (x5 ++ (⟨#[120]⟩ : ByteArray)) (wrap64 (x6 + 1))) else (none)) else (some false))) else (some false))) else (some false))) else (none)) else (some false))) else (some false))) else (none)) else (some false))) else (none)) else (some false))) else ((hopscotchlaw02_works.f k).bind fun t190 => (some t190))
end
def hopscotchlaw02_NameKnown.f (k : Nat)  : Option (Bool) := hopscotchlaw02_NameKnown.l0 k 0
theorem hopscotchlaw02_NameKnown.mono_l : ∀ k, (∀ y0, LeO (hopscotchlaw02_NameKnown.l0 k y0) (hopscotchlaw02_NameKnown.l0 (k + 1) y0)) ∧ (∀ y0 y1 y2 y3, LeO (hopscotchlaw02_NameKnown.l1 k y0 y1 y2 y3) (hopscotchlaw02_NameKnown.l1 (k + 1) y0 y1 y2 y3)) ∧ (∀ y0 y1, LeO (hopscotchlaw02_NameKnown.l2 k y0 y1) (hopscotchlaw02_NameKnown.l2 (k + 1) y0 y1))
  | 0 => ⟨fun _ r h => by simp [hopscotchlaw02_NameKnown.l0] at h, fun _ _ _ _ r h => by simp [hopscotchlaw02_NameKnown.l1] at h, fun _ _ r h => by simp [hopscotchlaw02_NameKnown.l2] at h⟩
  | k + 1 => by
    obtain ⟨ih0, ih1, ih2⟩ := hopscotchlaw02_NameKnown.mono_l k
    refine ⟨?_, ?_, ?_⟩
    · intro y0
      unfold hopscotchlaw02_NameKnown.l0
      repeat' first
      | (with_reducible exact ih0 _)
      | (with_reducible exact ih1 _ _ _ _)
      | (with_reducible exact ih2 _ _)
      | (with_reducible exact hopscotchlaw02_NameBack.mono _ _ _ _)
      | (with_reducible exact hopscotchlaw02_NameBegins.mono _ _)
      | (with_reducible exact hopscotchlaw02_NameSplits.mono _ _)
      | (with_reducible exact hopscotchlaw02_works.mono _)
      | (with_reducible exact LeO.refl _)
      | (with_reducible exact LeO.none _)
      | (with_reducible refine LeO.ite ?_ ?_)
      | (with_reducible refine LeO.bind ?_ (fun _ => ?_))
      | exact ih0 _
      | exact ih1 _ _ _ _
      | exact ih2 _ _
      | exact hopscotchlaw02_NameBack.mono _ _ _ _
      | exact hopscotchlaw02_NameBegins.mono _ _
      | exact hopscotchlaw02_NameSplits.mono _ _
      | exact hopscotchlaw02_works.mono _
      | exact LeO.none _
      | refine LeO.ite ?_ ?_
      | refine LeO.bind ?_ (fun _ => ?_)
    · intro y0 y1 y2 y3
      unfold hopscotchlaw02_NameKnown.l1
      repeat' first
      | (with_reducible exact ih0 _)
      | (with_reducible exact ih1 _ _ _ _)
      | (with_reducible exact ih2 _ _)
      | (with_reducible exact hopscotchlaw02_NameBack.mono _ _ _ _)
      | (with_reducible exact hopscotchlaw02_NameBegins.mono _ _)
      | (with_reducible exact hopscotchlaw02_NameSplits.mono _ _)
      | (with_reducible exact hopscotchlaw02_works.mono _)
      | (with_reducible exact LeO.refl _)
      | (with_reducible exact LeO.none _)
      | (with_reducible refine LeO.ite ?_ ?_)
      | (with_reducible refine LeO.bind ?_ (fun _ => ?_))
      | exact ih0 _
      | exact ih1 _ _ _ _
      | exact ih2 _ _
      | exact hopscotchlaw02_NameBack.mono _ _ _ _
      | exact hopscotchlaw02_NameBegins.mono _ _
      | exact hopscotchlaw02_NameSplits.mono _ _
      | exact hopscotchlaw02_works.mono _
      | exact LeO.none _
      | refine LeO.ite ?_ ?_
      | refine LeO.bind ?_ (fun _ => ?_)
    · intro y0 y1
      unfold hopscotchlaw02_NameKnown.l2
      repeat' first
      | (with_reducible exact ih0 _)
      | (with_reducible exact ih1 _ _ _ _)
      | (with_reducible exact ih2 _ _)
      | (with_reducible exact hopscotchlaw02_NameBack.mono _ _ _ _)
      | (with_reducible exact hopscotchlaw02_NameBegins.mono _ _)
      | (with_reducible exact hopscotchlaw02_NameSplits.mono _ _)
      | (with_reducible exact hopscotchlaw02_works.mono _)
      | (with_reducible exact LeO.refl _)
      | (with_reducible exact LeO.none _)
      | (with_reducible refine LeO.ite ?_ ?_)
      | (with_reducible refine LeO.bind ?_ (fun _ => ?_))
      | exact ih0 _
      | exact ih1 _ _ _ _
      | exact ih2 _ _
      | exact hopscotchlaw02_NameBack.mono _ _ _ _
      | exact hopscotchlaw02_NameBegins.mono _ _
      | exact hopscotchlaw02_NameSplits.mono _ _
      | exact hopscotchlaw02_works.mono _
      | exact LeO.none _
      | refine LeO.ite ?_ ?_
      | refine LeO.bind ?_ (fun _ => ?_)
theorem hopscotchlaw02_NameKnown.mono : ∀ k, LeO (hopscotchlaw02_NameKnown.f k ) (hopscotchlaw02_NameKnown.f (k + 1) ) := by
  intro  k
  obtain ⟨ih0, ih1, ih2⟩ := hopscotchlaw02_NameKnown.mono_l k
  unfold hopscotchlaw02_NameKnown.f
  repeat' first
      | (with_reducible exact ih0 _)
      | (with_reducible exact ih1 _ _ _ _)
      | (with_reducible exact ih2 _ _)
      | (with_reducible exact hopscotchlaw02_NameBack.mono _ _ _ _)
      | (with_reducible exact hopscotchlaw02_NameBegins.mono _ _)
      | (with_reducible exact hopscotchlaw02_NameSplits.mono _ _)
      | (with_reducible exact hopscotchlaw02_works.mono _)
      | (with_reducible exact LeO.refl _)
      | (with_reducible exact LeO.none _)
      | (with_reducible refine LeO.ite ?_ ?_)
      | (with_reducible refine LeO.bind ?_ (fun _ => ?_))
      | exact ih0 _
      | exact ih1 _ _ _ _
      | exact ih2 _ _
      | exact hopscotchlaw02_NameBack.mono _ _ _ _
      | exact hopscotchlaw02_NameBegins.mono _ _
      | exact hopscotchlaw02_NameSplits.mono _ _
      | exact hopscotchlaw02_works.mono _
      | exact LeO.none _
      | refine LeO.ite ?_ ?_
      | refine LeO.bind ?_ (fun _ => ?_)
set_option maxHeartbeats 8000000 in
set_option maxRecDepth 100000 in
theorem hopscotchlaw02_NameKnown.calls (k : Nat)  (r : Bool) (w : World) (h : hopscotchlaw02_NameKnown.f k  = some r) :
    Calls Try.prog 6 #[] w fun e w' => e = .returned (.bool r) ∧ Below w.heap.size w w' := by
  have HB := Aside0.mk (Below.refl w.heap.size w)
  have H : (hopscotchlaw02_NameKnown.l0 k 0) = some r := h
  clear h
  have H' := Aside0.mk H
  clear H
  go_enter Try.func6, Try.ntmps6
  go_wp2
  go_loopg [1] k (fun kq v1 w' => ∃ (x1_1 : Int), v1 = .int .i64 x1_1 ∧ Aside0 (hopscotchlaw02_NameKnown.l0 kq x1_1 = some r) ∧ Aside0 (kq ≤ k) ∧ Aside0 (Below w.heap.size w w'))
  case atStart => exact ⟨(0), (by first | rfl | (simp; done) | (simp [*]; done) | (simp [bne, show ∀ l_ : List UInt8, (l_ == []) = l_.isEmpty from fun l_ => by cases l_ <;> rfl]; done)), H', ⟨Nat.le_refl _⟩, ⟨by repeat (first | (with_reducible first | exact HB.out | apply below_alloc | apply pw_below_drewN | apply below_drew1) | exact HB.out)⟩⟩
  case round =>
    clear H'
    obtain ⟨x1_1, rfl, HA, HK1, HB⟩ := hrel
    cases gk with
    | zero => exact absurd HA.out (by simp [hopscotchlaw02_NameKnown.l0])
    | succ k1 =>
      have H := HA.out
      clear HA
      simp only [hopscotchlaw02_NameKnown.l0] at H
      by_cases c1 : x1_1 < 256
      · rw [if_pos c1] at H
        have c1b0 : decide (x1_1 < 256) = true := decide_eq_true c1
        clear c1
        obtain ⟨y179, hy179⟩ : ∃ y_ : List Int, y_ = (([(x1_1) % 256] : List Int)) := ⟨_, rfl⟩
        replace H : (if (strOfNums y179).size + 1 ≤ 9223372036854775807 then (if 1 + (strOfNums y179).size ≤ 9223372036854775807 then (if ((⟨#[97]⟩ : ByteArray) ++ (strOfNums y179)).size + 1 ≤ 9223372036854775807 then (if 2 + (strOfNums y179).size ≤ 9223372036854775807 then (if (strOfNums y179).size + 2 ≤ 9223372036854775807 then (if 3 + (strOfNums y179).size ≤ 9223372036854775807 then (if ((⟨#[97, 58, 98]⟩ : ByteArray) ++ (strOfNums y179)).size + 1 ≤ 9223372036854775807 then (if (strOfNums y179).size + (strOfNums y179).size ≤ 9223372036854775807 then ((some (([strOfNums y179, (strOfNums y179) ++ (⟨#[97]⟩ : ByteArray), (⟨#[97]⟩ : ByteArray) ++ (strOfNums y179), ((⟨#[97]⟩ : ByteArray) ++ (strOfNums y179)) ++ (⟨#[98]⟩ : ByteArray), (⟨#[97, 58]⟩ : ByteArray) ++ (strOfNums y179), (strOfNums y179) ++ (⟨#[58, 97]⟩ : ByteArray), (⟨#[97, 58, 98]⟩ : ByteArray) ++ (strOfNums y179), ((⟨#[97, 58, 98]⟩ : ByteArray) ++ (strOfNums y179)) ++ (⟨#[99]⟩ : ByteArray), (strOfNums y179) ++ (strOfNums y179)] : List ByteArray) : List ByteArray)).bind fun y182 => (hopscotchlaw02_NameKnown.l1 k1 x1_1 y182 (y182.length : Int) 0)) else (none)) else (none)) else (none)) else (none)) else (none)) else (none)) else (none)) else (none)) = some r := by first | (rw [hy179]; with_reducible exact H) | (have H2_ := (Option.bind_some _ _).symm.trans H; rw [hy179]; with_reducible exact H2_) | (have H2_ := (Option.bind_some _ _).symm.trans H; with_reducible exact H2_) | with_reducible exact H | (rw [hy179]; exact H) | exact H
        have Ny179 := Aside0.mk hy179
        clear hy179
        by_cases c2 : (strOfNums y179).size + 1 ≤ 9223372036854775807
        · rw [if_pos c2] at H
          have c2b0 := eq_true c2
          have c2b1 : decide ((strOfNums y179).size + 1 ≤ 9223372036854775807) = true := decide_eq_true c2
          try have c2b2 : (9223372036854775807 < (strOfNums y179).size + 1) = False := eq_false (Nat.not_lt.2 c2)
          by_cases c3 : 1 + (strOfNums y179).size ≤ 9223372036854775807
          · rw [if_pos c3] at H
            have c3b0 := eq_true c3
            have c3b1 : decide (1 + (strOfNums y179).size ≤ 9223372036854775807) = true := decide_eq_true c3
            try have c3b2 : (9223372036854775807 < 1 + (strOfNums y179).size) = False := eq_false (Nat.not_lt.2 c3)
            by_cases c4 : ((⟨#[97]⟩ : ByteArray) ++ (strOfNums y179)).size + 1 ≤ 9223372036854775807
            · rw [if_pos c4] at H
              have c4b0 := eq_true c4
              have c4b1 : decide (((⟨#[97]⟩ : ByteArray) ++ (strOfNums y179)).size + 1 ≤ 9223372036854775807) = true := decide_eq_true c4
              try have c4b2 : (9223372036854775807 < ((⟨#[97]⟩ : ByteArray) ++ (strOfNums y179)).size + 1) = False := eq_false (Nat.not_lt.2 c4)
              by_cases c5 : 2 + (strOfNums y179).size ≤ 9223372036854775807
              · rw [if_pos c5] at H
                have c5b0 := eq_true c5
                have c5b1 : decide (2 + (strOfNums y179).size ≤ 9223372036854775807) = true := decide_eq_true c5
                try have c5b2 : (9223372036854775807 < 2 + (strOfNums y179).size) = False := eq_false (Nat.not_lt.2 c5)
                by_cases c6 : (strOfNums y179).size + 2 ≤ 9223372036854775807
                · rw [if_pos c6] at H
                  have c6b0 := eq_true c6
                  have c6b1 : decide ((strOfNums y179).size + 2 ≤ 9223372036854775807) = true := decide_eq_true c6
                  try have c6b2 : (9223372036854775807 < (strOfNums y179).size + 2) = False := eq_false (Nat.not_lt.2 c6)
                  by_cases c7 : 3 + (strOfNums y179).size ≤ 9223372036854775807
                  · rw [if_pos c7] at H
                    have c7b0 := eq_true c7
                    have c7b1 : decide (3 + (strOfNums y179).size ≤ 9223372036854775807) = true := decide_eq_true c7
                    try have c7b2 : (9223372036854775807 < 3 + (strOfNums y179).size) = False := eq_false (Nat.not_lt.2 c7)
                    by_cases c8 : ((⟨#[97, 58, 98]⟩ : ByteArray) ++ (strOfNums y179)).size + 1 ≤ 9223372036854775807
                    · rw [if_pos c8] at H
                      have c8b0 := eq_true c8
                      have c8b1 : decide (((⟨#[97, 58, 98]⟩ : ByteArray) ++ (strOfNums y179)).size + 1 ≤ 9223372036854775807) = true := decide_eq_true c8
                      try have c8b2 : (9223372036854775807 < ((⟨#[97, 58, 98]⟩ : ByteArray) ++ (strOfNums y179)).size + 1) = False := eq_false (Nat.not_lt.2 c8)
                      by_cases c9 : (strOfNums y179).size + (strOfNums y179).size ≤ 9223372036854775807
                      · rw [if_pos c9] at H
                        have c9b0 := eq_true c9
                        have c9b1 : decide ((strOfNums y179).size + (strOfNums y179).size ≤ 9223372036854775807) = true := decide_eq_true c9
                        try have c9b2 : (9223372036854775807 < (strOfNums y179).size + (strOfNums y179).size) = False := eq_false (Nat.not_lt.2 c9)
                        obtain ⟨y182, hy182⟩ : ∃ y_ : List ByteArray, y_ = (([strOfNums y179, (strOfNums y179) ++ (⟨#[97]⟩ : ByteArray), (⟨#[97]⟩ : ByteArray) ++ (strOfNums y179), ((⟨#[97]⟩ : ByteArray) ++ (strOfNums y179)) ++ (⟨#[98]⟩ : ByteArray), (⟨#[97, 58]⟩ : ByteArray) ++ (strOfNums y179), (strOfNums y179) ++ (⟨#[58, 97]⟩ : ByteArray), (⟨#[97, 58, 98]⟩ : ByteArray) ++ (strOfNums y179), ((⟨#[97, 58, 98]⟩ : ByteArray) ++ (strOfNums y179)) ++ (⟨#[99]⟩ : ByteArray), (strOfNums y179) ++ (strOfNums y179)] : List ByteArray)) := ⟨_, rfl⟩
                        replace H : (hopscotchlaw02_NameKnown.l1 k1 x1_1 y182 (y182.length : Int) 0) = some r := by first | (rw [hy182]; with_reducible exact H) | (have H2_ := (Option.bind_some _ _).symm.trans H; rw [hy182]; with_reducible exact H2_) | (have H2_ := (Option.bind_some _ _).symm.trans H; with_reducible exact H2_) | with_reducible exact H | (rw [hy182]; exact H) | exact H
                        have Ny182 := Aside0.mk hy182
                        clear hy182
                        have H' := Aside0.mk H
                        clear H
                        go_wp2_with (first | ((with_reducible refine gate_dst (N := 13) rfl ?_); refine Kd.R_lit (Kd.int .u8) _ 5 ?hg (N := 13) ?hd (xs := ([(x1_1) % 256] : List Int)) (inner := [.int .u8 ((x1_1) % 256)]) (ok := fun _ => True) (okp := fun _ => True) ?hr ?hp (fun _ hk => hk) trivial (Below.refl _ _) (Nat.le_refl _) (by simp) ?_; (case hd => rfl); (case hg => rfl); (case hr => first | (go_simp; done) | (go_simp; rfl)); (case hp => exact (Reps.one (show Kd.M (Kd.int .u8) _ _ _ ((x1_1) % 256) [.int .u8 ((x1_1) % 256)] from rfl) (Reps.none _ _))); intro v180 w10 ho11 hb hg_ hnew_; clear hg_ hnew_; (first | rw [← Ny179.out] at ho11 | (simp only [Int.reduceToNat] at ho11; rw [← Ny179.out] at ho11)); have n0_ := Aside0.mk (Kd.R_lower ho11 (below_size (by repeat (first | (with_reducible first | exact HB.out | apply below_alloc | apply pw_below_drewN | apply below_drew1) | exact HB.out)))); have n1_ := Aside0.mk (below_step (by repeat (first | (with_reducible first | exact HB.out | apply below_alloc | apply pw_below_drewN | apply below_drew1) | exact HB.out)) hb); clear HB; have HO181 := n0_; have HB := n1_; clear n0_ n1_; clear hb ho11; have hcv12 := own_string (P := Try.prog) Try.underlying28 Try.underlying5 Try.underlying9 (Kd.own_of_R HO181.out)) | ((with_reducible refine gate_dst (N := 35) rfl ?_); refine Kd.R_lit Kd.string _ 9 ?hg (N := 35) ?hd (xs := ([strOfNums y179, (strOfNums y179) ++ (⟨#[97]⟩ : ByteArray), (⟨#[97]⟩ : ByteArray) ++ (strOfNums y179), ((⟨#[97]⟩ : ByteArray) ++ (strOfNums y179)) ++ (⟨#[98]⟩ : ByteArray), (⟨#[97, 58]⟩ : ByteArray) ++ (strOfNums y179), (strOfNums y179) ++ (⟨#[58, 97]⟩ : ByteArray), (⟨#[97, 58, 98]⟩ : ByteArray) ++ (strOfNums y179), ((⟨#[97, 58, 98]⟩ : ByteArray) ++ (strOfNums y179)) ++ (⟨#[99]⟩ : ByteArray), (strOfNums y179) ++ (strOfNums y179)] : List ByteArray)) (inner := [.string (strOfNums y179), .string ((strOfNums y179) ++ (⟨#[97]⟩ : ByteArray)), .string ((⟨#[97]⟩ : ByteArray) ++ (strOfNums y179)), .string (((⟨#[97]⟩ : ByteArray) ++ (strOfNums y179)) ++ (⟨#[98]⟩ : ByteArray)), .string ((⟨#[97, 58]⟩ : ByteArray) ++ (strOfNums y179)), .string ((strOfNums y179) ++ (⟨#[58, 97]⟩ : ByteArray)), .string ((⟨#[97, 58, 98]⟩ : ByteArray) ++ (strOfNums y179)), .string (((⟨#[97, 58, 98]⟩ : ByteArray) ++ (strOfNums y179)) ++ (⟨#[99]⟩ : ByteArray)), .string ((strOfNums y179) ++ (strOfNums y179))]) (ok := fun _ => True) (okp := fun _ => True) ?hr ?hp (fun _ hk => hk) trivial (Below.refl _ _) (Nat.le_refl _) (by simp) ?_; (case hd => rfl); (case hg => rfl); (case hr => first | (go_simp; done) | (go_simp; rfl)); (case hp => exact (Reps.one (show Kd.M Kd.string _ _ _ (strOfNums y179) [.string (strOfNums y179)] from rfl) (Reps.one (show Kd.M Kd.string _ _ _ ((strOfNums y179) ++ (⟨#[97]⟩ : ByteArray)) [.string ((strOfNums y179) ++ (⟨#[97]⟩ : ByteArray))] from rfl) (Reps.one (show Kd.M Kd.string _ _ _ ((⟨#[97]⟩ : ByteArray) ++ (strOfNums y179)) [.string ((⟨#[97]⟩ : ByteArray) ++ (strOfNums y179))] from rfl) (Reps.one (show Kd.M Kd.string _ _ _ (((⟨#[97]⟩ : ByteArray) ++ (strOfNums y179)) ++ (⟨#[98]⟩ : ByteArray)) [.string (((⟨#[97]⟩ : ByteArray) ++ (strOfNums y179)) ++ (⟨#[98]⟩ : ByteArray))] from rfl) (Reps.one (show Kd.M Kd.string _ _ _ ((⟨#[97, 58]⟩ : ByteArray) ++ (strOfNums y179)) [.string ((⟨#[97, 58]⟩ : ByteArray) ++ (strOfNums y179))] from rfl) (Reps.one (show Kd.M Kd.string _ _ _ ((strOfNums y179) ++ (⟨#[58, 97]⟩ : ByteArray)) [.string ((strOfNums y179) ++ (⟨#[58, 97]⟩ : ByteArray))] from rfl) (Reps.one (show Kd.M Kd.string _ _ _ ((⟨#[97, 58, 98]⟩ : ByteArray) ++ (strOfNums y179)) [.string ((⟨#[97, 58, 98]⟩ : ByteArray) ++ (strOfNums y179))] from rfl) (Reps.one (show Kd.M Kd.string _ _ _ (((⟨#[97, 58, 98]⟩ : ByteArray) ++ (strOfNums y179)) ++ (⟨#[99]⟩ : ByteArray)) [.string (((⟨#[97, 58, 98]⟩ : ByteArray) ++ (strOfNums y179)) ++ (⟨#[99]⟩ : ByteArray))] from rfl) (Reps.one (show Kd.M Kd.string _ _ _ ((strOfNums y179) ++ (strOfNums y179)) [.string ((strOfNums y179) ++ (strOfNums y179))] from rfl) (Reps.none _ _))))))))))); intro v183 w13 ho14 hb hg_ hnew_; clear hg_ hnew_; (first | rw [← Ny182.out] at ho14 | (simp only [Int.reduceToNat] at ho14; rw [← Ny182.out] at ho14)); have n0_ := Aside0.mk (Kd.R_below (by (with_reducible repeat (first | apply Kd.R_alloc | apply Kd.R_drewN | apply Kd.R_drew)); exact HO181.out) hb); have n1_ := Aside0.mk (Kd.R_lower ho14 (below_size (by repeat (first | (with_reducible first | exact HB.out | apply below_alloc | apply pw_below_drewN | apply below_drew1) | exact HB.out)))); have n2_ := Aside0.mk (below_step (by repeat (first | (with_reducible first | exact HB.out | apply below_alloc | apply pw_below_drewN | apply below_drew1) | exact HB.out)) hb); clear HO181; clear HB; have HO181 := n0_; have HO184 := n1_; have HB := n2_; clear n0_ n1_ n2_; clear hb ho14; obtain ⟨Ao15, co15, eo15⟩ := Kd.R_slice HO184.out; subst eo15))
                        go_loopg [37] k1 (fun kq v37 w' => ∃ (x37_2 : Int), v37 = .int .i64 x37_2 ∧ Aside0 (hopscotchlaw02_NameKnown.l1 kq x1_1 y182 (y182.length : Int) x37_2 = some r) ∧ Aside0 (kq ≤ k1) ∧ Aside0 (Kd.R Kd.string 9 w' w.heap.size (fun _ => True) (.slice Ao15 y182.length co15) y182) ∧ Aside0 (Below w.heap.size w w'))
                        case atStart => exact ⟨(0), (by first | rfl | (simp; done) | (simp [*]; done) | (simp [bne, show ∀ l_ : List UInt8, (l_ == []) = l_.isEmpty from fun l_ => by cases l_ <;> rfl]; done)), H', ⟨Nat.le_refl _⟩, ⟨by (with_reducible repeat (first | apply Kd.R_alloc | apply Kd.R_drewN | apply Kd.R_drew)); exact HO184.out⟩, ⟨by repeat (first | (with_reducible first | exact HB.out | apply below_alloc | apply pw_below_drewN | apply below_drew1) | exact HB.out)⟩⟩
                        case round =>
                          clear H'
                          try clear c1
                          try clear c1b0
                          try clear hcv1
                          try clear c2
                          try clear c2b0
                          try clear c2b1
                          try clear c2b2
                          try clear p2
                          try clear c3
                          try clear c3b0
                          try clear c3b1
                          try clear c3b2
                          try clear c4
                          try clear c4b0
                          try clear c4b1
                          try clear c4b2
                          try clear c5
                          try clear c5b0
                          try clear c5b1
                          try clear c5b2
                          try clear c6
                          try clear c6b0
                          try clear c6b1
                          try clear c6b2
                          try clear c7
                          try clear c7b0
                          try clear c7b1
                          try clear c7b2
                          try clear c8
                          try clear c8b0
                          try clear c8b1
                          try clear c8b2
                          try clear c9
                          try clear c9b0
                          try clear c9b1
                          try clear c9b2
                          try clear hcv12
                          obtain ⟨x37_2, rfl, HA, HK2, HO_35, HB⟩ := hrel
                          cases gk with
                          | zero => exact absurd HA.out (by simp [hopscotchlaw02_NameKnown.l1])
                          | succ k2 =>
                            have H := HA.out
                            clear HA
                            simp only [hopscotchlaw02_NameKnown.l1] at H
                            by_cases c16 : x37_2 < (y182.length : Int)
                            · rw [if_pos c16] at H
                              have c16b0 : decide (x37_2 < (y182.length : Int)) = true := decide_eq_true c16
                              clear c16
                              by_cases c17 : 0 ≤ x37_2
                              · rw [if_pos c17] at H
                                have c17b0 : decide (0 ≤ x37_2) = true := decide_eq_true c17
                                clear c17
                                by_cases c18 : x37_2 < (y182.length : Int)
                                · rw [if_pos c18] at H
                                  have c18b0 : decide (x37_2 < (y182.length : Int)) = true := decide_eq_true c18
                                  clear c18
                                  replace H := Option.bind_eq_some_iff.mp H
                                  obtain ⟨t186, A190, H⟩ := H
                                  replace H : (if t186 = true then ((hopscotchlaw02_NameBegins.f k2 (rdOf ByteArray.empty y182 x37_2)).bind fun t187 => (if t187 = true then ((hopscotchlaw02_NameBack.f k2 (rdOf ByteArray.empty y182 x37_2) (⟨#[122]⟩ : ByteArray) ((x1_1) % 256)).bind fun t188 => (if t188 = true then ((hopscotchlaw02_NameBack.f k2 (⟨#[120, 109, 105, 58, 105, 100]⟩ : ByteArray) (rdOf ByteArray.empty y182 x37_2) ((x1_1) % 256)).bind fun t189 => (if t189 = true then (hopscotchlaw02_NameKnown.l1 k2 x1_1 y182 (y182.length : Int) (wrap64 (x37_2 + 1))) else (some false))) else (some false))) else (some false))) else (some false)) = some r := H
                                  have A19 := Aside0.mk A190
                                  clear A190
                                  by_cases c20 : t186 = true
                                  · subst c20
                                    have H1 : ((hopscotchlaw02_NameBegins.f k2 (rdOf ByteArray.empty y182 x37_2)).bind fun t187 => (if t187 = true then ((hopscotchlaw02_NameBack.f k2 (rdOf ByteArray.empty y182 x37_2) (⟨#[122]⟩ : ByteArray) ((x1_1) % 256)).bind fun t188 => (if t188 = true then ((hopscotchlaw02_NameBack.f k2 (⟨#[120, 109, 105, 58, 105, 100]⟩ : ByteArray) (rdOf ByteArray.empty y182 x37_2) ((x1_1) % 256)).bind fun t189 => (if t189 = true then (hopscotchlaw02_NameKnown.l1 k2 x1_1 y182 (y182.length : Int) (wrap64 (x37_2 + 1))) else (some false))) else (some false))) else (some false))) = some r := by rw [if_pos rfl] at H; exact H
                                    clear H
                                    have H := H1
                                    clear H1
                                    replace H := Option.bind_eq_some_iff.mp H
                                    obtain ⟨t187, A210, H⟩ := H
                                    replace H : (if t187 = true then ((hopscotchlaw02_NameBack.f k2 (rdOf ByteArray.empty y182 x37_2) (⟨#[122]⟩ : ByteArray) ((x1_1) % 256)).bind fun t188 => (if t188 = true then ((hopscotchlaw02_NameBack.f k2 (⟨#[120, 109, 105, 58, 105, 100]⟩ : ByteArray) (rdOf ByteArray.empty y182 x37_2) ((x1_1) % 256)).bind fun t189 => (if t189 = true then (hopscotchlaw02_NameKnown.l1 k2 x1_1 y182 (y182.length : Int) (wrap64 (x37_2 + 1))) else (some false))) else (some false))) else (some false)) = some r := H
                                    have A21 := Aside0.mk A210
                                    clear A210
                                    by_cases c22 : t187 = true
                                    · subst c22
                                      have H1 : ((hopscotchlaw02_NameBack.f k2 (rdOf ByteArray.empty y182 x37_2) (⟨#[122]⟩ : ByteArray) ((x1_1) % 256)).bind fun t188 => (if t188 = true then ((hopscotchlaw02_NameBack.f k2 (⟨#[120, 109, 105, 58, 105, 100]⟩ : ByteArray) (rdOf ByteArray.empty y182 x37_2) ((x1_1) % 256)).bind fun t189 => (if t189 = true then (hopscotchlaw02_NameKnown.l1 k2 x1_1 y182 (y182.length : Int) (wrap64 (x37_2 + 1))) else (some false))) else (some false))) = some r := by rw [if_pos rfl] at H; exact H
                                      clear H
                                      have H := H1
                                      clear H1
                                      replace H := Option.bind_eq_some_iff.mp H
                                      obtain ⟨t188, A230, H⟩ := H
                                      replace H : (if t188 = true then ((hopscotchlaw02_NameBack.f k2 (⟨#[120, 109, 105, 58, 105, 100]⟩ : ByteArray) (rdOf ByteArray.empty y182 x37_2) ((x1_1) % 256)).bind fun t189 => (if t189 = true then (hopscotchlaw02_NameKnown.l1 k2 x1_1 y182 (y182.length : Int) (wrap64 (x37_2 + 1))) else (some false))) else (some false)) = some r := H
                                      have A23 := Aside0.mk A230
                                      clear A230
                                      by_cases c24 : t188 = true
                                      · subst c24
                                        have H1 : ((hopscotchlaw02_NameBack.f k2 (⟨#[120, 109, 105, 58, 105, 100]⟩ : ByteArray) (rdOf ByteArray.empty y182 x37_2) ((x1_1) % 256)).bind fun t189 => (if t189 = true then (hopscotchlaw02_NameKnown.l1 k2 x1_1 y182 (y182.length : Int) (wrap64 (x37_2 + 1))) else (some false))) = some r := by rw [if_pos rfl] at H; exact H
                                        clear H
                                        have H := H1
                                        clear H1
                                        replace H := Option.bind_eq_some_iff.mp H
                                        obtain ⟨t189, A250, H⟩ := H
                                        replace H : (if t189 = true then (hopscotchlaw02_NameKnown.l1 k2 x1_1 y182 (y182.length : Int) (wrap64 (x37_2 + 1))) else (some false)) = some r := H
                                        have A25 := Aside0.mk A250
                                        clear A250
                                        by_cases c26 : t189 = true
                                        · subst c26
                                          have H1 : (hopscotchlaw02_NameKnown.l1 k2 x1_1 y182 (y182.length : Int) (wrap64 (x37_2 + 1))) = some r := by rw [if_pos rfl] at H; exact H
                                          clear H
                                          have H := H1
                                          clear H1
                                          have H' := Aside0.mk H
                                          clear H
                                          have p185 : 0 ≤ (x37_2 : Int) := of_decide_eq_true (by first | (with_reducible assumption) | assumption)
                                          have q185 : x37_2 < (y182.length : Int) := of_decide_eq_true (by first | (with_reducible assumption) | assumption)
                                          obtain ⟨ad185, e185, hx185_0⟩ := Kd.at_string (Kd.R_reads' HO_35.out).2.2 x37_2 p185 q185
                                          cases e185
                                          replace p185 := eq_true p185
                                          replace q185 := eq_true q185
                                          go_wp2_with (first | ((with_reducible refine gate_callee (f := 4) rfl ?_); refine goesL_ (some 42) rfl rfl Try.func4 (by kernel_rfl) rfl #[.string (rdOf ByteArray.empty y182 x37_2)] rfl (by (try simp only [List.map_toArray, List.map_cons, List.map_nil]); first | done | rfl | (simp only [List.length_drop, List.length_take]; rfl)) ?_; (with_reducible refine (hopscotchlaw02_NameSplits.calls k2 (rdOf ByteArray.empty y182 x37_2) true _ A19.out).mono ?_); rintro e w27 ⟨rfl, hb⟩; refine ⟨_, rfl, ?_⟩; have n0_ := Aside0.mk (Kd.R_below (by (with_reducible repeat (first | apply Kd.R_alloc | apply Kd.R_drewN | apply Kd.R_drew)); exact HO_35.out) hb); have n1_ := Aside0.mk (below_step (by repeat (first | (with_reducible first | exact HB.out | apply below_alloc | apply pw_below_drewN | apply below_drew1) | exact HB.out)) hb); clear HO_35; clear HB; have HO_35 := n0_; have HB := n1_; clear n0_ n1_; (try clear hb); (try clear hb2); (try clear hk); (try clear hi)) | (go_at_call 3; (with_reducible refine (hopscotchlaw02_NameBegins.calls k2 (rdOf ByteArray.empty y182 x37_2) true _ A21.out).mono ?_); rintro e w28 ⟨rfl, hb⟩; have n0_ := Aside0.mk (Kd.R_below (by (with_reducible repeat (first | apply Kd.R_alloc | apply Kd.R_drewN | apply Kd.R_drew)); exact HO_35.out) hb); have n1_ := Aside0.mk (below_step (by repeat (first | (with_reducible first | exact HB.out | apply below_alloc | apply pw_below_drewN | apply below_drew1) | exact HB.out)) hb); clear HO_35; clear HB; have HO_35 := n0_; have HB := n1_; clear n0_ n1_; (try clear hb); (try clear hb2); (try clear hk); (try clear hi)) | (go_at_call 5; (with_reducible refine (hopscotchlaw02_NameBack.calls k2 (rdOf ByteArray.empty y182 x37_2) (⟨#[122]⟩ : ByteArray) ((x1_1) % 256) true _ A23.out).mono ?_); rintro e w29 ⟨rfl, hb⟩; have n0_ := Aside0.mk (Kd.R_below (by (with_reducible repeat (first | apply Kd.R_alloc | apply Kd.R_drewN | apply Kd.R_drew)); exact HO_35.out) hb); have n1_ := Aside0.mk (below_step (by repeat (first | (with_reducible first | exact HB.out | apply below_alloc | apply pw_below_drewN | apply below_drew1) | exact HB.out)) hb); clear HO_35; clear HB; have HO_35 := n0_; have HB := n1_; clear n0_ n1_; (try clear hb); (try clear hb2); (try clear hk); (try clear hi)) | (go_at_call 5; (with_reducible refine (hopscotchlaw02_NameBack.calls k2 (⟨#[120, 109, 105, 58, 105, 100]⟩ : ByteArray) (rdOf ByteArray.empty y182 x37_2) ((x1_1) % 256) true _ A25.out).mono ?_); rintro e w30 ⟨rfl, hb⟩; have n0_ := Aside0.mk (Kd.R_below (by (with_reducible repeat (first | apply Kd.R_alloc | apply Kd.R_drewN | apply Kd.R_drew)); exact HO_35.out) hb); have n1_ := Aside0.mk (below_step (by repeat (first | (with_reducible first | exact HB.out | apply below_alloc | apply pw_below_drewN | apply below_drew1) | exact HB.out)) hb); clear HO_35; clear HB; have HO_35 := n0_; have HB := n1_; clear n0_ n1_; (try clear hb); (try clear hb2); (try clear hk); (try clear hi)))
                                          go_roundg k2
                                          case measure => have := HK1.out; have := HK2.out; omega
                                          case rel => exact ⟨(wrap64 (x37_2 + 1)), (by first | rfl | (simp; done) | (simp [*]; done) | (simp [bne, show ∀ l_ : List UInt8, (l_ == []) = l_.isEmpty from fun l_ => by cases l_ <;> rfl]; done)), H', ⟨by have := HK1.out; have := HK2.out; omega⟩, ⟨by (with_reducible repeat (first | apply Kd.R_alloc | apply Kd.R_drewN | apply Kd.R_drew)); exact HO_35.out⟩, ⟨by repeat (first | (with_reducible first | exact HB.out | apply below_alloc | apply pw_below_drewN | apply below_drew1) | exact HB.out)⟩⟩
                                        · replace c26 := Bool.eq_false_iff.mpr c26
                                          subst c26
                                          have H1 : (some false) = some r := by rw [if_neg (show ¬ (false = true) by decide)] at H; exact H
                                          clear H
                                          have H := H1
                                          clear H1
                                          obtain rfl := Option.some.inj H
                                          have p185 : 0 ≤ (x37_2 : Int) := of_decide_eq_true (by first | (with_reducible assumption) | assumption)
                                          have q185 : x37_2 < (y182.length : Int) := of_decide_eq_true (by first | (with_reducible assumption) | assumption)
                                          obtain ⟨ad185, e185, hx185_0⟩ := Kd.at_string (Kd.R_reads' HO_35.out).2.2 x37_2 p185 q185
                                          cases e185
                                          replace p185 := eq_true p185
                                          replace q185 := eq_true q185
                                          go_wp2_with (first | ((with_reducible refine gate_callee (f := 4) rfl ?_); refine goesL_ (some 42) rfl rfl Try.func4 (by kernel_rfl) rfl #[.string (rdOf ByteArray.empty y182 x37_2)] rfl (by (try simp only [List.map_toArray, List.map_cons, List.map_nil]); first | done | rfl | (simp only [List.length_drop, List.length_take]; rfl)) ?_; (with_reducible refine (hopscotchlaw02_NameSplits.calls k2 (rdOf ByteArray.empty y182 x37_2) true _ A19.out).mono ?_); rintro e w31 ⟨rfl, hb⟩; refine ⟨_, rfl, ?_⟩; have n0_ := Aside0.mk (Kd.R_below (by (with_reducible repeat (first | apply Kd.R_alloc | apply Kd.R_drewN | apply Kd.R_drew)); exact HO_35.out) hb); have n1_ := Aside0.mk (below_step (by repeat (first | (with_reducible first | exact HB.out | apply below_alloc | apply pw_below_drewN | apply below_drew1) | exact HB.out)) hb); clear HO_35; clear HB; have HO_35 := n0_; have HB := n1_; clear n0_ n1_; (try clear hb); (try clear hb2); (try clear hk); (try clear hi)) | (go_at_call 3; (with_reducible refine (hopscotchlaw02_NameBegins.calls k2 (rdOf ByteArray.empty y182 x37_2) true _ A21.out).mono ?_); rintro e w32 ⟨rfl, hb⟩; have n0_ := Aside0.mk (Kd.R_below (by (with_reducible repeat (first | apply Kd.R_alloc | apply Kd.R_drewN | apply Kd.R_drew)); exact HO_35.out) hb); have n1_ := Aside0.mk (below_step (by repeat (first | (with_reducible first | exact HB.out | apply below_alloc | apply pw_below_drewN | apply below_drew1) | exact HB.out)) hb); clear HO_35; clear HB; have HO_35 := n0_; have HB := n1_; clear n0_ n1_; (try clear hb); (try clear hb2); (try clear hk); (try clear hi)) | (go_at_call 5; (with_reducible refine (hopscotchlaw02_NameBack.calls k2 (rdOf ByteArray.empty y182 x37_2) (⟨#[122]⟩ : ByteArray) ((x1_1) % 256) true _ A23.out).mono ?_); rintro e w33 ⟨rfl, hb⟩; have n0_ := Aside0.mk (Kd.R_below (by (with_reducible repeat (first | apply Kd.R_alloc | apply Kd.R_drewN | apply Kd.R_drew)); exact HO_35.out) hb); have n1_ := Aside0.mk (below_step (by repeat (first | (with_reducible first | exact HB.out | apply below_alloc | apply pw_below_drewN | apply below_drew1) | exact HB.out)) hb); clear HO_35; clear HB; have HO_35 := n0_; have HB := n1_; clear n0_ n1_; (try clear hb); (try clear hb2); (try clear hk); (try clear hi)) | (go_at_call 5; (with_reducible refine (hopscotchlaw02_NameBack.calls k2 (⟨#[120, 109, 105, 58, 105, 100]⟩ : ByteArray) (rdOf ByteArray.empty y182 x37_2) ((x1_1) % 256) false _ A25.out).mono ?_); rintro e w34 ⟨rfl, hb⟩; have n0_ := Aside0.mk (Kd.R_below (by (with_reducible repeat (first | apply Kd.R_alloc | apply Kd.R_drewN | apply Kd.R_drew)); exact HO_35.out) hb); have n1_ := Aside0.mk (below_step (by repeat (first | (with_reducible first | exact HB.out | apply below_alloc | apply pw_below_drewN | apply below_drew1) | exact HB.out)) hb); clear HO_35; clear HB; have HO_35 := n0_; have HB := n1_; clear n0_ n1_; (try clear hb); (try clear hb2); (try clear hk); (try clear hi)))
                                          go_ret
                                          exact ⟨by first | rfl | (simp [errW_none, errW_some] <;> rfl) | (simp [*, errW_none, errW_some] <;> rfl), by repeat (first | (with_reducible first | exact HB.out | apply below_alloc | apply pw_below_drewN | apply below_drew1) | exact HB.out)⟩
                                      · replace c24 := Bool.eq_false_iff.mpr c24
                                        subst c24
                                        have H1 : (some false) = some r := by rw [if_neg (show ¬ (false = true) by decide)] at H; exact H
                                        clear H
                                        have H := H1
                                        clear H1
                                        obtain rfl := Option.some.inj H
                                        have p185 : 0 ≤ (x37_2 : Int) := of_decide_eq_true (by first | (with_reducible assumption) | assumption)
                                        have q185 : x37_2 < (y182.length : Int) := of_decide_eq_true (by first | (with_reducible assumption) | assumption)
                                        obtain ⟨ad185, e185, hx185_0⟩ := Kd.at_string (Kd.R_reads' HO_35.out).2.2 x37_2 p185 q185
                                        cases e185
                                        replace p185 := eq_true p185
                                        replace q185 := eq_true q185
                                        go_wp2_with (first | ((with_reducible refine gate_callee (f := 4) rfl ?_); refine goesL_ (some 42) rfl rfl Try.func4 (by kernel_rfl) rfl #[.string (rdOf ByteArray.empty y182 x37_2)] rfl (by (try simp only [List.map_toArray, List.map_cons, List.map_nil]); first | done | rfl | (simp only [List.length_drop, List.length_take]; rfl)) ?_; (with_reducible refine (hopscotchlaw02_NameSplits.calls k2 (rdOf ByteArray.empty y182 x37_2) true _ A19.out).mono ?_); rintro e w35 ⟨rfl, hb⟩; refine ⟨_, rfl, ?_⟩; have n0_ := Aside0.mk (Kd.R_below (by (with_reducible repeat (first | apply Kd.R_alloc | apply Kd.R_drewN | apply Kd.R_drew)); exact HO_35.out) hb); have n1_ := Aside0.mk (below_step (by repeat (first | (with_reducible first | exact HB.out | apply below_alloc | apply pw_below_drewN | apply below_drew1) | exact HB.out)) hb); clear HO_35; clear HB; have HO_35 := n0_; have HB := n1_; clear n0_ n1_; (try clear hb); (try clear hb2); (try clear hk); (try clear hi)) | (go_at_call 3; (with_reducible refine (hopscotchlaw02_NameBegins.calls k2 (rdOf ByteArray.empty y182 x37_2) true _ A21.out).mono ?_); rintro e w36 ⟨rfl, hb⟩; have n0_ := Aside0.mk (Kd.R_below (by (with_reducible repeat (first | apply Kd.R_alloc | apply Kd.R_drewN | apply Kd.R_drew)); exact HO_35.out) hb); have n1_ := Aside0.mk (below_step (by repeat (first | (with_reducible first | exact HB.out | apply below_alloc | apply pw_below_drewN | apply below_drew1) | exact HB.out)) hb); clear HO_35; clear HB; have HO_35 := n0_; have HB := n1_; clear n0_ n1_; (try clear hb); (try clear hb2); (try clear hk); (try clear hi)) | (go_at_call 5; (with_reducible refine (hopscotchlaw02_NameBack.calls k2 (rdOf ByteArray.empty y182 x37_2) (⟨#[122]⟩ : ByteArray) ((x1_1) % 256) false _ A23.out).mono ?_); rintro e w37 ⟨rfl, hb⟩; have n0_ := Aside0.mk (Kd.R_below (by (with_reducible repeat (first | apply Kd.R_alloc | apply Kd.R_drewN | apply Kd.R_drew)); exact HO_35.out) hb); have n1_ := Aside0.mk (below_step (by repeat (first | (with_reducible first | exact HB.out | apply below_alloc | apply pw_below_drewN | apply below_drew1) | exact HB.out)) hb); clear HO_35; clear HB; have HO_35 := n0_; have HB := n1_; clear n0_ n1_; (try clear hb); (try clear hb2); (try clear hk); (try clear hi)))
                                        go_ret
                                        exact ⟨by first | rfl | (simp [errW_none, errW_some] <;> rfl) | (simp [*, errW_none, errW_some] <;> rfl), by repeat (first | (with_reducible first | exact HB.out | apply below_alloc | apply pw_below_drewN | apply below_drew1) | exact HB.out)⟩
                                    · replace c22 := Bool.eq_false_iff.mpr c22
                                      subst c22
                                      have H1 : (some false) = some r := by rw [if_neg (show ¬ (false = true) by decide)] at H; exact H
                                      clear H
                                      have H := H1
                                      clear H1
                                      obtain rfl := Option.some.inj H
                                      have p185 : 0 ≤ (x37_2 : Int) := of_decide_eq_true (by first | (with_reducible assumption) | assumption)
                                      have q185 : x37_2 < (y182.length : Int) := of_decide_eq_true (by first | (with_reducible assumption) | assumption)
                                      obtain ⟨ad185, e185, hx185_0⟩ := Kd.at_string (Kd.R_reads' HO_35.out).2.2 x37_2 p185 q185
                                      cases e185
                                      replace p185 := eq_true p185
                                      replace q185 := eq_true q185
                                      go_wp2_with (first | ((with_reducible refine gate_callee (f := 4) rfl ?_); refine goesL_ (some 42) rfl rfl Try.func4 (by kernel_rfl) rfl #[.string (rdOf ByteArray.empty y182 x37_2)] rfl (by (try simp only [List.map_toArray, List.map_cons, List.map_nil]); first | done | rfl | (simp only [List.length_drop, List.length_take]; rfl)) ?_; (with_reducible refine (hopscotchlaw02_NameSplits.calls k2 (rdOf ByteArray.empty y182 x37_2) true _ A19.out).mono ?_); rintro e w38 ⟨rfl, hb⟩; refine ⟨_, rfl, ?_⟩; have n0_ := Aside0.mk (Kd.R_below (by (with_reducible repeat (first | apply Kd.R_alloc | apply Kd.R_drewN | apply Kd.R_drew)); exact HO_35.out) hb); have n1_ := Aside0.mk (below_step (by repeat (first | (with_reducible first | exact HB.out | apply below_alloc | apply pw_below_drewN | apply below_drew1) | exact HB.out)) hb); clear HO_35; clear HB; have HO_35 := n0_; have HB := n1_; clear n0_ n1_; (try clear hb); (try clear hb2); (try clear hk); (try clear hi)) | (go_at_call 3; (with_reducible refine (hopscotchlaw02_NameBegins.calls k2 (rdOf ByteArray.empty y182 x37_2) false _ A21.out).mono ?_); rintro e w39 ⟨rfl, hb⟩; have n0_ := Aside0.mk (Kd.R_below (by (with_reducible repeat (first | apply Kd.R_alloc | apply Kd.R_drewN | apply Kd.R_drew)); exact HO_35.out) hb); have n1_ := Aside0.mk (below_step (by repeat (first | (with_reducible first | exact HB.out | apply below_alloc | apply pw_below_drewN | apply below_drew1) | exact HB.out)) hb); clear HO_35; clear HB; have HO_35 := n0_; have HB := n1_; clear n0_ n1_; (try clear hb); (try clear hb2); (try clear hk); (try clear hi)))
                                      go_ret
                                      exact ⟨by first | rfl | (simp [errW_none, errW_some] <;> rfl) | (simp [*, errW_none, errW_some] <;> rfl), by repeat (first | (with_reducible first | exact HB.out | apply below_alloc | apply pw_below_drewN | apply below_drew1) | exact HB.out)⟩
                                  · replace c20 := Bool.eq_false_iff.mpr c20
                                    subst c20
                                    have H1 : (some false) = some r := by rw [if_neg (show ¬ (false = true) by decide)] at H; exact H
                                    clear H
                                    have H := H1
                                    clear H1
                                    obtain rfl := Option.some.inj H
                                    have p185 : 0 ≤ (x37_2 : Int) := of_decide_eq_true (by first | (with_reducible assumption) | assumption)
                                    have q185 : x37_2 < (y182.length : Int) := of_decide_eq_true (by first | (with_reducible assumption) | assumption)
                                    obtain ⟨ad185, e185, hx185_0⟩ := Kd.at_string (Kd.R_reads' HO_35.out).2.2 x37_2 p185 q185
                                    cases e185
                                    replace p185 := eq_true p185
                                    replace q185 := eq_true q185
                                    go_wp2_with (first | ((with_reducible refine gate_callee (f := 4) rfl ?_); refine goesL_ (some 42) rfl rfl Try.func4 (by kernel_rfl) rfl #[.string (rdOf ByteArray.empty y182 x37_2)] rfl (by (try simp only [List.map_toArray, List.map_cons, List.map_nil]); first | done | rfl | (simp only [List.length_drop, List.length_take]; rfl)) ?_; (with_reducible refine (hopscotchlaw02_NameSplits.calls k2 (rdOf ByteArray.empty y182 x37_2) false _ A19.out).mono ?_); rintro e w40 ⟨rfl, hb⟩; refine ⟨_, rfl, ?_⟩; have n0_ := Aside0.mk (Kd.R_below (by (with_reducible repeat (first | apply Kd.R_alloc | apply Kd.R_drewN | apply Kd.R_drew)); exact HO_35.out) hb); have n1_ := Aside0.mk (below_step (by repeat (first | (with_reducible first | exact HB.out | apply below_alloc | apply pw_below_drewN | apply below_drew1) | exact HB.out)) hb); clear HO_35; clear HB; have HO_35 := n0_; have HB := n1_; clear n0_ n1_; (try clear hb); (try clear hb2); (try clear hk); (try clear hi)))
                                    go_ret
                                    exact ⟨by first | rfl | (simp [errW_none, errW_some] <;> rfl) | (simp [*, errW_none, errW_some] <;> rfl), by repeat (first | (with_reducible first | exact HB.out | apply below_alloc | apply pw_below_drewN | apply below_drew1) | exact HB.out)⟩
                                · rw [if_neg c18] at H
                                  exact absurd H (by simp)
                              · rw [if_neg c17] at H
                                exact absurd H (by simp)
                            · rw [if_neg c16] at H
                              have c16b0 : decide (x37_2 < (y182.length : Int)) = false := decide_eq_false c16
                              clear c16
                              have H' := Aside0.mk H
                              clear H
                              go_wp2
                              go_roundg k2
                              case measure => have := HK1.out; have := HK2.out; omega
                              case rel => exact ⟨(wrap64 (x1_1 + 1)), (by first | rfl | (simp; done) | (simp [*]; done) | (simp [bne, show ∀ l_ : List UInt8, (l_ == []) = l_.isEmpty from fun l_ => by cases l_ <;> rfl]; done)), H', ⟨by have := HK1.out; have := HK2.out; omega⟩, ⟨by repeat (first | (with_reducible first | exact HB.out | apply below_alloc | apply pw_below_drewN | apply below_drew1) | exact HB.out)⟩⟩
                      · rw [if_neg c9] at H
                        exact absurd H (by simp)
                    · rw [if_neg c8] at H
                      exact absurd H (by simp)
                  · rw [if_neg c7] at H
                    exact absurd H (by simp)
                · rw [if_neg c6] at H
                  exact absurd H (by simp)
              · rw [if_neg c5] at H
                exact absurd H (by simp)
            · rw [if_neg c4] at H
              exact absurd H (by simp)
          · rw [if_neg c3] at H
            exact absurd H (by simp)
        · rw [if_neg c2] at H
          exact absurd H (by simp)
      · rw [if_neg c1] at H
        have c1b0 : decide (x1_1 < 256) = false := decide_eq_false c1
        clear c1
        have H' := Aside0.mk H
        clear H
        go_wp2
        go_loopg [5, 6] k1 (fun kq v5 v6 w' => ∃ (x5_2 : ByteArray) (x6_2 : Int), v5 = .string x5_2 ∧ v6 = .int .i64 x6_2 ∧ Aside0 (hopscotchlaw02_NameKnown.l2 kq x5_2 x6_2 = some r) ∧ Aside0 (kq ≤ k1) ∧ Aside0 (Below w.heap.size w w'))
        case atStart => exact ⟨((⟨#[]⟩ : ByteArray)), (0), (by first | rfl | (simp; done) | (simp [*]; done) | (simp [bne, show ∀ l_ : List UInt8, (l_ == []) = l_.isEmpty from fun l_ => by cases l_ <;> rfl]; done)), (by first | rfl | (simp; done) | (simp [*]; done) | (simp [bne, show ∀ l_ : List UInt8, (l_ == []) = l_.isEmpty from fun l_ => by cases l_ <;> rfl]; done)), H', ⟨Nat.le_refl _⟩, ⟨by repeat (first | (with_reducible first | exact HB.out | apply below_alloc | apply pw_below_drewN | apply below_drew1) | exact HB.out)⟩⟩
        case round =>
          clear H'
          try clear c1
          try clear c1b0
          try clear p1
          try clear q1
          try clear hx1
          try clear hcv1
          try clear c2
          try clear c2b0
          try clear c2b1
          try clear c2b2
          try clear p2
          try clear c3
          try clear c3b0
          try clear c3b1
          try clear c3b2
          try clear c4
          try clear c4b0
          try clear c4b1
          try clear c4b2
          try clear c5
          try clear c5b0
          try clear c5b1
          try clear c5b2
          try clear c6
          try clear c6b0
          try clear c6b1
          try clear c6b2
          try clear p6
          try clear c7
          try clear c7b0
          try clear c7b1
          try clear c7b2
          try clear c8
          try clear c8b0
          try clear c8b1
          try clear c8b2
          try clear c9
          try clear c9b0
          try clear c9b1
          try clear c9b2
          try clear hcv12
          try clear c16
          try clear c16b0
          try clear c17
          try clear c17b0
          try clear c18
          try clear c18b0
          try clear p18
          try clear q18
          try clear hx18
          try clear c20
          try clear c22
          try clear c24
          try clear c26
          try clear hx185_0
          try clear p185
          try clear p2
          try clear q185
          obtain ⟨x5_2, x6_2, rfl, rfl, HA, HK2, HB⟩ := hrel
          cases gk with
          | zero => exact absurd HA.out (by simp [hopscotchlaw02_NameKnown.l2])
          | succ k2 =>
            have H := HA.out
            clear HA
            simp only [hopscotchlaw02_NameKnown.l2] at H
            by_cases c41 : x6_2 < 70
            · rw [if_pos c41] at H
              have c41b0 : decide (x6_2 < 70) = true := decide_eq_true c41
              clear c41
              replace H := Option.bind_eq_some_iff.mp H
              obtain ⟨t191, A420, H⟩ := H
              replace H : (if t191 = true then (if 2 + x5_2.size ≤ 9223372036854775807 then ((hopscotchlaw02_NameSplits.f k2 ((⟨#[97, 58]⟩ : ByteArray) ++ x5_2)).bind fun t192 => (if t192 = true then (if x5_2.size + 2 ≤ 9223372036854775807 then ((hopscotchlaw02_NameSplits.f k2 (x5_2 ++ (⟨#[58, 98]⟩ : ByteArray))).bind fun t193 => (if t193 = true then ((hopscotchlaw02_NameBegins.f k2 x5_2).bind fun t194 => (if t194 = true then (if x5_2.size + 4 ≤ 9223372036854775807 then ((hopscotchlaw02_NameBegins.f k2 (x5_2 ++ (⟨#[58, 98, 58, 99]⟩ : ByteArray))).bind fun t195 => (if t195 = true then ((hopscotchlaw02_NameBack.f k2 x5_2 (⟨#[97, 98]⟩ : ByteArray) 32).bind fun t196 => (if t196 = true then ((hopscotchlaw02_NameBack.f k2 x5_2 x5_2 61).bind fun t197 => (if t197 = true then (if x5_2.size + 1 ≤ 9223372036854775807 then (hopscotchlaw02_NameKnown.l2 k2 (x5_2 ++ (⟨#[120]⟩ : ByteArray)) (wrap64 (x6_2 + 1))) else (none)) else (some false))) else (some false))) else (some false))) else (none)) else (some false))) else (some false))) else (none)) else (some false))) else (none)) else (some false)) = some r := H
              have A42 := Aside0.mk A420
              clear A420
              by_cases c43 : t191 = true
              · subst c43
                have H1 : (if 2 + x5_2.size ≤ 9223372036854775807 then ((hopscotchlaw02_NameSplits.f k2 ((⟨#[97, 58]⟩ : ByteArray) ++ x5_2)).bind fun t192 => (if t192 = true then (if x5_2.size + 2 ≤ 9223372036854775807 then ((hopscotchlaw02_NameSplits.f k2 (x5_2 ++ (⟨#[58, 98]⟩ : ByteArray))).bind fun t193 => (if t193 = true then ((hopscotchlaw02_NameBegins.f k2 x5_2).bind fun t194 => (if t194 = true then (if x5_2.size + 4 ≤ 9223372036854775807 then ((hopscotchlaw02_NameBegins.f k2 (x5_2 ++ (⟨#[58, 98, 58, 99]⟩ : ByteArray))).bind fun t195 => (if t195 = true then ((hopscotchlaw02_NameBack.f k2 x5_2 (⟨#[97, 98]⟩ : ByteArray) 32).bind fun t196 => (if t196 = true then ((hopscotchlaw02_NameBack.f k2 x5_2 x5_2 61).bind fun t197 => (if t197 = true then (if x5_2.size + 1 ≤ 9223372036854775807 then (hopscotchlaw02_NameKnown.l2 k2 (x5_2 ++ (⟨#[120]⟩ : ByteArray)) (wrap64 (x6_2 + 1))) else (none)) else (some false))) else (some false))) else (some false))) else (none)) else (some false))) else (some false))) else (none)) else (some false))) else (none)) = some r := by rw [if_pos rfl] at H; exact H
                clear H
                have H := H1
                clear H1
                by_cases c44 : 2 + x5_2.size ≤ 9223372036854775807
                · rw [if_pos c44] at H
                  have c44b0 := eq_true c44
                  have c44b1 : decide (2 + x5_2.size ≤ 9223372036854775807) = true := decide_eq_true c44
                  try have c44b2 : (9223372036854775807 < 2 + x5_2.size) = False := eq_false (Nat.not_lt.2 c44)
                  replace H := Option.bind_eq_some_iff.mp H
                  obtain ⟨t192, A450, H⟩ := H
                  replace H : (if t192 = true then (if x5_2.size + 2 ≤ 9223372036854775807 then ((hopscotchlaw02_NameSplits.f k2 (x5_2 ++ (⟨#[58, 98]⟩ : ByteArray))).bind fun t193 => (if t193 = true then ((hopscotchlaw02_NameBegins.f k2 x5_2).bind fun t194 => (if t194 = true then (if x5_2.size + 4 ≤ 9223372036854775807 then ((hopscotchlaw02_NameBegins.f k2 (x5_2 ++ (⟨#[58, 98, 58, 99]⟩ : ByteArray))).bind fun t195 => (if t195 = true then ((hopscotchlaw02_NameBack.f k2 x5_2 (⟨#[97, 98]⟩ : ByteArray) 32).bind fun t196 => (if t196 = true then ((hopscotchlaw02_NameBack.f k2 x5_2 x5_2 61).bind fun t197 => (if t197 = true then (if x5_2.size + 1 ≤ 9223372036854775807 then (hopscotchlaw02_NameKnown.l2 k2 (x5_2 ++ (⟨#[120]⟩ : ByteArray)) (wrap64 (x6_2 + 1))) else (none)) else (some false))) else (some false))) else (some false))) else (none)) else (some false))) else (some false))) else (none)) else (some false)) = some r := H
                  have A45 := Aside0.mk A450
                  clear A450
                  by_cases c46 : t192 = true
                  · subst c46
                    have H1 : (if x5_2.size + 2 ≤ 9223372036854775807 then ((hopscotchlaw02_NameSplits.f k2 (x5_2 ++ (⟨#[58, 98]⟩ : ByteArray))).bind fun t193 => (if t193 = true then ((hopscotchlaw02_NameBegins.f k2 x5_2).bind fun t194 => (if t194 = true then (if x5_2.size + 4 ≤ 9223372036854775807 then ((hopscotchlaw02_NameBegins.f k2 (x5_2 ++ (⟨#[58, 98, 58, 99]⟩ : ByteArray))).bind fun t195 => (if t195 = true then ((hopscotchlaw02_NameBack.f k2 x5_2 (⟨#[97, 98]⟩ : ByteArray) 32).bind fun t196 => (if t196 = true then ((hopscotchlaw02_NameBack.f k2 x5_2 x5_2 61).bind fun t197 => (if t197 = true then (if x5_2.size + 1 ≤ 9223372036854775807 then (hopscotchlaw02_NameKnown.l2 k2 (x5_2 ++ (⟨#[120]⟩ : ByteArray)) (wrap64 (x6_2 + 1))) else (none)) else (some false))) else (some false))) else (some false))) else (none)) else (some false))) else (some false))) else (none)) = some r := by rw [if_pos rfl] at H; exact H
                    clear H
                    have H := H1
                    clear H1
                    by_cases c47 : x5_2.size + 2 ≤ 9223372036854775807
                    · rw [if_pos c47] at H
                      have c47b0 := eq_true c47
                      have c47b1 : decide (x5_2.size + 2 ≤ 9223372036854775807) = true := decide_eq_true c47
                      try have c47b2 : (9223372036854775807 < x5_2.size + 2) = False := eq_false (Nat.not_lt.2 c47)
                      replace H := Option.bind_eq_some_iff.mp H
                      obtain ⟨t193, A480, H⟩ := H
                      replace H : (if t193 = true then ((hopscotchlaw02_NameBegins.f k2 x5_2).bind fun t194 => (if t194 = true then (if x5_2.size + 4 ≤ 9223372036854775807 then ((hopscotchlaw02_NameBegins.f k2 (x5_2 ++ (⟨#[58, 98, 58, 99]⟩ : ByteArray))).bind fun t195 => (if t195 = true then ((hopscotchlaw02_NameBack.f k2 x5_2 (⟨#[97, 98]⟩ : ByteArray) 32).bind fun t196 => (if t196 = true then ((hopscotchlaw02_NameBack.f k2 x5_2 x5_2 61).bind fun t197 => (if t197 = true then (if x5_2.size + 1 ≤ 9223372036854775807 then (hopscotchlaw02_NameKnown.l2 k2 (x5_2 ++ (⟨#[120]⟩ : ByteArray)) (wrap64 (x6_2 + 1))) else (none)) else (some false))) else (some false))) else (some false))) else (none)) else (some false))) else (some false)) = some r := H
                      have A48 := Aside0.mk A480
                      clear A480
                      by_cases c49 : t193 = true
                      · subst c49
                        have H1 : ((hopscotchlaw02_NameBegins.f k2 x5_2).bind fun t194 => (if t194 = true then (if x5_2.size + 4 ≤ 9223372036854775807 then ((hopscotchlaw02_NameBegins.f k2 (x5_2 ++ (⟨#[58, 98, 58, 99]⟩ : ByteArray))).bind fun t195 => (if t195 = true then ((hopscotchlaw02_NameBack.f k2 x5_2 (⟨#[97, 98]⟩ : ByteArray) 32).bind fun t196 => (if t196 = true then ((hopscotchlaw02_NameBack.f k2 x5_2 x5_2 61).bind fun t197 => (if t197 = true then (if x5_2.size + 1 ≤ 9223372036854775807 then (hopscotchlaw02_NameKnown.l2 k2 (x5_2 ++ (⟨#[120]⟩ : ByteArray)) (wrap64 (x6_2 + 1))) else (none)) else (some false))) else (some false))) else (some false))) else (none)) else (some false))) = some r := by rw [if_pos rfl] at H; exact H
                        clear H
                        have H := H1
                        clear H1
                        replace H := Option.bind_eq_some_iff.mp H
                        obtain ⟨t194, A500, H⟩ := H
                        replace H : (if t194 = true then (if x5_2.size + 4 ≤ 9223372036854775807 then ((hopscotchlaw02_NameBegins.f k2 (x5_2 ++ (⟨#[58, 98, 58, 99]⟩ : ByteArray))).bind fun t195 => (if t195 = true then ((hopscotchlaw02_NameBack.f k2 x5_2 (⟨#[97, 98]⟩ : ByteArray) 32).bind fun t196 => (if t196 = true then ((hopscotchlaw02_NameBack.f k2 x5_2 x5_2 61).bind fun t197 => (if t197 = true then (if x5_2.size + 1 ≤ 9223372036854775807 then (hopscotchlaw02_NameKnown.l2 k2 (x5_2 ++ (⟨#[120]⟩ : ByteArray)) (wrap64 (x6_2 + 1))) else (none)) else (some false))) else (some false))) else (some false))) else (none)) else (some false)) = some r := H
                        have A50 := Aside0.mk A500
                        clear A500
                        by_cases c51 : t194 = true
                        · subst c51
                          have H1 : (if x5_2.size + 4 ≤ 9223372036854775807 then ((hopscotchlaw02_NameBegins.f k2 (x5_2 ++ (⟨#[58, 98, 58, 99]⟩ : ByteArray))).bind fun t195 => (if t195 = true then ((hopscotchlaw02_NameBack.f k2 x5_2 (⟨#[97, 98]⟩ : ByteArray) 32).bind fun t196 => (if t196 = true then ((hopscotchlaw02_NameBack.f k2 x5_2 x5_2 61).bind fun t197 => (if t197 = true then (if x5_2.size + 1 ≤ 9223372036854775807 then (hopscotchlaw02_NameKnown.l2 k2 (x5_2 ++ (⟨#[120]⟩ : ByteArray)) (wrap64 (x6_2 + 1))) else (none)) else (some false))) else (some false))) else (some false))) else (none)) = some r := by rw [if_pos rfl] at H; exact H
                          clear H
                          have H := H1
                          clear H1
                          by_cases c52 : x5_2.size + 4 ≤ 9223372036854775807
                          · rw [if_pos c52] at H
                            have c52b0 := eq_true c52
                            have c52b1 : decide (x5_2.size + 4 ≤ 9223372036854775807) = true := decide_eq_true c52
                            try have c52b2 : (9223372036854775807 < x5_2.size + 4) = False := eq_false (Nat.not_lt.2 c52)
                            replace H := Option.bind_eq_some_iff.mp H
                            obtain ⟨t195, A530, H⟩ := H
                            replace H : (if t195 = true then ((hopscotchlaw02_NameBack.f k2 x5_2 (⟨#[97, 98]⟩ : ByteArray) 32).bind fun t196 => (if t196 = true then ((hopscotchlaw02_NameBack.f k2 x5_2 x5_2 61).bind fun t197 => (if t197 = true then (if x5_2.size + 1 ≤ 9223372036854775807 then (hopscotchlaw02_NameKnown.l2 k2 (x5_2 ++ (⟨#[120]⟩ : ByteArray)) (wrap64 (x6_2 + 1))) else (none)) else (some false))) else (some false))) else (some false)) = some r := H
                            have A53 := Aside0.mk A530
                            clear A530
                            by_cases c54 : t195 = true
                            · subst c54
                              have H1 : ((hopscotchlaw02_NameBack.f k2 x5_2 (⟨#[97, 98]⟩ : ByteArray) 32).bind fun t196 => (if t196 = true then ((hopscotchlaw02_NameBack.f k2 x5_2 x5_2 61).bind fun t197 => (if t197 = true then (if x5_2.size + 1 ≤ 9223372036854775807 then (hopscotchlaw02_NameKnown.l2 k2 (x5_2 ++ (⟨#[120]⟩ : ByteArray)) (wrap64 (x6_2 + 1))) else (none)) else (some false))) else (some false))) = some r := by rw [if_pos rfl] at H; exact H
                              clear H
                              have H := H1
                              clear H1
                              replace H := Option.bind_eq_some_iff.mp H
                              obtain ⟨t196, A550, H⟩ := H
                              replace H : (if t196 = true then ((hopscotchlaw02_NameBack.f k2 x5_2 x5_2 61).bind fun t197 => (if t197 = true then (if x5_2.size + 1 ≤ 9223372036854775807 then (hopscotchlaw02_NameKnown.l2 k2 (x5_2 ++ (⟨#[120]⟩ : ByteArray)) (wrap64 (x6_2 + 1))) else (none)) else (some false))) else (some false)) = some r := H
                              have A55 := Aside0.mk A550
                              clear A550
                              by_cases c56 : t196 = true
                              · subst c56
                                have H1 : ((hopscotchlaw02_NameBack.f k2 x5_2 x5_2 61).bind fun t197 => (if t197 = true then (if x5_2.size + 1 ≤ 9223372036854775807 then (hopscotchlaw02_NameKnown.l2 k2 (x5_2 ++ (⟨#[120]⟩ : ByteArray)) (wrap64 (x6_2 + 1))) else (none)) else (some false))) = some r := by rw [if_pos rfl] at H; exact H
                                clear H
                                have H := H1
                                clear H1
                                replace H := Option.bind_eq_some_iff.mp H
                                obtain ⟨t197, A570, H⟩ := H
                                replace H : (if t197 = true then (if x5_2.size + 1 ≤ 9223372036854775807 then (hopscotchlaw02_NameKnown.l2 k2 (x5_2 ++ (⟨#[120]⟩ : ByteArray)) (wrap64 (x6_2 + 1))) else (none)) else (some false)) = some r := H
                                have A57 := Aside0.mk A570
                                clear A570
                                by_cases c58 : t197 = true
                                · subst c58
                                  have H1 : (if x5_2.size + 1 ≤ 9223372036854775807 then (hopscotchlaw02_NameKnown.l2 k2 (x5_2 ++ (⟨#[120]⟩ : ByteArray)) (wrap64 (x6_2 + 1))) else (none)) = some r := by rw [if_pos rfl] at H; exact H
                                  clear H
                                  have H := H1
                                  clear H1
                                  by_cases c59 : x5_2.size + 1 ≤ 9223372036854775807
                                  · rw [if_pos c59] at H
                                    have c59b0 := eq_true c59
                                    have c59b1 : decide (x5_2.size + 1 ≤ 9223372036854775807) = true := decide_eq_true c59
                                    try have c59b2 : (9223372036854775807 < x5_2.size + 1) = False := eq_false (Nat.not_lt.2 c59)
                                    have H' := Aside0.mk H
                                    clear H
                                    go_wp2_with (first | ((with_reducible refine gate_callee (f := 4) rfl ?_); refine goesL_ (some 69) rfl rfl Try.func4 (by kernel_rfl) rfl #[.string x5_2] rfl (by (try simp only [List.map_toArray, List.map_cons, List.map_nil]); first | done | rfl | (simp only [List.length_drop, List.length_take]; rfl)) ?_; (with_reducible refine (hopscotchlaw02_NameSplits.calls k2 x5_2 true _ A42.out).mono ?_); rintro e w60 ⟨rfl, hb⟩; refine ⟨_, rfl, ?_⟩; have n0_ := Aside0.mk (below_step (by repeat (first | (with_reducible first | exact HB.out | apply below_alloc | apply pw_below_drewN | apply below_drew1) | exact HB.out)) hb); clear HB; have HB := n0_; clear n0_; (try clear hb); (try clear hb2); (try clear hk); (try clear hi)) | (go_at_call 4; (with_reducible refine (hopscotchlaw02_NameSplits.calls k2 ((⟨#[97, 58]⟩ : ByteArray) ++ x5_2) true _ A45.out).mono ?_); rintro e w61 ⟨rfl, hb⟩; have n0_ := Aside0.mk (below_step (by repeat (first | (with_reducible first | exact HB.out | apply below_alloc | apply pw_below_drewN | apply below_drew1) | exact HB.out)) hb); clear HB; have HB := n0_; clear n0_; (try clear hb); (try clear hb2); (try clear hk); (try clear hi)) | (go_at_call 4; (with_reducible refine (hopscotchlaw02_NameSplits.calls k2 (x5_2 ++ (⟨#[58, 98]⟩ : ByteArray)) true _ A48.out).mono ?_); rintro e w62 ⟨rfl, hb⟩; have n0_ := Aside0.mk (below_step (by repeat (first | (with_reducible first | exact HB.out | apply below_alloc | apply pw_below_drewN | apply below_drew1) | exact HB.out)) hb); clear HB; have HB := n0_; clear n0_; (try clear hb); (try clear hb2); (try clear hk); (try clear hi)) | (go_at_call 3; (with_reducible refine (hopscotchlaw02_NameBegins.calls k2 x5_2 true _ A50.out).mono ?_); rintro e w63 ⟨rfl, hb⟩; have n0_ := Aside0.mk (below_step (by repeat (first | (with_reducible first | exact HB.out | apply below_alloc | apply pw_below_drewN | apply below_drew1) | exact HB.out)) hb); clear HB; have HB := n0_; clear n0_; (try clear hb); (try clear hb2); (try clear hk); (try clear hi)) | (go_at_call 3; (with_reducible refine (hopscotchlaw02_NameBegins.calls k2 (x5_2 ++ (⟨#[58, 98, 58, 99]⟩ : ByteArray)) true _ A53.out).mono ?_); rintro e w64 ⟨rfl, hb⟩; have n0_ := Aside0.mk (below_step (by repeat (first | (with_reducible first | exact HB.out | apply below_alloc | apply pw_below_drewN | apply below_drew1) | exact HB.out)) hb); clear HB; have HB := n0_; clear n0_; (try clear hb); (try clear hb2); (try clear hk); (try clear hi)) | (go_at_call 5; (with_reducible refine (hopscotchlaw02_NameBack.calls k2 x5_2 (⟨#[97, 98]⟩ : ByteArray) 32 true _ A55.out).mono ?_); rintro e w65 ⟨rfl, hb⟩; have n0_ := Aside0.mk (below_step (by repeat (first | (with_reducible first | exact HB.out | apply below_alloc | apply pw_below_drewN | apply below_drew1) | exact HB.out)) hb); clear HB; have HB := n0_; clear n0_; (try clear hb); (try clear hb2); (try clear hk); (try clear hi)) | (go_at_call 5; (with_reducible refine (hopscotchlaw02_NameBack.calls k2 x5_2 x5_2 61 true _ A57.out).mono ?_); rintro e w66 ⟨rfl, hb⟩; have n0_ := Aside0.mk (below_step (by repeat (first | (with_reducible first | exact HB.out | apply below_alloc | apply pw_below_drewN | apply below_drew1) | exact HB.out)) hb); clear HB; have HB := n0_; clear n0_; (try clear hb); (try clear hb2); (try clear hk); (try clear hi)))
                                    go_roundg k2
                                    case measure => have := HK1.out; have := HK2.out; omega
                                    case rel => exact ⟨(x5_2 ++ (⟨#[120]⟩ : ByteArray)), (wrap64 (x6_2 + 1)), (by first | rfl | (simp; done) | (simp [*]; done) | (simp [bne, show ∀ l_ : List UInt8, (l_ == []) = l_.isEmpty from fun l_ => by cases l_ <;> rfl]; done)), (by first | rfl | (simp; done) | (simp [*]; done) | (simp [bne, show ∀ l_ : List UInt8, (l_ == []) = l_.isEmpty from fun l_ => by cases l_ <;> rfl]; done)), H', ⟨by have := HK1.out; have := HK2.out; omega⟩, ⟨by repeat (first | (with_reducible first | exact HB.out | apply below_alloc | apply pw_below_drewN | apply below_drew1) | exact HB.out)⟩⟩
                                  · rw [if_neg c59] at H
                                    exact absurd H (by simp)
                                · replace c58 := Bool.eq_false_iff.mpr c58
                                  subst c58
                                  have H1 : (some false) = some r := by rw [if_neg (show ¬ (false = true) by decide)] at H; exact H
                                  clear H
                                  have H := H1
                                  clear H1
                                  obtain rfl := Option.some.inj H
                                  go_wp2_with (first | ((with_reducible refine gate_callee (f := 4) rfl ?_); refine goesL_ (some 69) rfl rfl Try.func4 (by kernel_rfl) rfl #[.string x5_2] rfl (by (try simp only [List.map_toArray, List.map_cons, List.map_nil]); first | done | rfl | (simp only [List.length_drop, List.length_take]; rfl)) ?_; (with_reducible refine (hopscotchlaw02_NameSplits.calls k2 x5_2 true _ A42.out).mono ?_); rintro e w67 ⟨rfl, hb⟩; refine ⟨_, rfl, ?_⟩; have n0_ := Aside0.mk (below_step (by repeat (first | (with_reducible first | exact HB.out | apply below_alloc | apply pw_below_drewN | apply below_drew1) | exact HB.out)) hb); clear HB; have HB := n0_; clear n0_; (try clear hb); (try clear hb2); (try clear hk); (try clear hi)) | (go_at_call 4; (with_reducible refine (hopscotchlaw02_NameSplits.calls k2 ((⟨#[97, 58]⟩ : ByteArray) ++ x5_2) true _ A45.out).mono ?_); rintro e w68 ⟨rfl, hb⟩; have n0_ := Aside0.mk (below_step (by repeat (first | (with_reducible first | exact HB.out | apply below_alloc | apply pw_below_drewN | apply below_drew1) | exact HB.out)) hb); clear HB; have HB := n0_; clear n0_; (try clear hb); (try clear hb2); (try clear hk); (try clear hi)) | (go_at_call 4; (with_reducible refine (hopscotchlaw02_NameSplits.calls k2 (x5_2 ++ (⟨#[58, 98]⟩ : ByteArray)) true _ A48.out).mono ?_); rintro e w69 ⟨rfl, hb⟩; have n0_ := Aside0.mk (below_step (by repeat (first | (with_reducible first | exact HB.out | apply below_alloc | apply pw_below_drewN | apply below_drew1) | exact HB.out)) hb); clear HB; have HB := n0_; clear n0_; (try clear hb); (try clear hb2); (try clear hk); (try clear hi)) | (go_at_call 3; (with_reducible refine (hopscotchlaw02_NameBegins.calls k2 x5_2 true _ A50.out).mono ?_); rintro e w70 ⟨rfl, hb⟩; have n0_ := Aside0.mk (below_step (by repeat (first | (with_reducible first | exact HB.out | apply below_alloc | apply pw_below_drewN | apply below_drew1) | exact HB.out)) hb); clear HB; have HB := n0_; clear n0_; (try clear hb); (try clear hb2); (try clear hk); (try clear hi)) | (go_at_call 3; (with_reducible refine (hopscotchlaw02_NameBegins.calls k2 (x5_2 ++ (⟨#[58, 98, 58, 99]⟩ : ByteArray)) true _ A53.out).mono ?_); rintro e w71 ⟨rfl, hb⟩; have n0_ := Aside0.mk (below_step (by repeat (first | (with_reducible first | exact HB.out | apply below_alloc | apply pw_below_drewN | apply below_drew1) | exact HB.out)) hb); clear HB; have HB := n0_; clear n0_; (try clear hb); (try clear hb2); (try clear hk); (try clear hi)) | (go_at_call 5; (with_reducible refine (hopscotchlaw02_NameBack.calls k2 x5_2 (⟨#[97, 98]⟩ : ByteArray) 32 true _ A55.out).mono ?_); rintro e w72 ⟨rfl, hb⟩; have n0_ := Aside0.mk (below_step (by repeat (first | (with_reducible first | exact HB.out | apply below_alloc | apply pw_below_drewN | apply below_drew1) | exact HB.out)) hb); clear HB; have HB := n0_; clear n0_; (try clear hb); (try clear hb2); (try clear hk); (try clear hi)) | (go_at_call 5; (with_reducible refine (hopscotchlaw02_NameBack.calls k2 x5_2 x5_2 61 false _ A57.out).mono ?_); rintro e w73 ⟨rfl, hb⟩; have n0_ := Aside0.mk (below_step (by repeat (first | (with_reducible first | exact HB.out | apply below_alloc | apply pw_below_drewN | apply below_drew1) | exact HB.out)) hb); clear HB; have HB := n0_; clear n0_; (try clear hb); (try clear hb2); (try clear hk); (try clear hi)))
                                  go_ret
                                  exact ⟨by first | rfl | (simp [errW_none, errW_some] <;> rfl) | (simp [*, errW_none, errW_some] <;> rfl), by repeat (first | (with_reducible first | exact HB.out | apply below_alloc | apply pw_below_drewN | apply below_drew1) | exact HB.out)⟩
                              · replace c56 := Bool.eq_false_iff.mpr c56
                                subst c56
                                have H1 : (some false) = some r := by rw [if_neg (show ¬ (false = true) by decide)] at H; exact H
                                clear H
                                have H := H1
                                clear H1
                                obtain rfl := Option.some.inj H
                                go_wp2_with (first | ((with_reducible refine gate_callee (f := 4) rfl ?_); refine goesL_ (some 69) rfl rfl Try.func4 (by kernel_rfl) rfl #[.string x5_2] rfl (by (try simp only [List.map_toArray, List.map_cons, List.map_nil]); first | done | rfl | (simp only [List.length_drop, List.length_take]; rfl)) ?_; (with_reducible refine (hopscotchlaw02_NameSplits.calls k2 x5_2 true _ A42.out).mono ?_); rintro e w74 ⟨rfl, hb⟩; refine ⟨_, rfl, ?_⟩; have n0_ := Aside0.mk (below_step (by repeat (first | (with_reducible first | exact HB.out | apply below_alloc | apply pw_below_drewN | apply below_drew1) | exact HB.out)) hb); clear HB; have HB := n0_; clear n0_; (try clear hb); (try clear hb2); (try clear hk); (try clear hi)) | (go_at_call 4; (with_reducible refine (hopscotchlaw02_NameSplits.calls k2 ((⟨#[97, 58]⟩ : ByteArray) ++ x5_2) true _ A45.out).mono ?_); rintro e w75 ⟨rfl, hb⟩; have n0_ := Aside0.mk (below_step (by repeat (first | (with_reducible first | exact HB.out | apply below_alloc | apply pw_below_drewN | apply below_drew1) | exact HB.out)) hb); clear HB; have HB := n0_; clear n0_; (try clear hb); (try clear hb2); (try clear hk); (try clear hi)) | (go_at_call 4; (with_reducible refine (hopscotchlaw02_NameSplits.calls k2 (x5_2 ++ (⟨#[58, 98]⟩ : ByteArray)) true _ A48.out).mono ?_); rintro e w76 ⟨rfl, hb⟩; have n0_ := Aside0.mk (below_step (by repeat (first | (with_reducible first | exact HB.out | apply below_alloc | apply pw_below_drewN | apply below_drew1) | exact HB.out)) hb); clear HB; have HB := n0_; clear n0_; (try clear hb); (try clear hb2); (try clear hk); (try clear hi)) | (go_at_call 3; (with_reducible refine (hopscotchlaw02_NameBegins.calls k2 x5_2 true _ A50.out).mono ?_); rintro e w77 ⟨rfl, hb⟩; have n0_ := Aside0.mk (below_step (by repeat (first | (with_reducible first | exact HB.out | apply below_alloc | apply pw_below_drewN | apply below_drew1) | exact HB.out)) hb); clear HB; have HB := n0_; clear n0_; (try clear hb); (try clear hb2); (try clear hk); (try clear hi)) | (go_at_call 3; (with_reducible refine (hopscotchlaw02_NameBegins.calls k2 (x5_2 ++ (⟨#[58, 98, 58, 99]⟩ : ByteArray)) true _ A53.out).mono ?_); rintro e w78 ⟨rfl, hb⟩; have n0_ := Aside0.mk (below_step (by repeat (first | (with_reducible first | exact HB.out | apply below_alloc | apply pw_below_drewN | apply below_drew1) | exact HB.out)) hb); clear HB; have HB := n0_; clear n0_; (try clear hb); (try clear hb2); (try clear hk); (try clear hi)) | (go_at_call 5; (with_reducible refine (hopscotchlaw02_NameBack.calls k2 x5_2 (⟨#[97, 98]⟩ : ByteArray) 32 false _ A55.out).mono ?_); rintro e w79 ⟨rfl, hb⟩; have n0_ := Aside0.mk (below_step (by repeat (first | (with_reducible first | exact HB.out | apply below_alloc | apply pw_below_drewN | apply below_drew1) | exact HB.out)) hb); clear HB; have HB := n0_; clear n0_; (try clear hb); (try clear hb2); (try clear hk); (try clear hi)))
                                go_ret
                                exact ⟨by first | rfl | (simp [errW_none, errW_some] <;> rfl) | (simp [*, errW_none, errW_some] <;> rfl), by repeat (first | (with_reducible first | exact HB.out | apply below_alloc | apply pw_below_drewN | apply below_drew1) | exact HB.out)⟩
                            · replace c54 := Bool.eq_false_iff.mpr c54
                              subst c54
                              have H1 : (some false) = some r := by rw [if_neg (show ¬ (false = true) by decide)] at H; exact H
                              clear H
                              have H := H1
                              clear H1
                              obtain rfl := Option.some.inj H
                              go_wp2_with (first | ((with_reducible refine gate_callee (f := 4) rfl ?_); refine goesL_ (some 69) rfl rfl Try.func4 (by kernel_rfl) rfl #[.string x5_2] rfl (by (try simp only [List.map_toArray, List.map_cons, List.map_nil]); first | done | rfl | (simp only [List.length_drop, List.length_take]; rfl)) ?_; (with_reducible refine (hopscotchlaw02_NameSplits.calls k2 x5_2 true _ A42.out).mono ?_); rintro e w80 ⟨rfl, hb⟩; refine ⟨_, rfl, ?_⟩; have n0_ := Aside0.mk (below_step (by repeat (first | (with_reducible first | exact HB.out | apply below_alloc | apply pw_below_drewN | apply below_drew1) | exact HB.out)) hb); clear HB; have HB := n0_; clear n0_; (try clear hb); (try clear hb2); (try clear hk); (try clear hi)) | (go_at_call 4; (with_reducible refine (hopscotchlaw02_NameSplits.calls k2 ((⟨#[97, 58]⟩ : ByteArray) ++ x5_2) true _ A45.out).mono ?_); rintro e w81 ⟨rfl, hb⟩; have n0_ := Aside0.mk (below_step (by repeat (first | (with_reducible first | exact HB.out | apply below_alloc | apply pw_below_drewN | apply below_drew1) | exact HB.out)) hb); clear HB; have HB := n0_; clear n0_; (try clear hb); (try clear hb2); (try clear hk); (try clear hi)) | (go_at_call 4; (with_reducible refine (hopscotchlaw02_NameSplits.calls k2 (x5_2 ++ (⟨#[58, 98]⟩ : ByteArray)) true _ A48.out).mono ?_); rintro e w82 ⟨rfl, hb⟩; have n0_ := Aside0.mk (below_step (by repeat (first | (with_reducible first | exact HB.out | apply below_alloc | apply pw_below_drewN | apply below_drew1) | exact HB.out)) hb); clear HB; have HB := n0_; clear n0_; (try clear hb); (try clear hb2); (try clear hk); (try clear hi)) | (go_at_call 3; (with_reducible refine (hopscotchlaw02_NameBegins.calls k2 x5_2 true _ A50.out).mono ?_); rintro e w83 ⟨rfl, hb⟩; have n0_ := Aside0.mk (below_step (by repeat (first | (with_reducible first | exact HB.out | apply below_alloc | apply pw_below_drewN | apply below_drew1) | exact HB.out)) hb); clear HB; have HB := n0_; clear n0_; (try clear hb); (try clear hb2); (try clear hk); (try clear hi)) | (go_at_call 3; (with_reducible refine (hopscotchlaw02_NameBegins.calls k2 (x5_2 ++ (⟨#[58, 98, 58, 99]⟩ : ByteArray)) false _ A53.out).mono ?_); rintro e w84 ⟨rfl, hb⟩; have n0_ := Aside0.mk (below_step (by repeat (first | (with_reducible first | exact HB.out | apply below_alloc | apply pw_below_drewN | apply below_drew1) | exact HB.out)) hb); clear HB; have HB := n0_; clear n0_; (try clear hb); (try clear hb2); (try clear hk); (try clear hi)))
                              go_ret
                              exact ⟨by first | rfl | (simp [errW_none, errW_some] <;> rfl) | (simp [*, errW_none, errW_some] <;> rfl), by repeat (first | (with_reducible first | exact HB.out | apply below_alloc | apply pw_below_drewN | apply below_drew1) | exact HB.out)⟩
                          · rw [if_neg c52] at H
                            exact absurd H (by simp)
                        · replace c51 := Bool.eq_false_iff.mpr c51
                          subst c51
                          have H1 : (some false) = some r := by rw [if_neg (show ¬ (false = true) by decide)] at H; exact H
                          clear H
                          have H := H1
                          clear H1
                          obtain rfl := Option.some.inj H
                          go_wp2_with (first | ((with_reducible refine gate_callee (f := 4) rfl ?_); refine goesL_ (some 69) rfl rfl Try.func4 (by kernel_rfl) rfl #[.string x5_2] rfl (by (try simp only [List.map_toArray, List.map_cons, List.map_nil]); first | done | rfl | (simp only [List.length_drop, List.length_take]; rfl)) ?_; (with_reducible refine (hopscotchlaw02_NameSplits.calls k2 x5_2 true _ A42.out).mono ?_); rintro e w85 ⟨rfl, hb⟩; refine ⟨_, rfl, ?_⟩; have n0_ := Aside0.mk (below_step (by repeat (first | (with_reducible first | exact HB.out | apply below_alloc | apply pw_below_drewN | apply below_drew1) | exact HB.out)) hb); clear HB; have HB := n0_; clear n0_; (try clear hb); (try clear hb2); (try clear hk); (try clear hi)) | (go_at_call 4; (with_reducible refine (hopscotchlaw02_NameSplits.calls k2 ((⟨#[97, 58]⟩ : ByteArray) ++ x5_2) true _ A45.out).mono ?_); rintro e w86 ⟨rfl, hb⟩; have n0_ := Aside0.mk (below_step (by repeat (first | (with_reducible first | exact HB.out | apply below_alloc | apply pw_below_drewN | apply below_drew1) | exact HB.out)) hb); clear HB; have HB := n0_; clear n0_; (try clear hb); (try clear hb2); (try clear hk); (try clear hi)) | (go_at_call 4; (with_reducible refine (hopscotchlaw02_NameSplits.calls k2 (x5_2 ++ (⟨#[58, 98]⟩ : ByteArray)) true _ A48.out).mono ?_); rintro e w87 ⟨rfl, hb⟩; have n0_ := Aside0.mk (below_step (by repeat (first | (with_reducible first | exact HB.out | apply below_alloc | apply pw_below_drewN | apply below_drew1) | exact HB.out)) hb); clear HB; have HB := n0_; clear n0_; (try clear hb); (try clear hb2); (try clear hk); (try clear hi)) | (go_at_call 3; (with_reducible refine (hopscotchlaw02_NameBegins.calls k2 x5_2 false _ A50.out).mono ?_); rintro e w88 ⟨rfl, hb⟩; have n0_ := Aside0.mk (below_step (by repeat (first | (with_reducible first | exact HB.out | apply below_alloc | apply pw_below_drewN | apply below_drew1) | exact HB.out)) hb); clear HB; have HB := n0_; clear n0_; (try clear hb); (try clear hb2); (try clear hk); (try clear hi)))
                          go_ret
                          exact ⟨by first | rfl | (simp [errW_none, errW_some] <;> rfl) | (simp [*, errW_none, errW_some] <;> rfl), by repeat (first | (with_reducible first | exact HB.out | apply below_alloc | apply pw_below_drewN | apply below_drew1) | exact HB.out)⟩
                      · replace c49 := Bool.eq_false_iff.mpr c49
                        subst c49
                        have H1 : (some false) = some r := by rw [if_neg (show ¬ (false = true) by decide)] at H; exact H
                        clear H
                        have H := H1
                        clear H1
                        obtain rfl := Option.some.inj H
                        go_wp2_with (first | ((with_reducible refine gate_callee (f := 4) rfl ?_); refine goesL_ (some 69) rfl rfl Try.func4 (by kernel_rfl) rfl #[.string x5_2] rfl (by (try simp only [List.map_toArray, List.map_cons, List.map_nil]); first | done | rfl | (simp only [List.length_drop, List.length_take]; rfl)) ?_; (with_reducible refine (hopscotchlaw02_NameSplits.calls k2 x5_2 true _ A42.out).mono ?_); rintro e w89 ⟨rfl, hb⟩; refine ⟨_, rfl, ?_⟩; have n0_ := Aside0.mk (below_step (by repeat (first | (with_reducible first | exact HB.out | apply below_alloc | apply pw_below_drewN | apply below_drew1) | exact HB.out)) hb); clear HB; have HB := n0_; clear n0_; (try clear hb); (try clear hb2); (try clear hk); (try clear hi)) | (go_at_call 4; (with_reducible refine (hopscotchlaw02_NameSplits.calls k2 ((⟨#[97, 58]⟩ : ByteArray) ++ x5_2) true _ A45.out).mono ?_); rintro e w90 ⟨rfl, hb⟩; have n0_ := Aside0.mk (below_step (by repeat (first | (with_reducible first | exact HB.out | apply below_alloc | apply pw_below_drewN | apply below_drew1) | exact HB.out)) hb); clear HB; have HB := n0_; clear n0_; (try clear hb); (try clear hb2); (try clear hk); (try clear hi)) | (go_at_call 4; (with_reducible refine (hopscotchlaw02_NameSplits.calls k2 (x5_2 ++ (⟨#[58, 98]⟩ : ByteArray)) false _ A48.out).mono ?_); rintro e w91 ⟨rfl, hb⟩; have n0_ := Aside0.mk (below_step (by repeat (first | (with_reducible first | exact HB.out | apply below_alloc | apply pw_below_drewN | apply below_drew1) | exact HB.out)) hb); clear HB; have HB := n0_; clear n0_; (try clear hb); (try clear hb2); (try clear hk); (try clear hi)))
                        go_ret
                        exact ⟨by first | rfl | (simp [errW_none, errW_some] <;> rfl) | (simp [*, errW_none, errW_some] <;> rfl), by repeat (first | (with_reducible first | exact HB.out | apply below_alloc | apply pw_below_drewN | apply below_drew1) | exact HB.out)⟩
                    · rw [if_neg c47] at H
                      exact absurd H (by simp)
                  · replace c46 := Bool.eq_false_iff.mpr c46
                    subst c46
                    have H1 : (some false) = some r := by rw [if_neg (show ¬ (false = true) by decide)] at H; exact H
                    clear H
                    have H := H1
                    clear H1
                    obtain rfl := Option.some.inj H
                    go_wp2_with (first | ((with_reducible refine gate_callee (f := 4) rfl ?_); refine goesL_ (some 69) rfl rfl Try.func4 (by kernel_rfl) rfl #[.string x5_2] rfl (by (try simp only [List.map_toArray, List.map_cons, List.map_nil]); first | done | rfl | (simp only [List.length_drop, List.length_take]; rfl)) ?_; (with_reducible refine (hopscotchlaw02_NameSplits.calls k2 x5_2 true _ A42.out).mono ?_); rintro e w92 ⟨rfl, hb⟩; refine ⟨_, rfl, ?_⟩; have n0_ := Aside0.mk (below_step (by repeat (first | (with_reducible first | exact HB.out | apply below_alloc | apply pw_below_drewN | apply below_drew1) | exact HB.out)) hb); clear HB; have HB := n0_; clear n0_; (try clear hb); (try clear hb2); (try clear hk); (try clear hi)) | (go_at_call 4; (with_reducible refine (hopscotchlaw02_NameSplits.calls k2 ((⟨#[97, 58]⟩ : ByteArray) ++ x5_2) false _ A45.out).mono ?_); rintro e w93 ⟨rfl, hb⟩; have n0_ := Aside0.mk (below_step (by repeat (first | (with_reducible first | exact HB.out | apply below_alloc | apply pw_below_drewN | apply below_drew1) | exact HB.out)) hb); clear HB; have HB := n0_; clear n0_; (try clear hb); (try clear hb2); (try clear hk); (try clear hi)))
                    go_ret
                    exact ⟨by first | rfl | (simp [errW_none, errW_some] <;> rfl) | (simp [*, errW_none, errW_some] <;> rfl), by repeat (first | (with_reducible first | exact HB.out | apply below_alloc | apply pw_below_drewN | apply below_drew1) | exact HB.out)⟩
                · rw [if_neg c44] at H
                  exact absurd H (by simp)
              · replace c43 := Bool.eq_false_iff.mpr c43
                subst c43
                have H1 : (some false) = some r := by rw [if_neg (show ¬ (false = true) by decide)] at H; exact H
                clear H
                have H := H1
                clear H1
                obtain rfl := Option.some.inj H
                go_wp2_with (first | ((with_reducible refine gate_callee (f := 4) rfl ?_); refine goesL_ (some 69) rfl rfl Try.func4 (by kernel_rfl) rfl #[.string x5_2] rfl (by (try simp only [List.map_toArray, List.map_cons, List.map_nil]); first | done | rfl | (simp only [List.length_drop, List.length_take]; rfl)) ?_; (with_reducible refine (hopscotchlaw02_NameSplits.calls k2 x5_2 false _ A42.out).mono ?_); rintro e w94 ⟨rfl, hb⟩; refine ⟨_, rfl, ?_⟩; have n0_ := Aside0.mk (below_step (by repeat (first | (with_reducible first | exact HB.out | apply below_alloc | apply pw_below_drewN | apply below_drew1) | exact HB.out)) hb); clear HB; have HB := n0_; clear n0_; (try clear hb); (try clear hb2); (try clear hk); (try clear hi)))
                go_ret
                exact ⟨by first | rfl | (simp [errW_none, errW_some] <;> rfl) | (simp [*, errW_none, errW_some] <;> rfl), by repeat (first | (with_reducible first | exact HB.out | apply below_alloc | apply pw_below_drewN | apply below_drew1) | exact HB.out)⟩
            · rw [if_neg c41] at H
              have c41b0 : decide (x6_2 < 70) = false := decide_eq_false c41
              clear c41
              replace H := Option.bind_eq_some_iff.mp H
              obtain ⟨t190, A950, H⟩ := H
              replace H : (some t190) = some r := H
              have A95 := Aside0.mk A950
              clear A950
              obtain rfl := Option.some.inj H
              go_wp2_with (first | ((with_reducible refine gate_callee (f := 9) rfl ?_); refine goesL_ (some 107) rfl rfl Try.func9 (by kernel_rfl) rfl #[] rfl (by (try simp only [List.map_toArray, List.map_cons, List.map_nil]); first | done | rfl | (simp only [List.length_drop, List.length_take]; rfl)) ?_; (with_reducible refine (hopscotchlaw02_works.calls k2  t190 _ A95.out).mono ?_); rintro e w96 ⟨rfl, hb⟩; refine ⟨_, rfl, ?_⟩; have n0_ := Aside0.mk (below_step (by repeat (first | (with_reducible first | exact HB.out | apply below_alloc | apply pw_below_drewN | apply below_drew1) | exact HB.out)) hb); clear HB; have HB := n0_; clear n0_; (try clear hb); (try clear hb2); (try clear hk); (try clear hi)))
              go_ret
              exact ⟨by first | rfl | (simp [errW_none, errW_some] <;> rfl) | (simp [*, errW_none, errW_some] <;> rfl), by repeat (first | (with_reducible first | exact HB.out | apply below_alloc | apply pw_below_drewN | apply below_drew1) | exact HB.out)⟩

end Go.Proofs.Ytpldpnkjmdlcdaa.PN
