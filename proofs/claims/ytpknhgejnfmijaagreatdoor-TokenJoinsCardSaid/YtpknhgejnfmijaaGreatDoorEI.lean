/- A text of the claim, with what no other text of it needs taken out. -/
import Derived.Test.YtpknhgejnfmijaaGreatDoorEM
import Derived.Lib.IndexAny
import Derived.Laws.RangeString
namespace Go.Proofs.YtpknhgejnfmijaaGreatDoor.X
open Go.RowKit Go.Proofs.YtpknhgejnfmijaaGreatDoorW.PrintWords
set_option linter.unusedVariables false
set_option linter.unusedSimpArgs false
theorem below_dn {B : Nat} {a w : World} (h : Below B a w) (n : Nat) : Below B a (w.drewN n) := h.trans ⟨rfl, rfl, rfl, Nat.le_refl _, fun _ _ => rfl⟩
set_option maxHeartbeats 1000000 in
set_option maxRecDepth 100000 in
theorem indexRune_err (w : World) :
    Calls Tryz.prog 87 #[.string ⟨#[43, 45, 95]⟩, .int .i32 65533] w fun e w' => e = .returned (.int .i64 (-1)) ∧ Below w.heap.size w w' := by
  have n0 := fun ty => run_next_ascii (P := Tryz.prog) w ⟨#[43, 45, 95]⟩ 0 ty (by decide) (by decide)
  have n1 := fun ty => run_next_ascii (P := Tryz.prog) w ⟨#[43, 45, 95]⟩ 1 ty (by decide) (by decide)
  have n2 := fun ty => run_next_ascii (P := Tryz.prog) w ⟨#[43, 45, 95]⟩ 2 ty (by decide) (by decide)
  have n3 := run_next_end (P := Tryz.prog) w ⟨#[43, 45, 95]⟩ 3
  go_enter Tryz.func87, Tryz.ntmps87
  go_wp2
  refine wp_loop_rounds 4 ?_
  rw [rounds_succ]
  go_wp2
  rw [rounds_succ]
  go_wp2
  rw [rounds_succ]
  go_wp2
  rw [rounds_succ]
  go_wp2
  go_ret
  exact ⟨rfl, (Below.refl _ w).alloc (Nat.le_refl _) _⟩
theorem idx_signs1 (w : World) : (Instr.index 9 (.string ⟨#[43, 45, 95]⟩) (.int .i64 1)).run Tryz.prog w = .ok (.int .u8 45) w := by kernel_rfl
theorem idx_signs2 (w : World) : (Instr.index 9 (.string ⟨#[43, 45, 95]⟩) (.int .i64 2)).run Tryz.prog w = .ok (.int .u8 95) w := by kernel_rfl
theorem quiet_add_same {P : Program} {f : FuncId} {args : Array Value} {w : World} {a n : Nat} {v : Value}
    (h : Calls P f args (w.drewN (a + n)) fun e w' => e = .returned v ∧ w' = w.drewN (a + n)) :
    Calls P f args (w.drewN (a + n)) fun e w'' => e = .returned v ∧ ∃ m, w'' = w.drewN (a + m) :=
  h.mono fun _ _ ⟨he, hm⟩ => ⟨he, n, hm⟩
theorem slice_signs2 (w : World) : (Instr.slice 9 (.string ⟨#[43, 45, 95]⟩) (some (.int .i64 2)) none none).run Tryz.prog w = .ok (.string ⟨#[95]⟩) w := by kernel_rfl
theorem slice_signs3 (w : World) : (Instr.slice 9 (.string ⟨#[43, 45, 95]⟩) (some (.int .i64 3)) none none).run Tryz.prog w = .ok (.string ⟨#[]⟩) w := by kernel_rfl
theorem validRune (r : Int) (w : World) (hr : 128 ≤ r) (hv1 : r ≤ 1114111) (hv2 : r < 55296 ∨ 57343 < r) :
    Calls Tryz.prog 97 #[.int .i32 r] w fun e w' => e = .returned (.bool true) ∧ w' = w := by
  rcases hv2 with hv2 | hv2
  · go_enter Tryz.func97, Tryz.ntmps97
    go_wp2
    go_ret
    exact ⟨rfl, rfl⟩
  · go_enter Tryz.func97, Tryz.ntmps97
    go_wp2
    go_ret
    exact ⟨rfl, rfl⟩
set_option maxHeartbeats 1000000 in
set_option maxRecDepth 100000 in
theorem indexRune_two (r : Int) (x y : UInt8) (w : World) (hr : 128 ≤ r) (h2 : r ≠ 65533) (hv1 : r ≤ 1114111) (hv2 : r < 55296 ∨ 57343 < r) (henc : Utf8.encode r = ⟨#[x, y]⟩) (hy : 128 ≤ y.toNat) :
    Calls Tryz.prog 87 #[.string ⟨#[43, 45, 95]⟩, .int .i32 r] w fun e w' => e = .returned (.int .i64 (-1)) ∧ Below w.heap.size w w' := by
  have hc : ∀ W, (Go.convert 21 9 (.int .i32 r)).run Tryz.prog W = .ok (.string ⟨#[x, y]⟩) W := fun W => by rw [run_convert_int_string W _ _ _ _ (by rw [Tryz.underlying21]; rfl) Tryz.underlying9, henc]
  clear henc
  have hi1 := idx_signs1
  have hs2 := slice_signs2
  have hi2 : ∀ W, (Instr.index 9 (.string ⟨#[x, y]⟩) (.int .i64 1)).run Tryz.prog W = .ok (.int .u8 y.toNat) W := fun W => rfl
  have hne : ((45 : Int) == (y.toNat : Int)) = false := by simp; omega
  have hlow : Lib.indexByte [95] y = -1 := by
    have : ((95 : UInt8) == y) = false := by
      rw [beq_eq_false_iff_ne]
      intro e
      rw [← e] at hy
      simp at hy
    simp [Lib.indexByte, this]
  have hback : ((y.toNat : Int)).toNat.toUInt8 = y := by simp
  have HI : Hid (∀ W, Calls Tryz.prog 41 #[.string ⟨#[95]⟩, .int .u8 y.toNat] W fun e w' => e = .returned (.int .i64 (-1)) ∧ w' = W) := Lib.hid (fun W => by
    have := Tryz.strings_IndexByte ⟨#[95]⟩ (y.toNat : Int) W
    rw [hback] at this
    rw [show Lib.indexByte (⟨#[95]⟩ : ByteArray).data.toList y = -1 from hlow] at this
    exact this)
  clear hback hlow
  have HV := Lib.hid (validRune r · hr hv1 hv2)
  clear hv2
  go_enter Tryz.func87, Tryz.ntmps87
  go_wp2_with (go_at_call 97; refine (HV.out _).mono ?_; rintro e w' ⟨rfl, rfl⟩)
  go_step3
  go_wp2
  refine wp_loop_rounds 1 ?_
  rw [rounds_succ]
  go_wp2
  go_step3
  go_wp2
  go_quiet (fail)
  go_wp2
  go_quiet ((go_at_call 41; first | exact Calls.quiet_of_same (HI.out _) | exact quiet_add_same (HI.out _)))
  go_wp2
  simp only [Exit.noGoto_ret, Exit.inBlock, Exit.then]
  go_ret
  exact ⟨rfl, below_dn (Below.refl _ _) _⟩
set_option maxHeartbeats 1000000 in
set_option maxRecDepth 100000 in
theorem indexRune_three (r : Int) (x0 x y : UInt8) (w : World) (hr : 128 ≤ r) (h2 : r ≠ 65533) (hv1 : r ≤ 1114111) (hv2 : r < 55296 ∨ 57343 < r) (henc : Utf8.encode r = ⟨#[x0, x, y]⟩) (hy : 128 ≤ y.toNat) :
    Calls Tryz.prog 87 #[.string ⟨#[43, 45, 95]⟩, .int .i32 r] w fun e w' => e = .returned (.int .i64 (-1)) ∧ Below w.heap.size w w' := by
  have hc : ∀ W, (Go.convert 21 9 (.int .i32 r)).run Tryz.prog W = .ok (.string ⟨#[x0, x, y]⟩) W := fun W => by rw [run_convert_int_string W _ _ _ _ (by rw [Tryz.underlying21]; rfl) Tryz.underlying9, henc]
  clear henc
  have hi1 := idx_signs2
  have hs2 := slice_signs3
  have hi2 : ∀ W, (Instr.index 9 (.string ⟨#[x0, x, y]⟩) (.int .i64 2)).run Tryz.prog W = .ok (.int .u8 y.toNat) W := fun W => rfl
  have hne : ((95 : Int) == (y.toNat : Int)) = false := by simp; omega
  have hlow : Lib.indexByte [] y = -1 := rfl
  have hback : ((y.toNat : Int)).toNat.toUInt8 = y := by simp
  have HI : Hid (∀ W, Calls Tryz.prog 41 #[.string ⟨#[]⟩, .int .u8 y.toNat] W fun e w' => e = .returned (.int .i64 (-1)) ∧ w' = W) := Lib.hid (fun W => by
    have := Tryz.strings_IndexByte ⟨#[]⟩ (y.toNat : Int) W
    rw [hback] at this
    rw [show Lib.indexByte (⟨#[]⟩ : ByteArray).data.toList y = -1 from hlow] at this
    exact this)
  clear hback hlow
  have HV := Lib.hid (validRune r · hr hv1 hv2)
  clear hv2
  go_enter Tryz.func87, Tryz.ntmps87
  go_wp2_with (go_at_call 97; refine (HV.out _).mono ?_; rintro e w' ⟨rfl, rfl⟩)
  go_step3
  go_wp2
  refine wp_loop_rounds 1 ?_
  rw [rounds_succ]
  go_wp2
  go_step3
  go_wp2
  go_quiet (fail)
  go_wp2
  go_quiet ((go_at_call 41; first | exact Calls.quiet_of_same (HI.out _) | exact quiet_add_same (HI.out _)))
  go_wp2
  simp only [Exit.noGoto_ret, Exit.inBlock, Exit.then]
  go_ret
  exact ⟨rfl, below_dn (Below.refl _ _) _⟩
set_option maxHeartbeats 1000000 in
set_option maxRecDepth 100000 in
theorem indexRune_four (r : Int) (x0 x1 x y : UInt8) (w : World) (hr : 128 ≤ r) (h2 : r ≠ 65533) (hv1 : r ≤ 1114111) (hv2 : r < 55296 ∨ 57343 < r) (henc : Utf8.encode r = ⟨#[x0, x1, x, y]⟩) :
    Calls Tryz.prog 87 #[.string ⟨#[43, 45, 95]⟩, .int .i32 r] w fun e w' => e = .returned (.int .i64 (-1)) ∧ Below w.heap.size w w' := by
  have hc : ∀ W, (Go.convert 21 9 (.int .i32 r)).run Tryz.prog W = .ok (.string ⟨#[x0, x1, x, y]⟩) W := fun W => by rw [run_convert_int_string W _ _ _ _ (by rw [Tryz.underlying21]; rfl) Tryz.underlying9, henc]
  clear henc
  have HV := Lib.hid (validRune r · hr hv1 hv2)
  clear hv2
  go_enter Tryz.func87, Tryz.ntmps87
  go_wp2_with (go_at_call 97; refine (HV.out _).mono ?_; rintro e w' ⟨rfl, rfl⟩)
  go_step3
  go_wp2
  refine wp_loop_rounds 1 ?_
  rw [rounds_succ]
  go_wp2
  simp only [Exit.noGoto_ret, Exit.inBlock, Exit.then]
  go_ret
  exact ⟨rfl, Below.refl _ _⟩
end Go.Proofs.YtpknhgejnfmijaaGreatDoor.X
