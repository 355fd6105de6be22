/- A text of the claim, with what no other text of it needs taken out. -/
import Derived.Test.YtpknhgejnfmijaaGreatDoorEB
import Derived.Lib.IndexAny
import Derived.Laws.RangeString
import Derived.Lib.AtoiAllMem
import Derived.Lib.ConvBytes
import Derived.Laws.Strings3
import Derived.Laws.Closers25
import Derived.Laws.Closers25b
import Derived.BigCall
import Derived.BigGuard
import Derived.Lib.OthersKept
import Derived.Laws.Cover4
import Derived.Lib.Hide
import Derived.Lib.IfaceNeq
import Derived.Test.YtpknhgejnfmijaaGreatDoorWMore
import Derived.Shelf.Strings.BuilderK
import Derived.WalkKit
import Derived.KernelRfl
import Derived.LoopTactic
import Derived.OwnWalk
import Derived.Deep.QuietTactic
import Derived.BigQuiet
import Derived.Outline
section
namespace Go.Proofs.YtpknhgejnfmijaaGreatDoor.X
open Go.RowKit Go.Proofs.YtpknhgejnfmijaaGreatDoorW.PrintWords
set_option linter.unusedVariables false
set_option linter.unusedSimpArgs false
theorem below_dn {B : Nat} {a w : World} (h : Below B a w) (n : Nat) : Below B a (w.drewN n) := h.trans ⟨rfl, rfl, rfl, Nat.le_refl _, fun _ _ => rfl⟩
set_option maxHeartbeats 1000000 in
set_option maxRecDepth 100000 in
theorem indexRune_err (w : World) :
    Calls Tryz.prog 87 #[.string ⟨#[43, 45, 95]⟩, .int .i32 65533] w fun e w' => e = .returned (.int .i64 (-1)) ∧ Below w.heap.size w w' := by
  have n0 := fun ty => run_next_ascii (P := Tryz.prog) w ⟨#[43, 45, 95]⟩ 0 ty (by decide) (by decide)
  have n1 := fun ty => run_next_ascii (P := Tryz.prog) w ⟨#[43, 45, 95]⟩ 1 ty (by decide) (by decide)
  have n2 := fun ty => run_next_ascii (P := Tryz.prog) w ⟨#[43, 45, 95]⟩ 2 ty (by decide) (by decide)
  have n3 := run_next_end (P := Tryz.prog) w ⟨#[43, 45, 95]⟩ 3
  go_enter Tryz.func87, Tryz.ntmps87
  go_wp2
  refine wp_loop_rounds 4 ?_
  rw [rounds_succ]
  go_wp2
  rw [rounds_succ]
  go_wp2
  rw [rounds_succ]
  go_wp2
  rw [rounds_succ]
  go_wp2
  go_ret
  exact ⟨rfl, (Below.refl _ w).alloc (Nat.le_refl _) _⟩
theorem idx_signs1 (w : World) : (Instr.index 9 (.string ⟨#[43, 45, 95]⟩) (.int .i64 1)).run Tryz.prog w = .ok (.int .u8 45) w := by kernel_rfl
theorem idx_signs2 (w : World) : (Instr.index 9 (.string ⟨#[43, 45, 95]⟩) (.int .i64 2)).run Tryz.prog w = .ok (.int .u8 95) w := by kernel_rfl
theorem quiet_add_same {P : Program} {f : FuncId} {args : Array Value} {w : World} {a n : Nat} {v : Value}
    (h : Calls P f args (w.drewN (a + n)) fun e w' => e = .returned v ∧ w' = w.drewN (a + n)) :
    Calls P f args (w.drewN (a + n)) fun e w'' => e = .returned v ∧ ∃ m, w'' = w.drewN (a + m) :=
  h.mono fun _ _ ⟨he, hm⟩ => ⟨he, n, hm⟩
theorem slice_signs2 (w : World) : (Instr.slice 9 (.string ⟨#[43, 45, 95]⟩) (some (.int .i64 2)) none none).run Tryz.prog w = .ok (.string ⟨#[95]⟩) w := by kernel_rfl
theorem slice_signs3 (w : World) : (Instr.slice 9 (.string ⟨#[43, 45, 95]⟩) (some (.int .i64 3)) none none).run Tryz.prog w = .ok (.string ⟨#[]⟩) w := by kernel_rfl
theorem validRune (r : Int) (w : World) (hr : 128 ≤ r) (hv1 : r ≤ 1114111) (hv2 : r < 55296 ∨ 57343 < r) :
    Calls Tryz.prog 97 #[.int .i32 r] w fun e w' => e = .returned (.bool true) ∧ w' = w := by
  rcases hv2 with hv2 | hv2
  · go_enter Tryz.func97, Tryz.ntmps97
    go_wp2
    go_ret
    exact ⟨rfl, rfl⟩
  · go_enter Tryz.func97, Tryz.ntmps97
    go_wp2
    go_ret
    exact ⟨rfl, rfl⟩
set_option maxHeartbeats 1000000 in
set_option maxRecDepth 100000 in
theorem indexRune_two (r : Int) (x y : UInt8) (w : World) (hr : 128 ≤ r) (h2 : r ≠ 65533) (hv1 : r ≤ 1114111) (hv2 : r < 55296 ∨ 57343 < r) (henc : Utf8.encode r = ⟨#[x, y]⟩) (hy : 128 ≤ y.toNat) :
    Calls Tryz.prog 87 #[.string ⟨#[43, 45, 95]⟩, .int .i32 r] w fun e w' => e = .returned (.int .i64 (-1)) ∧ Below w.heap.size w w' := by
  have hc : ∀ W, (Go.convert 21 9 (.int .i32 r)).run Tryz.prog W = .ok (.string ⟨#[x, y]⟩) W := fun W => by rw [run_convert_int_string W _ _ _ _ (by rw [Tryz.underlying21]; rfl) Tryz.underlying9, henc]
  clear henc
  have hi1 := idx_signs1
  have hs2 := slice_signs2
  have hi2 : ∀ W, (Instr.index 9 (.string ⟨#[x, y]⟩) (.int .i64 1)).run Tryz.prog W = .ok (.int .u8 y.toNat) W := fun W => rfl
  have hne : ((45 : Int) == (y.toNat : Int)) = false := by simp; omega
  have hlow : Lib.indexByte [95] y = -1 := by
    have : ((95 : UInt8) == y) = false := by
      rw [beq_eq_false_iff_ne]
      intro e
      rw [← e] at hy
      simp at hy
    simp [Lib.indexByte, this]
  have hback : ((y.toNat : Int)).toNat.toUInt8 = y := by simp
  have HI : Hid (∀ W, Calls Tryz.prog 41 #[.string ⟨#[95]⟩, .int .u8 y.toNat] W fun e w' => e = .returned (.int .i64 (-1)) ∧ w' = W) := Lib.hid (fun W => by
    have := Tryz.strings_IndexByte ⟨#[95]⟩ (y.toNat : Int) W
    rw [hback] at this
    rw [show Lib.indexByte (⟨#[95]⟩ : ByteArray).data.toList y = -1 from hlow] at this
    exact this)
  clear hback hlow
  have HV := Lib.hid (validRune r · hr hv1 hv2)
  clear hv2
  go_enter Tryz.func87, Tryz.ntmps87
  go_wp2_with (go_at_call 97; refine (HV.out _).mono ?_; rintro e w' ⟨rfl, rfl⟩)
  go_step3
  go_wp2
  refine wp_loop_rounds 1 ?_
  rw [rounds_succ]
  go_wp2
  go_step3
  go_wp2
  go_quiet (fail)
  go_wp2
  go_quiet ((go_at_call 41; first | exact Calls.quiet_of_same (HI.out _) | exact quiet_add_same (HI.out _)))
  go_wp2
  simp only [Exit.noGoto_ret, Exit.inBlock, Exit.then]
  go_ret
  exact ⟨rfl, below_dn (Below.refl _ _) _⟩
set_option maxHeartbeats 1000000 in
set_option maxRecDepth 100000 in
theorem indexRune_three (r : Int) (x0 x y : UInt8) (w : World) (hr : 128 ≤ r) (h2 : r ≠ 65533) (hv1 : r ≤ 1114111) (hv2 : r < 55296 ∨ 57343 < r) (henc : Utf8.encode r = ⟨#[x0, x, y]⟩) (hy : 128 ≤ y.toNat) :
    Calls Tryz.prog 87 #[.string ⟨#[43, 45, 95]⟩, .int .i32 r] w fun e w' => e = .returned (.int .i64 (-1)) ∧ Below w.heap.size w w' := by
  have hc : ∀ W, (Go.convert 21 9 (.int .i32 r)).run Tryz.prog W = .ok (.string ⟨#[x0, x, y]⟩) W := fun W => by rw [run_convert_int_string W _ _ _ _ (by rw [Tryz.underlying21]; rfl) Tryz.underlying9, henc]
  clear henc
  have hi1 := idx_signs2
  have hs2 := slice_signs3
  have hi2 : ∀ W, (Instr.index 9 (.string ⟨#[x0, x, y]⟩) (.int .i64 2)).run Tryz.prog W = .ok (.int .u8 y.toNat) W := fun W => rfl
  have hne : ((95 : Int) == (y.toNat : Int)) = false := by simp; omega
  have hlow : Lib.indexByte [] y = -1 := rfl
  have hback : ((y.toNat : Int)).toNat.toUInt8 = y := by simp
  have HI : Hid (∀ W, Calls Tryz.prog 41 #[.string ⟨#[]⟩, .int .u8 y.toNat] W fun e w' => e = .returned (.int .i64 (-1)) ∧ w' = W) := Lib.hid (fun W => by
    have := Tryz.strings_IndexByte ⟨#[]⟩ (y.toNat : Int) W
    rw [hback] at this
    rw [show Lib.indexByte (⟨#[]⟩ : ByteArray).data.toList y = -1 from hlow] at this
    exact this)
  clear hback hlow
  have HV := Lib.hid (validRune r · hr hv1 hv2)
  clear hv2
  go_enter Tryz.func87, Tryz.ntmps87
  go_wp2_with (go_at_call 97; refine (HV.out _).mono ?_; rintro e w' ⟨rfl, rfl⟩)
  go_step3
  go_wp2
  refine wp_loop_rounds 1 ?_
  rw [rounds_succ]
  go_wp2
  go_step3
  go_wp2
  go_quiet (fail)
  go_wp2
  go_quiet ((go_at_call 41; first | exact Calls.quiet_of_same (HI.out _) | exact quiet_add_same (HI.out _)))
  go_wp2
  simp only [Exit.noGoto_ret, Exit.inBlock, Exit.then]
  go_ret
  exact ⟨rfl, below_dn (Below.refl _ _) _⟩
set_option maxHeartbeats 1000000 in
set_option maxRecDepth 100000 in
theorem indexRune_four (r : Int) (x0 x1 x y : UInt8) (w : World) (hr : 128 ≤ r) (h2 : r ≠ 65533) (hv1 : r ≤ 1114111) (hv2 : r < 55296 ∨ 57343 < r) (henc : Utf8.encode r = ⟨#[x0, x1, x, y]⟩) :
    Calls Tryz.prog 87 #[.string ⟨#[43, 45, 95]⟩, .int .i32 r] w fun e w' => e = .returned (.int .i64 (-1)) ∧ Below w.heap.size w w' := by
  have hc : ∀ W, (Go.convert 21 9 (.int .i32 r)).run Tryz.prog W = .ok (.string ⟨#[x0, x1, x, y]⟩) W := fun W => by rw [run_convert_int_string W _ _ _ _ (by rw [Tryz.underlying21]; rfl) Tryz.underlying9, henc]
  clear henc
  have HV := Lib.hid (validRune r · hr hv1 hv2)
  clear hv2
  go_enter Tryz.func87, Tryz.ntmps87
  go_wp2_with (go_at_call 97; refine (HV.out _).mono ?_; rintro e w' ⟨rfl, rfl⟩)
  go_step3
  go_wp2
  refine wp_loop_rounds 1 ?_
  rw [rounds_succ]
  go_wp2
  simp only [Exit.noGoto_ret, Exit.inBlock, Exit.then]
  go_ret
  exact ⟨rfl, Below.refl _ _⟩
end Go.Proofs.YtpknhgejnfmijaaGreatDoor.X
end
section
namespace Go.Proofs.YtpknhgejnfmijaaGreatDoor.X
open Go.RowKit Go.Proofs.YtpknhgejnfmijaaGreatDoorW.PrintWords
set_option linter.unusedVariables false
set_option linter.unusedSimpArgs false
def pu (b : Nat) : Nat → List UInt8 → Option Nat
  | n, [] => some n
  | n, c :: l => if E.dig c < b then pu b (n * b + E.dig c) l else none
theorem pu_all (b : Nat) : ∀ (l : List UInt8) (n : Nat), pu b n l = if l.all (fun c => decide (E.dig c < b)) = true then some (E.num b n l) else none := by
  intro l
  induction l with
  | nil => intro n; rfl
  | cons c l ih =>
    intro n
    by_cases h : E.dig c < b
    · simp [pu, E.num, h, ih]
    · simp [pu, h]
theorem dig_digit (c : UInt8) (h : 48 ≤ c.toNat ∧ c.toNat ≤ 57) : E.dig c = c.toNat - 48 := by
  unfold E.dig
  rw [if_pos h]
theorem low_facts : ∀ n : Fin 256, ¬ (48 ≤ n.val ∧ n.val ≤ 57) → (0 ≤ bits .or .u8 (n.val : Int) 32 ∧ bits .or .u8 (n.val : Int) 32 ≤ 255) ∧
    ((97 ≤ bits .or .u8 (n.val : Int) 32 ∧ bits .or .u8 (n.val : Int) 32 < 103) → (E.dig (UInt8.ofNat n.val) : Int) = bits .or .u8 (n.val : Int) 32 - 87 ∧ 65 ≤ n.val ∧ n.val ≠ 95) ∧
    (¬ (97 ≤ bits .or .u8 (n.val : Int) 32 ∧ bits .or .u8 (n.val : Int) 32 < 103) → E.dig (UInt8.ofNat n.val) = 99) := by decide +kernel
theorem low_of (c : UInt8) (h : ¬ (48 ≤ c.toNat ∧ c.toNat ≤ 57)) : (0 ≤ bits .or .u8 (c.toNat : Int) 32 ∧ bits .or .u8 (c.toNat : Int) 32 ≤ 255) ∧
    ((97 ≤ bits .or .u8 (c.toNat : Int) 32 ∧ bits .or .u8 (c.toNat : Int) 32 < 103) → (E.dig c : Int) = bits .or .u8 (c.toNat : Int) 32 - 87 ∧ 65 ≤ c.toNat ∧ c.toNat ≠ 95) ∧
    (¬ (97 ≤ bits .or .u8 (c.toNat : Int) 32 ∧ bits .or .u8 (c.toNat : Int) 32 < 103) → E.dig c = 99) := by
  have := low_facts ⟨c.toNat, c.toNat_lt⟩ h
  simpa using this
theorem pow_step (k acc d : Nat) (h : acc < 16 ^ k) (hd : d < 16) : acc * 16 + d < 16 ^ (k + 1) := by
  rw [Nat.pow_succ]
  omega
theorem pow_small (k acc : Nat) (h : acc < 16 ^ k) (hk : k ≤ 7) : acc < 268435456 := by
  have := Nat.pow_le_pow_right (n := 16) (by omega) hk
  have e : (16 : Nat) ^ 7 = 268435456 := by decide
  omega
def puTuple : Option Nat → Value
  | some n => .tuple #[.int .u64 n, .nilIface]
  | none => .tuple #[.int .u64 0, .iface 151 (.int .i64 2)]
set_option maxHeartbeats 32000000 in
set_option maxRecDepth 100000 in
theorem parseUint16 (t : ByteArray) (hne : t.size ≠ 0) (h7 : t.size ≤ 7) (w : World) :
    Calls Tryz.prog 104 #[.string t, .int .i64 16, .int .i64 64] w fun e w' => e = .returned (puTuple (pu 16 0 t.data.toList)) ∧ w' = Lib.bytesWorld w 5 t := by
  have hemp : t.toList.isEmpty = false := by
    rw [← decide_eq_emptyBytes]
    exact decide_eq_false (fun h => hne (by rw [h]; rfl))
  have hcv := Lib.run_convert_string_bytes (P := Tryz.prog) w 9 51 5 t (u := .string) Tryz.underlying9 Tryz.underlying51 Tryz.underlying5
  have hB : ∀ j, j < t.size → (Lib.bytesWorld w 5 t).cell? ⟨w.heap.size, j, none⟩ = some (.int .u8 (t.data.toList.getD j 0).toNat) := fun j hj => Lib.bytesWorld_cell w 5 t j hj
  obtain ⟨W1, hW1⟩ : ∃ W1, W1 = Lib.bytesWorld w 5 t := ⟨_, rfl⟩
  rw [← hW1] at hcv hB ⊢
  clear hW1
  obtain ⟨bs, hL⟩ : ∃ bs, bs = t.data.toList := ⟨_, rfl⟩
  have hLn : bs.length = t.size := by rw [hL, Lib.size_eq]
  rw [← hL] at hB ⊢
  clear hL
  have hmv : IntKind.u64.wrap (IntKind.u64.wrap 18446744073709551616 - 1) = 18446744073709551615 := by
    rw [IntKind.wrap_u64, IntKind.wrap_u64]
    decide
  have HLOW := Lib.hid (fun c W => Tryz.internal_strconv_lower c W)
  go_enter Tryz.func104, Tryz.ntmps104
  go_wp2
  go_loop [12, 13, 101] (fun vu vn vi => ∃ (k acc : Nat) (a : Int), vu = .bool false ∧ vn = .int .u64 a ∧ vi = .int .i64 k ∧ k ≤ t.size ∧ Hid (a = (acc : Int) ∧ acc < 16 ^ k ∧ pu 16 0 bs = pu 16 acc (bs.drop k)))
    (fun _ _ vi => t.size - (intOf vi).toNat)
  case atStart => exact ⟨0, 0, 0, rfl, rfl, rfl, by omega, rfl, by decide, rfl⟩
  case round =>
    obtain ⟨k, acc, a, rfl, rfl, rfl, hk, hh⟩ := hrel
    obtain ⟨ha, hacc, hdec⟩ := hh.out
    clear hh
    have hac := pow_small k acc hacc (by omega)
    have a0 : 0 ≤ a := by omega
    have a1 : a < 268435456 := by omega
    have HA := Lib.hid hacc
    clear hacc
    by_cases hkn : k < t.size
    · have hc := hB k hkn
      have hdrop : bs.drop k = bs[k]'(by omega) :: bs.drop (k + 1) := List.drop_eq_getElem_cons (by omega)
      have hget : bs.getD k 0 = bs[k]'(by omega) := by simp [List.getD, List.getElem?_eq_getElem (show k < bs.length by omega)]
      rw [hdrop] at hdec
      rw [hget] at hc
      generalize bs[k]'(by omega) = c at hc hdec
      have hc256 : c.toNat < 256 := c.toNat_lt
      clear hB hdrop hget
      by_cases hdig : 48 ≤ c.toNat ∧ c.toNat ≤ 57
      · have hdc := dig_digit c hdig
        obtain ⟨hd0, hd1⟩ := hdig
        have hF : pu 16 acc (c :: bs.drop (k + 1)) = pu 16 (acc * 16 + (c.toNat - 48)) (bs.drop (k + 1)) := by
          simp only [pu]
          rw [if_pos (by omega), hdc]
        have HN : Hid (a * 16 + ((c.toNat : Int) - 48) = ((acc * 16 + (c.toNat - 48) : Nat) : Int) ∧ acc * 16 + (c.toNat - 48) < 16 ^ (k + 1) ∧ pu 16 0 bs = pu 16 (acc * 16 + (c.toNat - 48)) (bs.drop (k + 1))) := Lib.hid ⟨by omega, by have := pow_step k acc (c.toNat - 48) HA.out (by omega); omega, hdec.trans hF⟩
        have iov : a * 16 + ((c.toNat : Int) - 48) < 18446744073709551616 := by omega
        clear hF hdec ha hac hdc
        go_wp2
        refine ⟨⟨k + 1, acc * 16 + (c.toNat - 48), a * 16 + ((c.toNat : Int) - 48), rfl, (by first | rfl | (congr 1; omega)), (by first | rfl | (congr 1; omega)), by omega, HN⟩, by simp [intOf]; omega⟩
      · obtain ⟨⟨l0, l1⟩, l2, l3⟩ := low_of c hdig
        have hv : ∀ W, Calls Tryz.prog 109 #[.int .u8 (c.toNat : Int)] W fun e w' => e = .returned (.int .u8 (bits .or .u8 (c.toNat : Int) 32)) ∧ w' = W := fun W => HLOW.out (c.toNat : Int) W
        have hu : ∀ W, Calls Tryz.prog 109 #[.int .u8 95] W fun e w' => e = .returned (.int .u8 127) ∧ w' = W := fun W => HLOW.out 95 W
        generalize bits .or .u8 (c.toNat : Int) 32 = L at l0 l1 l2 l3 hv
        have HV := Lib.hid hv
        have HU := Lib.hid hu
        clear hv hu
        by_cases hlet : 97 ≤ L ∧ L < 103
        · obtain ⟨hdc, c65, c95⟩ := l2 hlet
          have i95 : ((c.toNat : Int) == 95) = false := by simp; omega
          have i57 : (57 : Int) < c.toNat := by omega
          obtain ⟨e0, e1⟩ := hlet
          clear l2 l3 c95 hdig
          have hF : pu 16 acc (c :: bs.drop (k + 1)) = pu 16 (acc * 16 + E.dig c) (bs.drop (k + 1)) := by
            simp only [pu]
            rw [if_pos (by omega)]
          have HN : Hid (a * 16 + (L - 97 + 10) = ((acc * 16 + E.dig c : Nat) : Int) ∧ acc * 16 + E.dig c < 16 ^ (k + 1) ∧ pu 16 0 bs = pu 16 (acc * 16 + E.dig c) (bs.drop (k + 1))) := Lib.hid ⟨by omega, pow_step k acc (E.dig c) HA.out (by omega), hdec.trans hF⟩
          have iov : a * 16 + (L - 97 + 10) < 18446744073709551616 := by omega
          clear hF hdec ha hac hdc
          generalize E.dig c = dc at HN
          go_wp2_with (go_at_call 109; first | (refine (HV.out _).mono ?_; rintro e w' ⟨rfl, rfl⟩) | (refine (HU.out _).mono ?_; rintro e w' ⟨rfl, rfl⟩))
          refine ⟨⟨k + 1, acc * 16 + dc, a * 16 + (L - 97 + 10), rfl, (by first | rfl | (congr 1; omega)), (by first | rfl | (congr 1; omega)), by omega, HN⟩, by simp [intOf]; omega⟩
        · have hdc := l3 hlet
          clear l2 l3
          have hF : pu 16 acc (c :: bs.drop (k + 1)) = none := by
            simp only [pu]
            rw [if_neg (by omega)]
          rw [hF] at hdec
          clear hF ha hac hdc
          by_cases m0 : 97 ≤ L
          · have m1 : 103 ≤ L := by omega
            clear hlet
            go_wp2_with (go_at_call 109; first | (refine (HV.out _).mono ?_; rintro e w' ⟨rfl, rfl⟩) | (refine (HU.out _).mono ?_; rintro e w' ⟨rfl, rfl⟩))
            all_goals go_ret2
            all_goals first | exact ⟨rfl, rfl⟩ | exact ⟨by rw [hdec]; rfl, rfl⟩
          · clear hlet
            go_wp2_with (go_at_call 109; first | (refine (HV.out _).mono ?_; rintro e w' ⟨rfl, rfl⟩) | (refine (HU.out _).mono ?_; rintro e w' ⟨rfl, rfl⟩))
            all_goals go_ret2
            all_goals first | exact ⟨rfl, rfl⟩ | exact ⟨by rw [hdec]; rfl, rfl⟩
    · have hkk : k = t.size := by omega
      subst hkk
      have hF : pu 16 acc (bs.drop t.size) = some acc := by rw [List.drop_eq_nil_of_le (by omega)]; rfl
      rw [hF] at hdec
      subst ha
      clear hF a0 a1
      go_wp2
      go_ret2
      first | exact ⟨rfl, rfl⟩ | exact ⟨by rw [hdec]; rfl, rfl⟩
set_option maxHeartbeats 32000000 in
set_option maxRecDepth 100000 in
theorem parseUint10 (t : ByteArray) (hne : t.size ≠ 0) (h7 : t.size ≤ 7) (w : World) :
    Calls Tryz.prog 104 #[.string t, .int .i64 10, .int .i64 64] w fun e w' => e = .returned (puTuple (pu 10 0 t.data.toList)) ∧ w' = Lib.bytesWorld w 5 t := by
  have hemp : t.toList.isEmpty = false := by
    rw [← decide_eq_emptyBytes]
    exact decide_eq_false (fun h => hne (by rw [h]; rfl))
  have hcv := Lib.run_convert_string_bytes (P := Tryz.prog) w 9 51 5 t (u := .string) Tryz.underlying9 Tryz.underlying51 Tryz.underlying5
  have hB : ∀ j, j < t.size → (Lib.bytesWorld w 5 t).cell? ⟨w.heap.size, j, none⟩ = some (.int .u8 (t.data.toList.getD j 0).toNat) := fun j hj => Lib.bytesWorld_cell w 5 t j hj
  obtain ⟨W1, hW1⟩ : ∃ W1, W1 = Lib.bytesWorld w 5 t := ⟨_, rfl⟩
  rw [← hW1] at hcv hB ⊢
  clear hW1
  obtain ⟨bs, hL⟩ : ∃ bs, bs = t.data.toList := ⟨_, rfl⟩
  have hLn : bs.length = t.size := by rw [hL, Lib.size_eq]
  rw [← hL] at hB ⊢
  clear hL
  have hmv : IntKind.u64.wrap (IntKind.u64.wrap 18446744073709551616 - 1) = 18446744073709551615 := by
    rw [IntKind.wrap_u64, IntKind.wrap_u64]
    decide
  have HLOW := Lib.hid (fun c W => Tryz.internal_strconv_lower c W)
  go_enter Tryz.func104, Tryz.ntmps104
  go_wp2
  go_loop [12, 13, 101] (fun vu vn vi => ∃ (k acc : Nat) (a : Int), vu = .bool false ∧ vn = .int .u64 a ∧ vi = .int .i64 k ∧ k ≤ t.size ∧ Hid (a = (acc : Int) ∧ acc < 16 ^ k ∧ pu 10 0 bs = pu 10 acc (bs.drop k)))
    (fun _ _ vi => t.size - (intOf vi).toNat)
  case atStart => exact ⟨0, 0, 0, rfl, rfl, rfl, by omega, rfl, by decide, rfl⟩
  case round =>
    obtain ⟨k, acc, a, rfl, rfl, rfl, hk, hh⟩ := hrel
    obtain ⟨ha, hacc, hdec⟩ := hh.out
    clear hh
    have hac := pow_small k acc hacc (by omega)
    have a0 : 0 ≤ a := by omega
    have a1 : a < 268435456 := by omega
    have HA := Lib.hid hacc
    clear hacc
    by_cases hkn : k < t.size
    · have hc := hB k hkn
      have hdrop : bs.drop k = bs[k]'(by omega) :: bs.drop (k + 1) := List.drop_eq_getElem_cons (by omega)
      have hget : bs.getD k 0 = bs[k]'(by omega) := by simp [List.getD, List.getElem?_eq_getElem (show k < bs.length by omega)]
      rw [hdrop] at hdec
      rw [hget] at hc
      generalize bs[k]'(by omega) = c at hc hdec
      have hc256 : c.toNat < 256 := c.toNat_lt
      clear hB hdrop hget
      by_cases hdig : 48 ≤ c.toNat ∧ c.toNat ≤ 57
      · have hdc := dig_digit c hdig
        obtain ⟨hd0, hd1⟩ := hdig
        have hF : pu 10 acc (c :: bs.drop (k + 1)) = pu 10 (acc * 10 + (c.toNat - 48)) (bs.drop (k + 1)) := by
          simp only [pu]
          rw [if_pos (by omega), hdc]
        have HN : Hid (a * 10 + ((c.toNat : Int) - 48) = ((acc * 10 + (c.toNat - 48) : Nat) : Int) ∧ acc * 10 + (c.toNat - 48) < 16 ^ (k + 1) ∧ pu 10 0 bs = pu 10 (acc * 10 + (c.toNat - 48)) (bs.drop (k + 1))) := Lib.hid ⟨by omega, by have := pow_step k acc (c.toNat - 48) HA.out (by omega); omega, hdec.trans hF⟩
        have iov : a * 10 + ((c.toNat : Int) - 48) < 18446744073709551616 := by omega
        clear hF hdec ha hac hdc
        go_wp2
        refine ⟨⟨k + 1, acc * 10 + (c.toNat - 48), a * 10 + ((c.toNat : Int) - 48), rfl, (by first | rfl | (congr 1; omega)), (by first | rfl | (congr 1; omega)), by omega, HN⟩, by simp [intOf]; omega⟩
      · obtain ⟨⟨l0, l1⟩, l2, l3⟩ := low_of c hdig
        have hv : ∀ W, Calls Tryz.prog 109 #[.int .u8 (c.toNat : Int)] W fun e w' => e = .returned (.int .u8 (bits .or .u8 (c.toNat : Int) 32)) ∧ w' = W := fun W => HLOW.out (c.toNat : Int) W
        have hu : ∀ W, Calls Tryz.prog 109 #[.int .u8 95] W fun e w' => e = .returned (.int .u8 127) ∧ w' = W := fun W => HLOW.out 95 W
        generalize bits .or .u8 (c.toNat : Int) 32 = L at l0 l1 l2 l3 hv
        have HV := Lib.hid hv
        have HU := Lib.hid hu
        clear hv hu
        by_cases hlet : 97 ≤ L ∧ L < 103
        · obtain ⟨hdc, c65, c95⟩ := l2 hlet
          have i95 : ((c.toNat : Int) == 95) = false := by simp; omega
          have i57 : (57 : Int) < c.toNat := by omega
          obtain ⟨e0, e1⟩ := hlet
          clear l2 l3 c95 hdig
          have hF : pu 10 acc (c :: bs.drop (k + 1)) = none := by
            simp only [pu]
            rw [if_neg (by omega)]
          rw [hF] at hdec
          clear hF ha hac hdc
          go_wp2_with (go_at_call 109; first | (refine (HV.out _).mono ?_; rintro e w' ⟨rfl, rfl⟩) | (refine (HU.out _).mono ?_; rintro e w' ⟨rfl, rfl⟩))
          all_goals go_ret2
          all_goals first | exact ⟨rfl, rfl⟩ | exact ⟨by rw [hdec]; rfl, rfl⟩
        · have hdc := l3 hlet
          clear l2 l3
          have hF : pu 10 acc (c :: bs.drop (k + 1)) = none := by
            simp only [pu]
            rw [if_neg (by omega)]
          rw [hF] at hdec
          clear hF ha hac hdc
          by_cases m0 : 97 ≤ L
          · have m1 : 103 ≤ L := by omega
            clear hlet
            go_wp2_with (go_at_call 109; first | (refine (HV.out _).mono ?_; rintro e w' ⟨rfl, rfl⟩) | (refine (HU.out _).mono ?_; rintro e w' ⟨rfl, rfl⟩))
            all_goals go_ret2
            all_goals first | exact ⟨rfl, rfl⟩ | exact ⟨by rw [hdec]; rfl, rfl⟩
          · clear hlet
            go_wp2_with (go_at_call 109; first | (refine (HV.out _).mono ?_; rintro e w' ⟨rfl, rfl⟩) | (refine (HU.out _).mono ?_; rintro e w' ⟨rfl, rfl⟩))
            all_goals go_ret2
            all_goals first | exact ⟨rfl, rfl⟩ | exact ⟨by rw [hdec]; rfl, rfl⟩
    · have hkk : k = t.size := by omega
      subst hkk
      have hF : pu 10 acc (bs.drop t.size) = some acc := by rw [List.drop_eq_nil_of_le (by omega)]; rfl
      rw [hF] at hdec
      subst ha
      clear hF a0 a1
      go_wp2
      go_ret2
      first | exact ⟨rfl, rfl⟩ | exact ⟨by rw [hdec]; rfl, rfl⟩
end Go.Proofs.YtpknhgejnfmijaaGreatDoor.X
end
section
namespace Go.Proofs.YtpknhgejnfmijaaGreatDoor.X
open Go.RowKit Go.Proofs.YtpknhgejnfmijaaGreatDoorW.PrintWords
set_option linter.unusedVariables false
set_option linter.unusedSimpArgs false
def isSign (c : UInt8) : Bool := c == 43 || c == 45 || c == 95
def anySign (l : List UInt8) : Bool := l.any isSign
theorem indexRune_high (r : Int) (w : World) (hr : 128 ≤ r) (hv1 : r ≤ 1114111) (hv2 : r < 55296 ∨ 57343 < r) :
    Calls Tryz.prog 87 #[.string ⟨#[43, 45, 95]⟩, .int .i32 r] w fun e w' => e = .returned (.int .i64 (-1)) ∧ Below w.heap.size w w' := by
  by_cases h2 : r = 65533
  · subst h2
    exact indexRune_err w
  · have hval : Utf8.valid r = true := by
      simp only [Utf8.valid, Bool.or_eq_true, Bool.and_eq_true, decide_eq_true_eq]
      omega
    by_cases c2 : r.toNat < 2048
    · refine indexRune_two r (w := w) (hr := hr) (h2 := h2) (hv1 := hv1) (hv2 := hv2) (x := UInt8.ofNat (192 + r.toNat / 64)) (y := UInt8.ofNat (128 + r.toNat % 64)) (henc := ?_) (hy := ?_)
      · simp only [Utf8.encode, hval, if_true]
        rw [if_neg (by omega), if_pos (by omega)]
      · simp; omega
    · by_cases c3 : r.toNat < 65536
      · refine indexRune_three r (w := w) (hr := hr) (h2 := h2) (hv1 := hv1) (hv2 := hv2) (x0 := UInt8.ofNat (224 + r.toNat / 4096)) (x := UInt8.ofNat (128 + r.toNat / 64 % 64)) (y := UInt8.ofNat (128 + r.toNat % 64)) (henc := ?_) (hy := ?_)
        · simp only [Utf8.encode, hval, if_true]
          rw [if_neg (by omega), if_neg (by omega), if_pos (by omega)]
        · simp; omega
      · refine indexRune_four r (w := w) (hr := hr) (h2 := h2) (hv1 := hv1) (hv2 := hv2) (x0 := UInt8.ofNat (240 + r.toNat / 262144)) (x1 := UInt8.ofNat (128 + r.toNat / 4096 % 64)) (x := UInt8.ofNat (128 + r.toNat / 64 % 64)) (y := UInt8.ofNat (128 + r.toNat % 64)) (henc := ?_)
        simp only [Utf8.encode, hval, if_true]
        rw [if_neg (by omega), if_neg (by omega), if_neg (by omega)]
theorem dec_high (l : List UInt8) (h0 : l ≠ []) (hb : 128 ≤ (l.getD 0 0).toNat) :
    1 ≤ (U.dec l).2 ∧ (U.dec l).2 ≤ l.length ∧ (∀ i, i < (U.dec l).2 → 128 ≤ (l.getD i 0).toNat) ∧ 128 ≤ (U.dec l).1 ∧ (U.dec l).1 ≤ 1114111 ∧ ((U.dec l).1 < 55296 ∨ 57343 < (U.dec l).1) := by
  have hl : 1 ≤ l.length := by
    cases l with
    | nil => exact absurd rfl h0
    | cons a t => simp
  have one : ∀ i, i < 1 → 128 ≤ (l.getD i 0).toNat := fun i hi => by
    obtain rfl : i = 0 := by omega
    exact hb
  have bad : 1 ≤ ((65533, 1) : Nat × Nat).2 ∧ ((65533, 1) : Nat × Nat).2 ≤ l.length ∧ (∀ i, i < ((65533, 1) : Nat × Nat).2 → 128 ≤ (l.getD i 0).toNat) ∧ 128 ≤ ((65533, 1) : Nat × Nat).1 ∧ ((65533, 1) : Nat × Nat).1 ≤ 1114111 ∧ (((65533, 1) : Nat × Nat).1 < 55296 ∨ 57343 < ((65533, 1) : Nat × Nat).1) :=
    ⟨by decide, hl, one, by decide, by decide, by decide⟩
  unfold U.dec Lib.decodeN
  rw [if_neg (by omega)]
  split
  · rename_i h2
    split
    · rename_i h3
      refine ⟨by simp, by simp only; omega, ?_, by simp only; omega, by simp only; omega, by simp only; omega⟩
      intro i hi
      have : i = 0 ∨ i = 1 := by simp only at hi; omega
      rcases this with rfl | rfl
      · exact hb
      · omega
    · exact bad
  · split
    · rename_i h2
      split
      · rename_i h3
        refine ⟨by simp, by simp only; omega, ?_, by simp only; omega, by simp only; omega, by simp only; omega⟩
        intro i hi
        have : i = 0 ∨ i = 1 ∨ i = 2 := by simp only at hi; omega
        rcases this with rfl | rfl | rfl
        · exact hb
        · omega
        · omega
      · exact bad
    · split
      · rename_i h2
        split
        · rename_i h3
          refine ⟨by simp, by simp only; omega, ?_, by simp only; omega, by simp only; omega, by simp only; omega⟩
          intro i hi
          have : i = 0 ∨ i = 1 ∨ i = 2 ∨ i = 3 := by simp only at hi; omega
          rcases this with rfl | rfl | rfl | rfl
          · exact hb
          · omega
          · omega
          · omega
        · exact bad
      · exact bad
theorem noSign_high {l : List UInt8} {n : Nat} (h : ∀ i, i < n → 128 ≤ (l.getD i 0).toNat) : anySign (l.take n) = false := by
  unfold anySign
  rw [List.any_eq_false]
  intro x hx
  obtain ⟨i, hi, rfl⟩ := List.mem_iff_getElem.mp hx
  have hi' : i < n := by rw [List.length_take] at hi; omega
  have hl : i < l.length := by rw [List.length_take] at hi; omega
  have := h i hi'
  rw [List.getElem_take]
  rw [List.getD, List.getElem?_eq_getElem hl, Option.getD_some] at this
  unfold isSign
  simp only [Bool.or_eq_true, beq_iff_eq, not_or]
  refine ⟨⟨?_, ?_⟩, ?_⟩ <;> (intro e; rw [e] at this; revert this; decide)
theorem anySign_split (l : List UInt8) (p n : Nat) (h1 : anySign (l.take p) = false) (h2 : anySign ((l.drop p).take n) = false) : anySign (l.take (p + n)) = false := by
  rw [List.take_add]
  unfold anySign at *
  rw [List.any_append, h1, h2]
  rfl
set_option maxHeartbeats 1000000 in
set_option maxRecDepth 100000 in
theorem indexAny (a0 : ByteArray) (w : World) (h8 : a0.size ≤ 8) :
    Calls Tryz.prog 100 #[.string a0, .string ⟨#[43, 45, 95]⟩] w fun e w' => ∃ v : Int, e = .returned (.int .i64 v) ∧ decide (0 ≤ v) = anySign a0.data.toList ∧ Below w.heap.size w w' := by
  have h8z : decide ((8 : Int) < (a0.size : Int)) = false := decide_eq_false (by omega)
  have HS := Lib.hid (fun W => Tryz.strings_shouldUseASCIISet a0.size W)
  have HH := Lib.hid indexRune_high
  have HA := Lib.hid (fun r W h0 h1 => Tryz.strings_IndexRune_ascii ⟨#[43, 45, 95]⟩ r W h0 h1)
  go_enter Tryz.func100, Tryz.ntmps100
  go_wp2_with (go_at_call 103; refine (HS.out _).mono ?_; rintro e w' ⟨rfl, hw⟩; rw [hw, h8z])
  go_loopw [9, 10] (fun _ _ wr => ∃ pos : Nat, pos ≤ a0.size ∧ wr.heap[w.heap.size]? = some (.stringIter a0 pos) ∧ Below w.heap.size w wr ∧ Hid (anySign (a0.data.toList.take pos) = false)) (fun _ _ wr => a0.size - wr.iterPos w.heap.size)
  case atStart =>
    refine ⟨0, by omega, ?_, (Below.refl _ w).alloc (Nat.le_refl _) _, by show anySign (List.take 0 _) = false; rfl⟩
    have := World.iter_heap w a0 0
    simpa using this
  case round =>
    obtain ⟨pos, hpos, hit, hbw, HN⟩ := hrel
    have hsz : w.heap.size < wr.heap.size := (Array.getElem?_eq_some_iff.1 hit).1
    by_cases hp : pos < a0.size
    · obtain ⟨b, hb⟩ : ∃ b : UInt8, a0[pos]'hp = b := ⟨_, rfl⟩
      have HB : Hid (a0.data.toList[pos]? = some b) := by show _ = _; rw [← hb]; exact Lib.data_getElem? a0 pos hp
      have hdr : a0.data.toList.drop pos = b :: a0.data.toList.drop (pos + 1) := by
        have hl : pos < a0.data.toList.length := (List.getElem?_eq_some_iff.mp HB.out).1
        have he := (List.getElem?_eq_some_iff.mp HB.out).2
        rw [← he]
        exact List.drop_eq_getElem_cons hl
      have HDR := Lib.hid hdr
      clear hdr
      by_cases h128 : b.toNat < 128
      · have hnx := fun ty => Lib.run_next_ascii_at (P := Tryz.prog) wr w.heap.size a0 pos ty hit hp (by rw [hb]; exact h128)
        rw [hb] at hnx
        have hit2 := Lib.iterAt_heap wr w.heap.size a0 pos (pos + 1) hit
        have hbw2 := Lib.below_iterAt hbw (k := w.heap.size) (by omega) a0 (pos + 1)
        have hcon := Lib.contains_iff_indexByte [43, 45, 95] b
        have hsc : ([43, 45, 95] : List UInt8).contains b = isSign b := by
          simp only [List.contains_cons, List.contains_nil, isSign, Bool.or_false, Bool.or_assoc]
        rw [hsc] at hcon
        have hback : ((b.toNat : Int)).toNat.toUInt8 = b := by simp
        have HC : Hid (∀ W, Calls Tryz.prog 87 #[.string ⟨#[43, 45, 95]⟩, .int .i32 b.toNat] W fun e w' => e = .returned (.int .i64 (Lib.indexByte [43, 45, 95] b)) ∧ w' = W) := Lib.hid (fun W => by
          have := HA.out (b.toNat : Int) W (by omega) (by omega)
          rw [hback] at this
          exact this)
        clear hback hsc hb
        cases hs : isSign b
        · rw [hs] at hcon
          have hlt : ¬ ((0 : Int) ≤ Lib.indexByte [43, 45, 95] b) := of_decide_eq_false hcon.symm
          clear hcon
          generalize Lib.indexByte [43, 45, 95] b = v at HC hlt
          have HN2 : Hid (anySign (a0.data.toList.take (pos + 1)) = false) := anySign_split _ _ _ HN.out (by rw [HDR.out]; simp [anySign, hs])
          clear hs
          go_wp2_with (go_at_call 87; refine (HC.out _).mono ?_; rintro e w' ⟨rfl, rfl⟩)
          refine ⟨⟨pos + 1, by omega, hit2, hbw2, HN2⟩, ?_⟩
          simp [World.iterPos, hit, hit2]
          omega
        · rw [hs] at hcon
          have hge : (0 : Int) ≤ Lib.indexByte [43, 45, 95] b := of_decide_eq_true hcon.symm
          clear hcon
          generalize Lib.indexByte [43, 45, 95] b = v at HC hge
          have HY : Hid (anySign a0.data.toList = true) := by
            show _ = _
            unfold anySign
            rw [List.any_eq_true]
            exact ⟨b, List.mem_of_getElem? HB.out, hs⟩
          clear hs
          go_wp2_with (go_at_call 87; refine (HC.out _).mono ?_; rintro e w' ⟨rfl, rfl⟩)
          go_ret
          exact ⟨_, rfl, by rw [HY.out]; simp, hbw2⟩
      · have hnx := fun ty => Lib.run_next_any_at (P := Tryz.prog) wr w.heap.size a0 pos ty hit hp
        have hd := dec_high (a0.data.toList.drop pos) (by rw [HDR.out]; simp) (by rw [HDR.out]; show 128 ≤ b.toNat; omega)
        rw [← U.decode_dec a0 pos] at hd
        generalize Utf8.decode a0 pos = q at hd hnx
        obtain ⟨c, n⟩ := q
        obtain ⟨d1, d2, d3, d4, d5, d6⟩ := hd
        simp only at d1 d2 d4 d5 d6 d3 hnx
        have d2' : pos + n ≤ a0.size := by rw [List.length_drop] at d2; have := Lib.size_eq a0; omega
        have hit2 := Lib.iterAt_heap wr w.heap.size a0 pos (pos + n) hit
        have hbw2 := Lib.below_iterAt hbw (k := w.heap.size) (by omega) a0 (pos + n)
        have HC := Lib.hid (fun W => HH.out (c : Int) W (by omega) (by omega) (by omega))
        have HN2 : Hid (anySign (a0.data.toList.take (pos + n)) = false) := anySign_split _ _ _ HN.out (noSign_high d3)
        clear d3 d6 hb
        go_wp2_with (go_at_call 87; refine (HC.out _).mono ?_; rintro e w' ⟨rfl, hB⟩)
        have hB2 : Below w.heap.size w w' := hbw2.trans (hB.mono hbw2.size)
        have hit3 : w'.heap[w.heap.size]? = some (.stringIter a0 (pos + n)) := (hB.block _ (by rw [Lib.iterAt_size]; exact hsz)).trans hit2
        go_wp2
        refine ⟨⟨pos + n, by omega, hit3, hB2, HN2⟩, ?_⟩
        simp [World.iterPos, hit, hit3]
        omega
    · obtain rfl : pos = a0.size := by omega
      have hnx := fun ty => Lib.run_next_end_at (P := Tryz.prog) wr w.heap.size a0 a0.size ty hit (by omega)
      have HY : Hid (anySign a0.data.toList = false) := by
        have := HN.out
        rwa [List.take_of_length_le (by rw [← Lib.size_eq]; exact Nat.le_refl _)] at this
      go_wp2
      go_ret
      exact ⟨_, rfl, by rw [HY.out]; rfl, hbw⟩
theorem containsAny (a0 : ByteArray) (w : World) (h8 : a0.size ≤ 8) :
    Calls Tryz.prog 94 #[.string a0, .string ⟨#[43, 45, 95]⟩] w fun e w' => e = .returned (.bool (anySign a0.data.toList)) ∧ Below w.heap.size w w' := by
  have HC := Lib.hid (indexAny a0 w h8)
  go_enter Tryz.func94, Tryz.ntmps94
  go_wp2_with (go_at_call 100; refine HC.out.mono ?_; rintro e w' ⟨v, rfl, hv, hB⟩)
  go_ret
  refine ⟨?_, hB⟩
  rw [← hv]
  rfl
end Go.Proofs.YtpknhgejnfmijaaGreatDoor.X
end
section
namespace Go.Proofs.YtpknhgejnfmijaaGreatDoor.X
open Go.RowKit Go.Proofs.YtpknhgejnfmijaaGreatDoorW.PrintWords
set_option linter.unusedVariables false
set_option linter.unusedSimpArgs false
theorem pu_lt (b : Nat) (hb : b ≤ 16) : ∀ (l : List UInt8) (k acc n : Nat), acc < 16 ^ k → pu b acc l = some n → n < 16 ^ (k + l.length) := by
  intro l
  induction l with
  | nil =>
    intro k acc n h e
    cases e
    exact h
  | cons c l ih =>
    intro k acc n h e
    simp only [pu] at e
    split at e
    · rename_i hd
      have hm : acc * b ≤ acc * 16 := Nat.mul_le_mul_left acc hb
      have := ih (k + 1) (acc * b + E.dig c) n (by have := pow_step k acc (E.dig c) h (by omega); omega) e
      rw [List.length_cons]
      have e2 : k + (l.length + 1) = k + 1 + l.length := by omega
      rw [e2]
      exact this
    · cases e
theorem pu_small (b : Nat) (hb : b ≤ 16) (l : List UInt8) (h7 : l.length ≤ 7) (n : Nat) (e : pu b 0 l = some n) : n < 268435456 :=
  pow_small (0 + l.length) n (pu_lt b hb l 0 0 n (by decide) e) (by omega)
set_option maxHeartbeats 32000000 in
set_option maxRecDepth 100000 in
theorem parseIntI16 (s : ByteArray) (hne : s.size ≠ 0) (h7 : s.size ≤ 7) (h43 : s.data.toList[0]? ≠ some 43) (h45 : s.data.toList[0]? ≠ some 45) (w : World) :
    Calls Tryz.prog 101 #[.string s, .int .i64 16, .int .i64 64] w fun e w' => e = .returned (match pu 16 0 s.data.toList with | some n => .tuple #[.int .i64 n, .nilIface] | none => .tuple #[.int .i64 0, .iface 151 (.int .i64 2)]) ∧ Below w.heap.size w w' := by
  have hemp : s.toList.isEmpty = false := by
    rw [← decide_eq_emptyBytes]
    exact decide_eq_false (fun h => hne (by rw [h]; rfl))
  have hpos : 0 < s.size := by omega
  have hbw := Lib.bytesWorld_below w 5 s
  have HP := Lib.hid (parseUint16 s hne h7 w)
  obtain ⟨c0, hc0⟩ : ∃ c0, s[0]'hpos = c0 := ⟨_, rfl⟩
  have hl : s.data.toList[0]? = some c0 := by rw [← hc0]; exact Lib.data_getElem? s 0 hpos
  rw [hl] at h43 h45
  have n43 : c0.toNat ≠ 43 := fun e => h43 (by congr 1; exact UInt8.toNat_inj.mp e)
  have n45 : c0.toNat ≠ 45 := fun e => h45 (by congr 1; exact UInt8.toNat_inj.mp e)
  have i43 : ((c0.toNat : Int) == 43) = false := by simp; omega
  have i45 : ((c0.toNat : Int) == 45) = false := by simp; omega
  clear n43 n45 h43 h45 hl
  have hq2 : ∀ W, (binOp .neq 117 (.iface 151 (.int .i64 2)) (.iface 151 (.int .i64 1))).run Tryz.prog W = .ok (.bool true) W := fun W => Lib.run_neq_iface_int W 2 1 Tryz.underlying117 (by kernel_rfl) Tryz.underlying151
  have hsm : ∀ n, pu 16 0 s.data.toList = some n → n < 268435456 := pu_small 16 (by decide) s.data.toList (by rw [← Lib.size_eq]; exact h7)
  cases hp : pu 16 0 s.data.toList with
  | none =>
    rw [hp] at HP
    clear hp hsm
    go_enter Tryz.func101, Tryz.ntmps101
    go_wp2_with (go_at_call 104; refine HP.out.mono ?_; rintro e w1 ⟨rfl, rfl⟩; dsimp only [puTuple])
    go_ret2
    exact ⟨rfl, hbw⟩
  | some n =>
    rw [hp] at HP
    have hn := hsm n hp
    clear hp hsm
    have e2 : puTuple (some n) = .tuple #[.int .u64 (n : Int), .nilIface] := rfl
    rw [e2] at HP
    obtain ⟨a, ha⟩ : ∃ a : Int, a = (n : Int) := ⟨_, rfl⟩
    rw [← ha] at HP
    have a0 : 0 ≤ a := by omega
    have a1 : a < 268435456 := by omega
    have HA := Lib.hid ha
    clear ha hn e2
    go_enter Tryz.func101, Tryz.ntmps101
    go_wp2_with (go_at_call 104; refine HP.out.mono ?_; rintro e w1 ⟨rfl, rfl⟩)
    go_wp2
    go_ret2
    refine ⟨?_, hbw⟩
    rw [← HA.out]
    rfl
set_option maxHeartbeats 4000000 in
set_option maxRecDepth 100000 in
theorem parseInt16 (s : ByteArray) (hne : s.size ≠ 0) (h7 : s.size ≤ 7) (h43 : s.data.toList[0]? ≠ some 43) (h45 : s.data.toList[0]? ≠ some 45) (w : World) (hG : Glob w) :
    Calls Tryz.prog 95 #[.string s, .int .i64 16, .int .i64 64] w fun e w' => (match pu 16 0 s.data.toList with | some n => e = .returned (.tuple #[.int .i64 n, .nilIface]) | none => ∃ N, e = .returned (.tuple #[.int .i64 0, .iface 155 (.pointer (some ⟨N, 0, none⟩))])) ∧ Below w.heap.size w w' := by
  have HI := Lib.hid (parseIntI16 s hne h7 h43 h45 w)
  cases hp : pu 16 0 s.data.toList with
  | some n =>
    rw [hp] at HI
    go_enter Tryz.func95, Tryz.ntmps95
    go_wp2_with (go_at_call 101; refine HI.out.mono ?_; rintro e w1 ⟨rfl, hB⟩)
    go_ret2
    exact ⟨rfl, hB⟩
  | none =>
    rw [hp] at HI
    obtain ⟨a, ha⟩ := hG.syn
    have hlt : 4 < w.heap.size := Lib.lt_of_cell ha
    have HT := Lib.hid (fun W hv => Tryz.strconv_toError_syntax ⟨#[80, 97, 114, 115, 101, 73, 110, 116]⟩ s 16 64 (.iface 162 (.pointer (some a))) W (by omega) hv (.inr ⟨_, _, rfl⟩))
    go_enter Tryz.func95, Tryz.ntmps95
    go_wp2_with (first
      | (go_at_call 101; refine HI.out.mono ?_; rintro e w1 ⟨rfl, hB⟩; have hv1 : w1.cell? ⟨4, 0, none⟩ = some (.iface 162 (.pointer (some a))) := (hB.cell (show (⟨4, 0, none⟩ : Addr).block < w.heap.size from hlt)).trans ha)
      | (go_at_call 102; refine (HT.out _ hv1).mono ?_; rintro e w2 ⟨N, rfl, h1, h2, h3⟩))
    go_ret2
    exact ⟨⟨N, rfl⟩, hB.trans (h3.mono hB.size)⟩
set_option maxHeartbeats 32000000 in
set_option maxRecDepth 100000 in
theorem parseIntI10 (s : ByteArray) (hne : s.size ≠ 0) (h7 : s.size ≤ 7) (h43 : s.data.toList[0]? ≠ some 43) (h45 : s.data.toList[0]? ≠ some 45) (w : World) :
    Calls Tryz.prog 101 #[.string s, .int .i64 10, .int .i64 64] w fun e w' => e = .returned (match pu 10 0 s.data.toList with | some n => .tuple #[.int .i64 n, .nilIface] | none => .tuple #[.int .i64 0, .iface 151 (.int .i64 2)]) ∧ Below w.heap.size w w' := by
  have hemp : s.toList.isEmpty = false := by
    rw [← decide_eq_emptyBytes]
    exact decide_eq_false (fun h => hne (by rw [h]; rfl))
  have hpos : 0 < s.size := by omega
  have hbw := Lib.bytesWorld_below w 5 s
  have HP := Lib.hid (parseUint10 s hne h7 w)
  obtain ⟨c0, hc0⟩ : ∃ c0, s[0]'hpos = c0 := ⟨_, rfl⟩
  have hl : s.data.toList[0]? = some c0 := by rw [← hc0]; exact Lib.data_getElem? s 0 hpos
  rw [hl] at h43 h45
  have n43 : c0.toNat ≠ 43 := fun e => h43 (by congr 1; exact UInt8.toNat_inj.mp e)
  have n45 : c0.toNat ≠ 45 := fun e => h45 (by congr 1; exact UInt8.toNat_inj.mp e)
  have i43 : ((c0.toNat : Int) == 43) = false := by simp; omega
  have i45 : ((c0.toNat : Int) == 45) = false := by simp; omega
  clear n43 n45 h43 h45 hl
  have hq2 : ∀ W, (binOp .neq 117 (.iface 151 (.int .i64 2)) (.iface 151 (.int .i64 1))).run Tryz.prog W = .ok (.bool true) W := fun W => Lib.run_neq_iface_int W 2 1 Tryz.underlying117 (by kernel_rfl) Tryz.underlying151
  have hsm : ∀ n, pu 10 0 s.data.toList = some n → n < 268435456 := pu_small 10 (by decide) s.data.toList (by rw [← Lib.size_eq]; exact h7)
  cases hp : pu 10 0 s.data.toList with
  | none =>
    rw [hp] at HP
    clear hp hsm
    go_enter Tryz.func101, Tryz.ntmps101
    go_wp2_with (go_at_call 104; refine HP.out.mono ?_; rintro e w1 ⟨rfl, rfl⟩; dsimp only [puTuple])
    go_ret2
    exact ⟨rfl, hbw⟩
  | some n =>
    rw [hp] at HP
    have hn := hsm n hp
    clear hp hsm
    have e2 : puTuple (some n) = .tuple #[.int .u64 (n : Int), .nilIface] := rfl
    rw [e2] at HP
    obtain ⟨a, ha⟩ : ∃ a : Int, a = (n : Int) := ⟨_, rfl⟩
    rw [← ha] at HP
    have a0 : 0 ≤ a := by omega
    have a1 : a < 268435456 := by omega
    have HA := Lib.hid ha
    clear ha hn e2
    go_enter Tryz.func101, Tryz.ntmps101
    go_wp2_with (go_at_call 104; refine HP.out.mono ?_; rintro e w1 ⟨rfl, rfl⟩)
    go_wp2
    go_ret2
    refine ⟨?_, hbw⟩
    rw [← HA.out]
    rfl
set_option maxHeartbeats 4000000 in
set_option maxRecDepth 100000 in
theorem parseInt10 (s : ByteArray) (hne : s.size ≠ 0) (h7 : s.size ≤ 7) (h43 : s.data.toList[0]? ≠ some 43) (h45 : s.data.toList[0]? ≠ some 45) (w : World) (hG : Glob w) :
    Calls Tryz.prog 95 #[.string s, .int .i64 10, .int .i64 64] w fun e w' => (match pu 10 0 s.data.toList with | some n => e = .returned (.tuple #[.int .i64 n, .nilIface]) | none => ∃ N, e = .returned (.tuple #[.int .i64 0, .iface 155 (.pointer (some ⟨N, 0, none⟩))])) ∧ Below w.heap.size w w' := by
  have HI := Lib.hid (parseIntI10 s hne h7 h43 h45 w)
  cases hp : pu 10 0 s.data.toList with
  | some n =>
    rw [hp] at HI
    go_enter Tryz.func95, Tryz.ntmps95
    go_wp2_with (go_at_call 101; refine HI.out.mono ?_; rintro e w1 ⟨rfl, hB⟩)
    go_ret2
    exact ⟨rfl, hB⟩
  | none =>
    rw [hp] at HI
    obtain ⟨a, ha⟩ := hG.syn
    have hlt : 4 < w.heap.size := Lib.lt_of_cell ha
    have HT := Lib.hid (fun W hv => Tryz.strconv_toError_syntax ⟨#[80, 97, 114, 115, 101, 73, 110, 116]⟩ s 10 64 (.iface 162 (.pointer (some a))) W (by omega) hv (.inr ⟨_, _, rfl⟩))
    go_enter Tryz.func95, Tryz.ntmps95
    go_wp2_with (first
      | (go_at_call 101; refine HI.out.mono ?_; rintro e w1 ⟨rfl, hB⟩; have hv1 : w1.cell? ⟨4, 0, none⟩ = some (.iface 162 (.pointer (some a))) := (hB.cell (show (⟨4, 0, none⟩ : Addr).block < w.heap.size from hlt)).trans ha)
      | (go_at_call 102; refine (HT.out _ hv1).mono ?_; rintro e w2 ⟨N, rfl, h1, h2, h3⟩))
    go_ret2
    exact ⟨⟨N, rfl⟩, hB.trans (h3.mono hB.size)⟩
end Go.Proofs.YtpknhgejnfmijaaGreatDoor.X
end
section
namespace Go.Proofs.YtpknhgejnfmijaaGreatDoor.X
open Go.RowKit Go.Proofs.YtpknhgejnfmijaaGreatDoorW.PrintWords
set_option linter.unusedVariables false
set_option linter.unusedSimpArgs false
theorem sign_dig (c : UInt8) (h : isSign c = true) : E.dig c = 99 := by
  simp only [isSign, Bool.or_eq_true, beq_iff_eq] at h
  rcases h with (rfl | rfl) | rfl <;> decide
theorem all_of_sign (b : Nat) (hb : b ≤ 16) (l : List UInt8) (h : anySign l = true) : l.all (fun c => decide (E.dig c < b)) = false := by
  unfold anySign at h
  rw [List.any_eq_true] at h
  obtain ⟨c, hc, hs⟩ := h
  rw [List.all_eq_false]
  exact ⟨c, hc, by rw [sign_dig c hs]; simp; omega⟩
theorem first_of_sign (l : List UInt8) (h : anySign l = false) (s : UInt8) (hs : isSign s = true) : l[0]? ≠ some s := by
  intro e
  unfold anySign at h
  rw [List.any_eq_false] at h
  exact h s (List.mem_of_getElem? e) hs
theorem put_num (n : Nat) : utf_Put.f (n : Int) = some ⟨(E.put n).toArray⟩ := by
  unfold utf_Put.f E.put
  rw [isI_nat]
  by_cases h : U.isx n = true
  · rw [if_pos h, if_pos h, U.encode_of n h]
  · rw [if_neg h, if_neg h]
set_option maxHeartbeats 4000000 in
set_option maxRecDepth 100000 in
theorem number16 (a0 : ByteArray) (w : World) (hG : Glob w) :
    Calls Tryz.prog 83 #[.string a0, .int .i64 16, .int .i64 6] w fun e w' => e = .returned (.string ⟨(E.numR 16 6 a0.data.toList).toArray⟩) ∧ Below w.heap.size w w' := by
  by_cases h0 : a0.data.toList = []
  · have hemp : a0.toList.isEmpty = true := by rw [Lib.toList_data, h0]; rfl
    have hr : E.numR 16 6 a0.data.toList = [] := by unfold E.numR; rw [if_neg (fun h => h.1 h0)]
    rw [hr]
    clear hr h0
    go_enter Tryz.func83, Tryz.ntmps83
    go_wp2
    go_ret
    exact ⟨rfl, Below.refl _ _⟩
  · have hemp : a0.toList.isEmpty = false := by
      rw [Lib.toList_data]
      cases h : a0.data.toList with
      | nil => exact absurd h h0
      | cons _ _ => rfl
    have hne : a0.size ≠ 0 := by
      intro e
      rw [Lib.size_eq] at e
      exact h0 (List.length_eq_zero_iff.mp e)
    by_cases hM : 6 < a0.size
    · have hd : decide ((6 : Int) < (a0.size : Int)) = true := decide_eq_true (by omega)
      have hr : E.numR 16 6 a0.data.toList = [] := by unfold E.numR; rw [if_neg (fun h => by have := h.2.1; rw [← Lib.size_eq] at this; omega)]
      rw [hr]
      clear hr h0 hne
      go_enter Tryz.func83, Tryz.ntmps83
      go_wp2
      go_ret
      exact ⟨rfl, Below.refl _ _⟩
    · have hd : decide ((6 : Int) < (a0.size : Int)) = false := decide_eq_false (by omega)
      have HC := Lib.hid (containsAny a0 w (by omega))
      cases hs : anySign a0.data.toList with
      | true =>
        have hr : E.numR 16 6 a0.data.toList = [] := by unfold E.numR; rw [if_neg (fun h => by have := h.2.2; rw [all_of_sign 16 (by decide) _ hs] at this; cases this)]
        rw [hr]
        rw [hs] at HC
        clear hr h0 hne hs
        go_enter Tryz.func83, Tryz.ntmps83
        go_wp2_with (go_at_call 94; refine HC.out.mono ?_; rintro e w' ⟨rfl, hB⟩)
        go_ret
        exact ⟨rfl, hB⟩
      | false =>
        rw [hs] at HC
        have HI := Lib.hid (fun W hg => parseInt16 a0 hne (by omega) (first_of_sign _ hs 43 (by decide)) (first_of_sign _ hs 45 (by decide)) W hg)
        have hpa := pu_all 16 a0.data.toList 0
        cases hal : a0.data.toList.all (fun c => decide (E.dig c < 16)) with
        | false =>
          have hr : E.numR 16 6 a0.data.toList = [] := by unfold E.numR; rw [if_neg (fun h => by have := h.2.2; rw [hal] at this; cases this)]
          rw [hr]
          rw [hal] at hpa
          rw [if_neg (by decide)] at hpa
          simp only [hpa] at HI
          clear hr h0 hne hs hpa hal
          go_enter Tryz.func83, Tryz.ntmps83
          go_wp2_with (first
            | (go_at_call 94; refine HC.out.mono ?_; rintro e w' ⟨rfl, hB⟩; have hg := hG.of_below hB)
            | (go_at_call 95; refine (HI.out _ hg).mono ?_; rintro e w2 ⟨⟨N, rfl⟩, hB2⟩))
          go_ret
          exact ⟨rfl, hB.trans (hB2.mono hB.size)⟩
        | true =>
          rw [hal] at hpa
          rw [if_pos rfl] at hpa
          have hr : E.numR 16 6 a0.data.toList = E.put (E.num 16 0 a0.data.toList) := by unfold E.numR; rw [if_pos ⟨h0, by rw [← Lib.size_eq]; omega, hal⟩]
          rw [hr]
          have hsm := pu_small 16 (by decide) a0.data.toList (by rw [← Lib.size_eq]; omega) _ hpa
          simp only [hpa] at HI
          have HP := Lib.hid (fun W hg => utf_Put.calls (E.num 16 0 a0.data.toList : Nat) _ W hg (put_num (E.num 16 0 a0.data.toList)))
          clear hr hpa hal hs h0 hne
          generalize (E.put (E.num 16 0 a0.data.toList)).toArray = out at HP ⊢
          obtain ⟨a, ha⟩ : ∃ a : Int, a = (E.num 16 0 a0.data.toList : Nat) := ⟨_, rfl⟩
          have a0' : 0 ≤ a := by omega
          have a1 : a < 268435456 := by omega
          rw [← ha] at HP HI
          clear ha hsm
          go_enter Tryz.func83, Tryz.ntmps83
          go_wp2_with (first
            | (go_at_call 94; refine HC.out.mono ?_; rintro e w' ⟨rfl, hB⟩; have hg := hG.of_below hB)
            | (go_at_call 95; refine (HI.out _ hg).mono ?_; rintro e w2 ⟨rfl, hB2⟩; have hg2 := hg.of_below hB2)
            | (go_at_call 56; refine (HP.out _ hg2).mono ?_; rintro e w3 ⟨rfl, hB3⟩))
          go_ret
          exact ⟨rfl, (hB.trans (hB2.mono hB.size)).trans (hB3.mono (hB.trans (hB2.mono hB.size)).size)⟩
set_option maxHeartbeats 4000000 in
set_option maxRecDepth 100000 in
theorem number10 (a0 : ByteArray) (w : World) (hG : Glob w) :
    Calls Tryz.prog 83 #[.string a0, .int .i64 10, .int .i64 7] w fun e w' => e = .returned (.string ⟨(E.numR 10 7 a0.data.toList).toArray⟩) ∧ Below w.heap.size w w' := by
  by_cases h0 : a0.data.toList = []
  · have hemp : a0.toList.isEmpty = true := by rw [Lib.toList_data, h0]; rfl
    have hr : E.numR 10 7 a0.data.toList = [] := by unfold E.numR; rw [if_neg (fun h => h.1 h0)]
    rw [hr]
    clear hr h0
    go_enter Tryz.func83, Tryz.ntmps83
    go_wp2
    go_ret
    exact ⟨rfl, Below.refl _ _⟩
  · have hemp : a0.toList.isEmpty = false := by
      rw [Lib.toList_data]
      cases h : a0.data.toList with
      | nil => exact absurd h h0
      | cons _ _ => rfl
    have hne : a0.size ≠ 0 := by
      intro e
      rw [Lib.size_eq] at e
      exact h0 (List.length_eq_zero_iff.mp e)
    by_cases hM : 7 < a0.size
    · have hd : decide ((7 : Int) < (a0.size : Int)) = true := decide_eq_true (by omega)
      have hr : E.numR 10 7 a0.data.toList = [] := by unfold E.numR; rw [if_neg (fun h => by have := h.2.1; rw [← Lib.size_eq] at this; omega)]
      rw [hr]
      clear hr h0 hne
      go_enter Tryz.func83, Tryz.ntmps83
      go_wp2
      go_ret
      exact ⟨rfl, Below.refl _ _⟩
    · have hd : decide ((7 : Int) < (a0.size : Int)) = false := decide_eq_false (by omega)
      have HC := Lib.hid (containsAny a0 w (by omega))
      cases hs : anySign a0.data.toList with
      | true =>
        have hr : E.numR 10 7 a0.data.toList = [] := by unfold E.numR; rw [if_neg (fun h => by have := h.2.2; rw [all_of_sign 10 (by decide) _ hs] at this; cases this)]
        rw [hr]
        rw [hs] at HC
        clear hr h0 hne hs
        go_enter Tryz.func83, Tryz.ntmps83
        go_wp2_with (go_at_call 94; refine HC.out.mono ?_; rintro e w' ⟨rfl, hB⟩)
        go_ret
        exact ⟨rfl, hB⟩
      | false =>
        rw [hs] at HC
        have HI := Lib.hid (fun W hg => parseInt10 a0 hne (by omega) (first_of_sign _ hs 43 (by decide)) (first_of_sign _ hs 45 (by decide)) W hg)
        have hpa := pu_all 10 a0.data.toList 0
        cases hal : a0.data.toList.all (fun c => decide (E.dig c < 10)) with
        | false =>
          have hr : E.numR 10 7 a0.data.toList = [] := by unfold E.numR; rw [if_neg (fun h => by have := h.2.2; rw [hal] at this; cases this)]
          rw [hr]
          rw [hal] at hpa
          rw [if_neg (by decide)] at hpa
          simp only [hpa] at HI
          clear hr h0 hne hs hpa hal
          go_enter Tryz.func83, Tryz.ntmps83
          go_wp2_with (first
            | (go_at_call 94; refine HC.out.mono ?_; rintro e w' ⟨rfl, hB⟩; have hg := hG.of_below hB)
            | (go_at_call 95; refine (HI.out _ hg).mono ?_; rintro e w2 ⟨⟨N, rfl⟩, hB2⟩))
          go_ret
          exact ⟨rfl, hB.trans (hB2.mono hB.size)⟩
        | true =>
          rw [hal] at hpa
          rw [if_pos rfl] at hpa
          have hr : E.numR 10 7 a0.data.toList = E.put (E.num 10 0 a0.data.toList) := by unfold E.numR; rw [if_pos ⟨h0, by rw [← Lib.size_eq]; omega, hal⟩]
          rw [hr]
          have hsm := pu_small 10 (by decide) a0.data.toList (by rw [← Lib.size_eq]; omega) _ hpa
          simp only [hpa] at HI
          have HP := Lib.hid (fun W hg => utf_Put.calls (E.num 10 0 a0.data.toList : Nat) _ W hg (put_num (E.num 10 0 a0.data.toList)))
          clear hr hpa hal hs h0 hne
          generalize (E.put (E.num 10 0 a0.data.toList)).toArray = out at HP ⊢
          obtain ⟨a, ha⟩ : ∃ a : Int, a = (E.num 10 0 a0.data.toList : Nat) := ⟨_, rfl⟩
          have a0' : 0 ≤ a := by omega
          have a1 : a < 268435456 := by omega
          rw [← ha] at HP HI
          clear ha hsm
          go_enter Tryz.func83, Tryz.ntmps83
          go_wp2_with (first
            | (go_at_call 94; refine HC.out.mono ?_; rintro e w' ⟨rfl, hB⟩; have hg := hG.of_below hB)
            | (go_at_call 95; refine (HI.out _ hg).mono ?_; rintro e w2 ⟨rfl, hB2⟩; have hg2 := hg.of_below hB2)
            | (go_at_call 56; refine (HP.out _ hg2).mono ?_; rintro e w3 ⟨rfl, hB3⟩))
          go_ret
          exact ⟨rfl, (hB.trans (hB2.mono hB.size)).trans (hB3.mono (hB.trans (hB2.mono hB.size)).size)⟩
end Go.Proofs.YtpknhgejnfmijaaGreatDoor.X
end
section
namespace Go.Proofs.YtpknhgejnfmijaaGreatDoor.X
open Go.RowKit Go.Proofs.YtpknhgejnfmijaaGreatDoorW.PrintWords Go.Proofs.YtpknhgejnfmijaaGreatDoor
set_option linter.unusedVariables false
set_option linter.unusedSimpArgs false
def namesEs : Array MapEntry := (((((#[] : Array MapEntry).push ⟨.string ⟨#[97, 109, 112]⟩, .agg #[.string ⟨#[38]⟩], 0⟩).push ⟨.string ⟨#[108, 116]⟩, .agg #[.string ⟨#[60]⟩], 0 + 1⟩).push ⟨.string ⟨#[103, 116]⟩, .agg #[.string ⟨#[62]⟩], 0 + 1 + 1⟩).push ⟨.string ⟨#[113, 117, 111, 116]⟩, .agg #[.string ⟨#[34]⟩], 0 + 1 + 1 + 1⟩).push ⟨.string ⟨#[97, 112, 111, 115]⟩, .agg #[.string ⟨#[39]⟩], 0 + 1 + 1 + 1 + 1⟩
set_option maxHeartbeats 4000000 in
set_option maxRecDepth 100000 in
theorem names (w : World) :
    Calls Tryz.prog 84 #[] w fun e w' => e = .returned (.map (some w.heap.size)) ∧ w'.heap[w.heap.size]? = some (.map namesEs 5) ∧ w'.heap.size = w.heap.size + 1 ∧ Below w.heap.size w w' := by
  have hmm := @run_makeMap Tryz.prog
  have hb0 : Below w.heap.size w (w.alloc (.map #[] 0)) := (Below.refl _ w).alloc (Nat.le_refl _) _
  have h0 : (w.alloc (.map #[] 0)).heap[w.heap.size]? = some (.map #[] 0) := heap_alloc_new w _
  have z0 : (w.alloc (.map #[] 0)).heap.size = w.heap.size + 1 := by show (w.heap.push _).size = _; simp
  have d : ∀ {a b : ByteArray}, a.data.toList ≠ b.data.toList → a ≠ b := fun h e => h (by rw [e])
  obtain ⟨W1, u1, h1, s1, b1, _, z1⟩ := MapS.upd Tryz.underlying130 Tryz.underlying9 h0 MapS.strs_nil (s := ⟨#[97, 109, 112]⟩) (MapS.no_nil _) (.agg #[.string ⟨#[38]⟩])
  obtain ⟨W2, u2, h2, s2, b2, _, z2⟩ := MapS.upd Tryz.underlying130 Tryz.underlying9 h1 s1 (s := ⟨#[108, 116]⟩) (MapS.no_push (MapS.no_nil _) (d (by decide)) _ _) (.agg #[.string ⟨#[60]⟩])
  obtain ⟨W3, u3, h3, s3, b3, _, z3⟩ := MapS.upd Tryz.underlying130 Tryz.underlying9 h2 s2 (s := ⟨#[103, 116]⟩) (MapS.no_push (MapS.no_push (MapS.no_nil _) (d (by decide)) _ _) (d (by decide)) _ _) (.agg #[.string ⟨#[62]⟩])
  obtain ⟨W4, u4, h4, s4, b4, _, z4⟩ := MapS.upd Tryz.underlying130 Tryz.underlying9 h3 s3 (s := ⟨#[113, 117, 111, 116]⟩) (MapS.no_push (MapS.no_push (MapS.no_push (MapS.no_nil _) (d (by decide)) _ _) (d (by decide)) _ _) (d (by decide)) _ _) (.agg #[.string ⟨#[34]⟩])
  obtain ⟨W5, u5, h5, s5, b5, _, z5⟩ := MapS.upd Tryz.underlying130 Tryz.underlying9 h4 s4 (s := ⟨#[97, 112, 111, 115]⟩) (MapS.no_push (MapS.no_push (MapS.no_push (MapS.no_push (MapS.no_nil _) (d (by decide)) _ _) (d (by decide)) _ _) (d (by decide)) _ _) (d (by decide)) _ _) (.agg #[.string ⟨#[39]⟩])
  have hB : Below w.heap.size w W5 := ((((hb0.trans (b1 _ (Nat.le_refl _))).trans (b2 _ (Nat.le_refl _))).trans (b3 _ (Nat.le_refl _))).trans (b4 _ (Nat.le_refl _))).trans (b5 _ (Nat.le_refl _))
  have H5 : Hid (W5.heap[w.heap.size]? = some (.map namesEs 5) ∧ W5.heap.size = w.heap.size + 1) := ⟨h5, by omega⟩
  clear h0 h1 h2 h3 h4 h5 s1 s2 s3 s4 s5 b1 b2 b3 b4 b5 hb0 d z0 z1 z2 z3 z4 z5
  go_enter Tryz.func84, Tryz.ntmps84
  go_wp2
  go_ret
  exact ⟨rfl, H5.out.1, H5.out.2, hB⟩
end Go.Proofs.YtpknhgejnfmijaaGreatDoor.X
end
section
namespace Go.Proofs.YtpknhgejnfmijaaGreatDoor.X
open Go.RowKit Go.Proofs.YtpknhgejnfmijaaGreatDoorW.PrintWords Go.Proofs.YtpknhgejnfmijaaGreatDoor
set_option linter.unusedVariables false
set_option linter.unusedSimpArgs false
theorem names_strs : MapS.Strs namesEs := MapS.strs_push (MapS.strs_push (MapS.strs_push (MapS.strs_push (MapS.strs_push MapS.strs_nil _ _ _) _ _ _) _ _ _) _ _ _) _ _ _
theorem wordZero (w : World) : (zeroValue 129).run Tryz.prog w = .ok (.agg #[.string ⟨#[]⟩]) w := by kernel_rfl
theorem bytes_eq (v : ByteArray) (l : List UInt8) : v = ⟨l.toArray⟩ ↔ v.data.toList = l := by
  constructor
  · rintro rfl; rfl
  · intro h
    obtain ⟨⟨x⟩⟩ := v
    simp at h
    subst h
    rfl
theorem look_names (w : World) (b : Nat) (hb : w.heap[b]? = some (.map namesEs 5)) (v : ByteArray) :
    (Instr.lookup 130 (.map (some b)) (.string v) false).run Tryz.prog w = .ok (.agg #[.string ⟨(E.word v.data.toList).toArray⟩]) w := by
  have d : ∀ {a b : ByteArray}, a.data.toList ≠ b.data.toList → a ≠ b := fun h e => h (by rw [e])
  have go : ∀ {s : ByteArray} {x : Value}, MapS.Has namesEs s x → (Instr.lookup 130 (.map (some b)) (.string s) false).run Tryz.prog w = .ok x w := fun h => by
    have := MapS.run_lookup_has Tryz.underlying130 Tryz.underlying9 hb names_strs h false
    simpa using this
  by_cases h1 : v = ⟨#[97, 109, 112]⟩
  · subst h1
    exact go (MapS.has_push (MapS.has_push (MapS.has_push (MapS.has_push (MapS.has_new (MapS.no_nil _) _ _) (d (by decide)) _ _) (d (by decide)) _ _) (d (by decide)) _ _) (d (by decide)) _ _)
  by_cases h2 : v = ⟨#[108, 116]⟩
  · subst h2
    exact go (MapS.has_push (MapS.has_push (MapS.has_push (MapS.has_new (MapS.no_push (MapS.no_nil _) (d (by decide)) _ _) _ _) (d (by decide)) _ _) (d (by decide)) _ _) (d (by decide)) _ _)
  by_cases h3 : v = ⟨#[103, 116]⟩
  · subst h3
    exact go (MapS.has_push (MapS.has_push (MapS.has_new (MapS.no_push (MapS.no_push (MapS.no_nil _) (d (by decide)) _ _) (d (by decide)) _ _) _ _) (d (by decide)) _ _) (d (by decide)) _ _)
  by_cases h4 : v = ⟨#[113, 117, 111, 116]⟩
  · subst h4
    exact go (MapS.has_push (MapS.has_new (MapS.no_push (MapS.no_push (MapS.no_push (MapS.no_nil _) (d (by decide)) _ _) (d (by decide)) _ _) (d (by decide)) _ _) _ _) (d (by decide)) _ _)
  by_cases h5 : v = ⟨#[97, 112, 111, 115]⟩
  · subst h5
    exact go (MapS.has_new (MapS.no_push (MapS.no_push (MapS.no_push (MapS.no_push (MapS.no_nil _) (d (by decide)) _ _) (d (by decide)) _ _) (d (by decide)) _ _) (d (by decide)) _ _) _ _)
  have hn : MapS.No namesEs v := MapS.no_push (MapS.no_push (MapS.no_push (MapS.no_push (MapS.no_push (MapS.no_nil _) h1 _ _) h2 _ _) h3 _ _) h4 _ _) h5 _ _
  have := MapS.run_lookup_no Tryz.underlying130 Tryz.underlying9 hb names_strs hn (wordZero w) false
  have e : E.word v.data.toList = [] := by
    have n : ∀ l : List UInt8, v ≠ ⟨l.toArray⟩ → v.data.toList ≠ l := fun l h e => h ((bytes_eq v l).mpr e)
    unfold E.word
    rw [if_neg (n _ h1), if_neg (n _ h2), if_neg (n _ h3), if_neg (n _ h4), if_neg (n _ h5)]
  rw [e]
  simpa using this
theorem cut_index : ∀ t : List UInt8, match E.cut t with | none => Lib.indexByte t 59 = -1 | some nm => Lib.indexByte t 59 = nm.length ∧ t.take nm.length = nm ∧ nm.length < t.length := by
  intro t
  induction t with
  | nil => rfl
  | cons c t ih =>
    simp only [E.cut]
    by_cases hc : c = 59
    · subst hc
      rw [if_pos rfl]
      simp [Lib.indexByte]
    · rw [if_neg hc]
      have hb : (c == 59) = false := by simpa using hc
      cases ht : E.cut t with
      | none =>
        rw [ht] at ih
        simp only [Option.map_none] at ih ⊢
        simp [Lib.indexByte, hb, ih]
      | some nm =>
        rw [ht] at ih
        simp only [Option.map_some] at ih ⊢
        obtain ⟨i1, i2, i3⟩ := ih
        refine ⟨?_, by simp [i2], by simp; exact i3⟩
        have hne : ¬ ((nm.length : Int) == -1) = true := by simp
        simp only [Lib.indexByte, hb, i1, Bool.false_eq_true, if_false, hne]
        simp
def entity_Reference.f (a0 : ByteArray) : Option (ByteArray × Int) :=
  if a0.size ≤ 140737488351232 then some (⟨(E.refR a0.data.toList).1.toArray⟩, ((E.refR a0.data.toList).2 : Int)) else none
theorem hasPrefix_amp (l : List UInt8) : Lib.hasPrefix l [38] = (match l with | [] => false | c :: _ => c == 38) := by
  cases l with
  | nil => rfl
  | cons c t => simp [Lib.hasPrefix, List.isPrefixOf, Bool.beq_comm]
set_option maxHeartbeats 4000000 in
set_option maxRecDepth 100000 in
theorem reference_none (a0 : ByteArray) (w : World) (h : ∀ t, a0.data.toList ≠ 38 :: t) :
    Calls Tryz.prog 64 #[.string a0] w fun e w' => e = .returned (.tuple #[.string ⟨#[]⟩, .int .i64 0]) ∧ Below w.heap.size w w' := by
  have hp : Lib.hasPrefix a0.data.toList [38] = false := by
    rw [hasPrefix_amp]
    cases hl : a0.data.toList with
    | nil => rfl
    | cons c t =>
      simp only [beq_eq_false_iff_ne]
      intro e
      exact h t (by rw [hl, e])
  have HP : Hid (∀ W, Calls Tryz.prog 82 #[.string a0, .string ⟨#[38]⟩] W fun e w' => e = .returned (.bool false) ∧ w' = W) := Lib.hid (fun W => by
    have := Tryz.strings_HasPrefix a0 ⟨#[38]⟩ W
    rw [show Lib.hasPrefix a0.data.toList (⟨#[38]⟩ : ByteArray).data.toList = false from hp] at this
    exact this)
  go_enter Tryz.func64, Tryz.ntmps64
  go_wp2_with (go_at_call 82; refine (HP.out _).mono ?_; rintro e w' ⟨rfl, rfl⟩)
  go_ret2
  exact ⟨rfl, Below.refl _ _⟩
theorem amp_prefix (a0 : ByteArray) (t : List UInt8) (h : a0.data.toList = 38 :: t) (W : World) : Calls Tryz.prog 82 #[.string a0, .string ⟨#[38]⟩] W fun e w' => e = .returned (.bool true) ∧ w' = W := by
  have := Tryz.strings_HasPrefix a0 ⟨#[38]⟩ W
  rw [show Lib.hasPrefix a0.data.toList (⟨#[38]⟩ : ByteArray).data.toList = true by show Lib.hasPrefix a0.data.toList [38] = true; rw [hasPrefix_amp, h]; rfl] at this
  exact this
set_option maxHeartbeats 4000000 in
set_option maxRecDepth 100000 in
theorem reference_uncut (a0 : ByteArray) (w : World) (hz : a0.size ≤ 140737488351232) (t : List UInt8) (h : a0.data.toList = 38 :: t) (hc : E.cut t = none) :
    Calls Tryz.prog 64 #[.string a0] w fun e w' => e = .returned (.tuple #[.string ⟨#[]⟩, .int .i64 0]) ∧ Below w.heap.size w w' := by
  have HP := Lib.hid (amp_prefix a0 t h)
  have hi : Lib.indexByte a0.data.toList 59 = -1 := by
    have := cut_index t
    rw [hc] at this
    simp only at this
    rw [h]
    simp [Lib.indexByte, this]
  have HC := Lib.hid (fun W => strings_Cut.calls a0 ⟨#[59]⟩ a0 ⟨#[]⟩ false W (by unfold strings_Cut.f; show (if 140737488351232 < a0.size then none else _) = _; rw [if_neg (by omega), if_pos (by rw [hi]; decide)]))
  clear hi h hc
  go_enter Tryz.func64, Tryz.ntmps64
  go_wp2_with (first
    | (go_at_call 82; refine (HP.out _).mono ?_; rintro e w' ⟨rfl, rfl⟩)
    | (go_at_call 37; refine (HC.out _).mono ?_; rintro e w' ⟨rfl, ⟨n, rfl⟩⟩))
  go_ret2
  exact ⟨rfl, below_dn (Below.refl _ _) _⟩
theorem name_facts (a0 : ByteArray) (hz : a0.size ≤ 140737488351232) (t nm : List UInt8) (h : a0.data.toList = 38 :: t) (hc : E.cut t = some nm) :
    ∃ u r : ByteArray, (u.size : Int) = nm.length + 1 ∧ u.size ≤ 140737488351232 ∧ (∀ W, Calls Tryz.prog 37 #[.string a0, .string ⟨#[59]⟩] W fun e w' => e = .returned (.tuple #[.string u, .string r, .bool true]) ∧ Drawn0 W w') ∧
      ∀ W, (Instr.slice 9 (.string u) (some (.int .i64 1)) none none).run Tryz.prog W = .ok (.string ⟨nm.toArray⟩) W := by
  have hi : Lib.indexByte a0.data.toList 59 = (nm.length + 1 : Nat) ∧ a0.data.toList.take (nm.length + 1) = 38 :: nm ∧ nm.length + 1 < a0.size := by
    have := cut_index t
    rw [hc] at this
    simp only at this
    obtain ⟨i1, i2, i3⟩ := this
    refine ⟨?_, by rw [h, List.take_succ_cons, i2], by rw [Lib.size_eq, h]; simp; exact i3⟩
    rw [h]
    have hne : ¬ ((nm.length : Int) == -1) = true := by simp
    simp only [Lib.indexByte, i1, hne, show ((38 : UInt8) == 59) = false from rfl, Bool.false_eq_true, if_false]
    simp
  obtain ⟨i1, i2, i3⟩ := hi
  have hu : (a0.extract 0 (nm.length + 1)).data.toList = 38 :: nm := by
    rw [Lib.extract_data, List.drop_zero, Nat.sub_zero, i2]
  refine ⟨a0.extract 0 (nm.length + 1), a0.extract (nm.length + 1 + 1) a0.size, ?_, ?_, fun W => ?_, fun W => ?_⟩
  · rw [Lib.size_eq, hu]; simp
  · rw [Lib.size_eq, hu, List.length_cons]; omega
  · refine strings_Cut.calls a0 ⟨#[59]⟩ _ _ true W ?_
    unfold strings_Cut.f
    show (if 140737488351232 < a0.size then none else _) = _
    rw [if_neg (by omega), if_neg (by rw [i1]; omega), i1]
    rfl
  · have hs : (a0.extract 0 (nm.length + 1)).size = nm.length + 1 := by rw [Lib.size_eq, hu]; simp
    clear i1 i2 i3 hz h hc
    generalize a0.extract 0 (nm.length + 1) = u at hu hs ⊢
    rw [run_slice_string_from_if W 9 _ .i64 _ Tryz.underlying9, if_pos ⟨by omega, by omega⟩]
    have e : u.extract (1 : Int).toNat u.size = ⟨nm.toArray⟩ := by
      rw [bytes_eq, Lib.extract_data, hu, hs]
      show List.take (nm.length + 1 - 1) (List.drop 1 (38 :: nm)) = nm
      rw [List.drop_succ_cons, List.drop_zero, List.take_of_length_le (by omega)]
    rw [e]
end Go.Proofs.YtpknhgejnfmijaaGreatDoor.X
end
section
namespace Go.Proofs.YtpknhgejnfmijaaGreatDoor.X
open Go.RowKit Go.Proofs.YtpknhgejnfmijaaGreatDoorW.PrintWords Go.Proofs.YtpknhgejnfmijaaGreatDoor
set_option linter.unusedVariables false
set_option linter.unusedSimpArgs false
theorem cutPrefix_at (v p : ByteArray) (r : List UInt8) (b : Bool) (h1 : Lib.trimPrefix v.data.toList p.data.toList = r) (h2 : Lib.hasPrefix v.data.toList p.data.toList = b) (W : World) :
    Calls Tryz.prog 36 #[.string v, .string p] W fun e w' => e = .returned (.tuple #[.string ⟨r.toArray⟩, .bool b]) ∧ w' = W := by
  have := Tryz.strings_CutPrefix v p W
  rw [h1, h2] at this
  exact this
set_option maxHeartbeats 400000 in
set_option maxRecDepth 100000 in
theorem reference_hex (a0 : ByteArray) (w : World) (hG : Glob w) (hz : a0.size ≤ 140737488351232) (t h : List UInt8) (hl : a0.data.toList = 38 :: t) (hc : E.cut t = some (35 :: 120 :: h)) :
    Calls Tryz.prog 64 #[.string a0] w fun e w' => e = .returned (.tuple #[.string ⟨(E.numR 16 6 h).toArray⟩, .int .i64 (if E.numR 16 6 h = [] then 0 else h.length + 4)]) ∧ Below w.heap.size w w' := by
  have HP := Lib.hid (amp_prefix a0 t hl)
  obtain ⟨u, r, hu, hu2, hcut, hsl⟩ := name_facts a0 hz t _ hl hc
  have HC := Lib.hid hcut
  clear hcut hl hc
  have HX := Lib.hid (cutPrefix_at ⟨(35 :: 120 :: h).toArray⟩ ⟨#[35, 120]⟩ h true (by simp [Lib.trimPrefix, Lib.hasPrefix, List.isPrefixOf]) (by simp [Lib.hasPrefix, List.isPrefixOf]))
  have HN := Lib.hid (fun W hg => number16 ⟨h.toArray⟩ W hg)
  have e0 : (⟨h.toArray⟩ : ByteArray).data.toList = h := rfl
  rw [e0] at HN
  clear e0
  generalize E.numR 16 6 h = out at HN ⊢
  have hu3 : (u.size : Int) + 1 = h.length + 4 := by simp at hu; omega
  clear hu
  by_cases ho : out = []
  · subst ho
    go_enter Tryz.func64, Tryz.ntmps64
    go_wp2_with (first
      | (go_at_call 82; refine (HP.out _).mono ?_; rintro e w' ⟨rfl, rfl⟩)
      | (go_at_call 37; refine (HC.out _).mono ?_; rintro e w' ⟨rfl, ⟨n, rfl⟩⟩)
      | (go_at_call 36; refine (HX.out _).mono ?_; rintro e w' ⟨rfl, rfl⟩)
      | (go_at_call 83; refine (HN.out _ (hG.of_below (below_dn (Below.refl _ _) _))).mono ?_; rintro e w' ⟨rfl, hB⟩))
    go_ret2
    exact ⟨rfl, (below_dn (Below.refl _ _) _).trans hB⟩
  · have hemp : (⟨out.toArray⟩ : ByteArray).toList.isEmpty = false := by
      rw [Lib.toList_data]
      cases out with
      | nil => exact absurd rfl ho
      | cons _ _ => rfl
    rw [if_neg ho, ← hu3]
    clear hu3
    generalize (⟨out.toArray⟩ : ByteArray) = ov at HN hemp ⊢
    go_enter Tryz.func64, Tryz.ntmps64
    go_wp2_with (first
      | (go_at_call 82; refine (HP.out _).mono ?_; rintro e w' ⟨rfl, rfl⟩)
      | (go_at_call 37; refine (HC.out _).mono ?_; rintro e w' ⟨rfl, ⟨n, rfl⟩⟩)
      | (go_at_call 36; refine (HX.out _).mono ?_; rintro e w' ⟨rfl, rfl⟩)
      | (go_at_call 83; refine (HN.out _ (hG.of_below (below_dn (Below.refl _ _) _))).mono ?_; rintro e w' ⟨rfl, hB⟩))
    go_ret2
    exact ⟨rfl, (below_dn (Below.refl _ _) _).trans hB⟩
set_option maxHeartbeats 400000 in
set_option maxRecDepth 100000 in
theorem reference_dec (a0 : ByteArray) (w : World) (hG : Glob w) (hz : a0.size ≤ 140737488351232) (t h : List UInt8) (hl : a0.data.toList = 38 :: t) (hc : E.cut t = some (35 :: h)) (hx : ∀ d, h ≠ 120 :: d) :
    Calls Tryz.prog 64 #[.string a0] w fun e w' => e = .returned (.tuple #[.string ⟨(E.numR 10 7 h).toArray⟩, .int .i64 (if E.numR 10 7 h = [] then 0 else h.length + 3)]) ∧ Below w.heap.size w w' := by
  have HP := Lib.hid (amp_prefix a0 t hl)
  obtain ⟨u, r, hu, hu2, hcut, hsl⟩ := name_facts a0 hz t _ hl hc
  have HC := Lib.hid hcut
  clear hcut hl hc
  have hf : Lib.hasPrefix (35 :: h) [35, 120] = false := by
    cases h with
    | nil => rfl
    | cons c d =>
      simp only [Lib.hasPrefix, List.isPrefixOf, Bool.and_true, beq_self_eq_true, Bool.true_and, beq_eq_false_iff_ne]
      intro e
      exact hx d (by rw [← e])
  obtain ⟨tp, hp, HX, e1, e2, e3, e4⟩ : ∃ (tp : ByteArray → List UInt8) (hp : ByteArray → Bool), Hid (∀ p W, Calls Tryz.prog 36 #[.string ⟨(35 :: h).toArray⟩, .string p] W fun e w' => e = .returned (.tuple #[.string ⟨(tp p).toArray⟩, .bool (hp p)]) ∧ w' = W) ∧ tp ⟨#[35, 120]⟩ = 35 :: h ∧ hp ⟨#[35, 120]⟩ = false ∧ tp ⟨#[35]⟩ = h ∧ hp ⟨#[35]⟩ = true := by
    refine ⟨fun p => Lib.trimPrefix (35 :: h) p.data.toList, fun p => Lib.hasPrefix (35 :: h) p.data.toList, fun p W => cutPrefix_at ⟨(35 :: h).toArray⟩ p _ _ rfl rfl W, ?_, ?_, ?_, ?_⟩
    · show Lib.trimPrefix (35 :: h) [35, 120] = _
      unfold Lib.trimPrefix
      rw [hf]
      rfl
    · exact hf
    · simp [Lib.trimPrefix, Lib.hasPrefix, List.isPrefixOf]
    · simp [Lib.hasPrefix, List.isPrefixOf]
  clear hf hx
  have HN := Lib.hid (fun W hg => number10 ⟨h.toArray⟩ W hg)
  have e0 : (⟨h.toArray⟩ : ByteArray).data.toList = h := rfl
  rw [e0] at HN
  clear e0
  generalize E.numR 10 7 h = out at HN ⊢
  have hu3 : (u.size : Int) + 1 = h.length + 3 := by simp at hu; omega
  clear hu
  by_cases ho : out = []
  · subst ho
    go_enter Tryz.func64, Tryz.ntmps64
    go_wp2_with (first
      | (go_at_call 82; refine (HP.out _).mono ?_; rintro e w' ⟨rfl, rfl⟩)
      | (go_at_call 37; refine (HC.out _).mono ?_; rintro e w' ⟨rfl, ⟨n, rfl⟩⟩)
      | (go_at_call 36; refine (HX.out _ _).mono ?_; rintro e w' ⟨rfl, rfl⟩; first | rw [e1, e2] | rw [e3, e4])
      | (go_at_call 83; refine (HN.out _ (hG.of_below (below_dn (Below.refl _ _) _))).mono ?_; rintro e w' ⟨rfl, hB⟩))
    go_ret2
    exact ⟨rfl, (below_dn (Below.refl _ _) _).trans hB⟩
  · have hemp : (⟨out.toArray⟩ : ByteArray).toList.isEmpty = false := by
      rw [Lib.toList_data]
      cases out with
      | nil => exact absurd rfl ho
      | cons _ _ => rfl
    rw [if_neg ho, ← hu3]
    clear hu3
    generalize (⟨out.toArray⟩ : ByteArray) = ov at HN hemp ⊢
    go_enter Tryz.func64, Tryz.ntmps64
    go_wp2_with (first
      | (go_at_call 82; refine (HP.out _).mono ?_; rintro e w' ⟨rfl, rfl⟩)
      | (go_at_call 37; refine (HC.out _).mono ?_; rintro e w' ⟨rfl, ⟨n, rfl⟩⟩)
      | (go_at_call 36; refine (HX.out _ _).mono ?_; rintro e w' ⟨rfl, rfl⟩; first | rw [e1, e2] | rw [e3, e4])
      | (go_at_call 83; refine (HN.out _ (hG.of_below (below_dn (Below.refl _ _) _))).mono ?_; rintro e w' ⟨rfl, hB⟩))
    go_ret2
    exact ⟨rfl, (below_dn (Below.refl _ _) _).trans hB⟩
theorem field_word (s : ByteArray) (W : World) : (Instr.field 129 (.agg #[.string s]) 0).run Tryz.prog W = .ok (.string s) W := by kernel_rfl
set_option maxHeartbeats 400000 in
set_option maxRecDepth 100000 in
theorem reference_name (a0 : ByteArray) (w : World) (hG : Glob w) (hz : a0.size ≤ 140737488351232) (t h : List UInt8) (hl : a0.data.toList = 38 :: t) (hc : E.cut t = some h) (hx : ∀ d, h ≠ 35 :: d) :
    Calls Tryz.prog 64 #[.string a0] w fun e w' => e = .returned (.tuple #[.string ⟨(E.word h).toArray⟩, .int .i64 (if E.word h = [] then 0 else h.length + 2)]) ∧ Below w.heap.size w w' := by
  have HP := Lib.hid (amp_prefix a0 t hl)
  obtain ⟨u, r, hu, hu2, hcut, hsl⟩ := name_facts a0 hz t _ hl hc
  have HC := Lib.hid hcut
  clear hcut hl hc
  have hf : ∀ p : List UInt8, Lib.hasPrefix h (35 :: p) = false := by
    intro p
    cases h with
    | nil => rfl
    | cons c d =>
      simp only [Lib.hasPrefix, List.isPrefixOf, Bool.and_eq_false_iff, beq_eq_false_iff_ne]
      left
      intro e
      exact hx d (by rw [← e])
  obtain ⟨tp, hp, HX, e1, e2, e3, e4⟩ : ∃ (tp : ByteArray → List UInt8) (hp : ByteArray → Bool), Hid (∀ p W, Calls Tryz.prog 36 #[.string ⟨h.toArray⟩, .string p] W fun e w' => e = .returned (.tuple #[.string ⟨(tp p).toArray⟩, .bool (hp p)]) ∧ w' = W) ∧ tp ⟨#[35, 120]⟩ = h ∧ hp ⟨#[35, 120]⟩ = false ∧ tp ⟨#[35]⟩ = h ∧ hp ⟨#[35]⟩ = false := by
    refine ⟨fun p => Lib.trimPrefix h p.data.toList, fun p => Lib.hasPrefix h p.data.toList, fun p W => cutPrefix_at ⟨h.toArray⟩ p _ _ rfl rfl W, ?_, ?_, ?_, ?_⟩
    · show Lib.trimPrefix h [35, 120] = _
      unfold Lib.trimPrefix
      rw [hf]
      rfl
    · exact hf _
    · show Lib.trimPrefix h [35] = _
      unfold Lib.trimPrefix
      rw [hf]
      rfl
    · exact hf _
  clear hf hx
  have HM := Lib.hid names
  have hfw := field_word
  have hlk : ∀ (W : World) (b : Nat), W.heap[b]? = some (.map namesEs 5) → (Instr.lookup 130 (.map (some b)) (.string ⟨h.toArray⟩) false).run Tryz.prog W = .ok (.agg #[.string ⟨(E.word h).toArray⟩]) W := fun W b hb => look_names W b hb ⟨h.toArray⟩
  have HN := Lib.hid hlk
  clear hlk
  generalize E.word h = out at HN ⊢
  have hu3 : (u.size : Int) + 1 = h.length + 2 := by omega
  clear hu
  by_cases ho : out = []
  · subst ho
    go_enter Tryz.func64, Tryz.ntmps64
    go_wp2_with (first
      | (go_at_call 82; refine (HP.out _).mono ?_; rintro e w' ⟨rfl, rfl⟩)
      | (go_at_call 37; refine (HC.out _).mono ?_; rintro e w' ⟨rfl, ⟨n, rfl⟩⟩)
      | (go_at_call 36; refine (HX.out _ _).mono ?_; rintro e w' ⟨rfl, rfl⟩; first | rw [e1, e2] | rw [e3, e4])
      | (go_at_call 84; refine (HM.out _).mono ?_; rintro e w' ⟨rfl, hm, hz2, hB⟩; have hlk := HN.out w' _ hm; dsimp only [World.drewN] at hlk))
    go_ret2
    exact ⟨rfl, (below_dn (Below.refl _ _) _).trans hB⟩
  · have hemp : (⟨out.toArray⟩ : ByteArray).toList.isEmpty = false := by
      rw [Lib.toList_data]
      cases out with
      | nil => exact absurd rfl ho
      | cons _ _ => rfl
    rw [if_neg ho, ← hu3]
    clear hu3
    generalize (⟨out.toArray⟩ : ByteArray) = ov at HN hemp ⊢
    go_enter Tryz.func64, Tryz.ntmps64
    go_wp2_with (first
      | (go_at_call 82; refine (HP.out _).mono ?_; rintro e w' ⟨rfl, rfl⟩)
      | (go_at_call 37; refine (HC.out _).mono ?_; rintro e w' ⟨rfl, ⟨n, rfl⟩⟩)
      | (go_at_call 36; refine (HX.out _ _).mono ?_; rintro e w' ⟨rfl, rfl⟩; first | rw [e1, e2] | rw [e3, e4])
      | (go_at_call 84; refine (HM.out _).mono ?_; rintro e w' ⟨rfl, hm, hz2, hB⟩; have hlk := HN.out w' _ hm; dsimp only [World.drewN] at hlk))
    go_ret2
    exact ⟨rfl, (below_dn (Below.refl _ _) _).trans hB⟩
theorem entity_Reference.calls (a0 : ByteArray) (r1 : ByteArray) (r2 : Int) (w : World) (hG : Glob w) (h : entity_Reference.f a0 = some (r1, r2)) :
    Calls Tryz.prog 64 #[.string a0] w fun e w' => e = .returned (.tuple #[.string r1, .int .i64 r2]) ∧ Below w.heap.size w w' := by
  unfold entity_Reference.f at h
  split at h
  rotate_left
  · cases h
  rename_i hz
  simp only [Option.some.injEq, Prod.mk.injEq] at h
  obtain ⟨rfl, rfl⟩ := h
  by_cases h0 : ∀ t, a0.data.toList ≠ 38 :: t
  · have e : E.refR a0.data.toList = ([], 0) := by
      cases hl : a0.data.toList with
      | nil => rfl
      | cons c t => exact E.refR_other c t (fun e => h0 t (by rw [hl, e]))
    rw [e]
    exact reference_none a0 w h0
  · obtain ⟨t, ht⟩ : ∃ t, a0.data.toList = 38 :: t := Classical.byContradiction fun hn => h0 fun t e => hn ⟨t, e⟩
    rw [ht, E.refR_amp]
    cases hc : E.cut t with
    | none => exact reference_uncut a0 w hz t ht hc
    | some nm =>
      simp only
      by_cases hp : ∃ d, nm = 35 :: d
      · obtain ⟨d, rfl⟩ := hp
        by_cases hx : ∃ h, d = 120 :: h
        · obtain ⟨h, rfl⟩ := hx
          have := reference_hex a0 w hG hz t h ht hc
          show Calls _ _ _ _ fun e w' => e = .returned (.tuple #[.string ⟨(if E.numR 16 6 h = [] then ([], 0) else (E.numR 16 6 h, (35 :: 120 :: h).length + 2) : List UInt8 × Nat).1.toArray⟩, .int .i64 ((if E.numR 16 6 h = [] then ([], 0) else (E.numR 16 6 h, (35 :: 120 :: h).length + 2) : List UInt8 × Nat).2 : Nat)]) ∧ _
          split at this
          · rename_i ho; rw [ho] at this; rw [if_pos ho]; exact this
          · rename_i ho
            rw [if_neg ho]
            have e : (((35 :: 120 :: h).length + 2 : Nat) : Int) = h.length + 4 := by simp; omega
            simp only
            rw [e]
            exact this
        · have hx' : ∀ h, d ≠ 120 :: h := fun h e => hx ⟨h, e⟩
          have hn : E.nameR (35 :: d) = E.numR 10 7 d := by
            unfold E.nameR
            split
            · rename_i h he; cases he; exact absurd rfl (hx' h)
            · rename_i he; cases he; rfl
            · rename_i h1 h2; exact absurd rfl (h2 d)
          have := reference_dec a0 w hG hz t d ht hc hx'
          rw [hn]
          split at this
          · rename_i ho; rw [ho] at this; rw [if_pos ho]; exact this
          · rename_i ho
            rw [if_neg ho]
            have e : (((35 :: d).length + 2 : Nat) : Int) = d.length + 3 := by simp; omega
            simp only
            rw [e]
            exact this
      · have hp' : ∀ d, nm ≠ 35 :: d := fun d e => hp ⟨d, e⟩
        have hn : E.nameR nm = E.word nm := by
          unfold E.nameR
          split
          · exact absurd rfl (hp' _)
          · exact absurd rfl (hp' _)
          · rfl
        have := reference_name a0 w hG hz t nm ht hc hp'
        rw [hn]
        split at this
        · rename_i ho; rw [ho] at this; rw [if_pos ho]; exact this
        · rename_i ho
          rw [if_neg ho]
          exact this
end Go.Proofs.YtpknhgejnfmijaaGreatDoor.X
end
section
namespace Go.Proofs.YtpknhgejnfmijaaGreatDoor.X
open Go.RowKit Go.Proofs.YtpknhgejnfmijaaGreatDoorW.PrintWords
set_option linter.unusedVariables false
set_option linter.unusedSimpArgs false
theorem bSize : (Tryz.prog.info? 113).map (·.size) = some 2 := by kernel_rfl
theorem bLies : liesAt Tryz.prog Tryz.prog.depth 113 (2 / Tryz.prog.cellsOf 113) 0 113 1 = true := by kernel_rfl
theorem bByte : (Tryz.prog.info? 5).map (fun i => (i.zero, i.size, i.bytes)) = some (some (.int .u8 0), 1, 1) := by kernel_rfl
set_option maxHeartbeats 1000000 in
set_option maxRecDepth 100000 in
theorem copyCheck_used (b : Nat) (w : World) (h0 : w.cell? ⟨b, 0, none⟩ = some (.pointer (some ⟨b, 0, none⟩))) :
    Calls Tryz.prog 85 #[.pointer (some ⟨b, 0, none⟩)] w fun e w' => e = .returned (.tuple #[]) ∧ w' = w := by
  obtain ⟨j, hj, _⟩ := Option.map_eq_some_iff.1 bSize
  go_enter Tryz.func85, Tryz.ntmps85
  go_wp2
  rw [Lib.run_neq_ptr_same w _ Tryz.underlying111 hj]
  go_wp2
  go_end0
  exact ⟨rfl, rfl⟩
set_option maxHeartbeats 1000000 in
set_option maxRecDepth 100000 in
theorem copyCheck_fresh (b : Nat) (w : World) (h0 : w.cell? ⟨b, 0, none⟩ = some (.pointer none)) (hsh : w.shape? b = some (113, 2)) (hfz : w.frozen? ⟨b, 0, none⟩ = false) :
    Calls Tryz.prog 85 #[.pointer (some ⟨b, 0, none⟩)] w fun e w' => e = .returned (.tuple #[]) ∧ w' = w.setCell ⟨b, 0, none⟩ (.pointer (some ⟨b, 0, none⟩)) := by
  obtain ⟨j, hj, hjs⟩ := Option.map_eq_some_iff.1 bSize
  go_enter Tryz.func85, Tryz.ntmps85
  go_wp2
  rw [Lib.run_to_unsafe w ⟨b, 0, none⟩ Tryz.underlying111 Tryz.underlying140 hj (by rw [hjs]; decide) hsh (Nat.zero_lt_succ 1)]
  simp only [Result.andThen]
  rw [Oper.upon_value]
  go_wp2
  rw [run_callFunc_extern Tryz.func96 (by kernel_rfl) (by kernel_rfl) (by kernel_rfl) (e := Extern.AbiNoEscape.same) (by kernel_rfl)]
  rw [Lib.run_noEscape]
  simp only [Result.andThen]
  rw [Oper.upon_value]
  go_wp2
  rw [Lib.run_from_unsafe w ⟨b, 0, none⟩ Tryz.underlying140 Tryz.underlying111 hj hsh bLies]
  simp only [Result.andThen]
  rw [Oper.upon_value]
  go_wp2
  go_end0
  exact ⟨rfl, rfl⟩
theorem copyCheck_k (B b : Nat) (bs : List Value) (w : World) (h : Lib.IsBuilderF 113 5 B b bs w) :
    Calls Tryz.prog 85 #[.pointer (some ⟨b, 0, none⟩)] w fun e w' => e = .returned (.tuple #[]) ∧ (Lib.BuilderAtF 113 5 B b (.pointer (some ⟨b, 0, none⟩)) bs w' ∧ Below B w w' ∧ Lib.OthersKept 5 (some b) w w') := by
  rcases h with h | h
  · refine (copyCheck_fresh b w h.cell0 h.shape h.frozen0).mono ?_
    rintro e w' ⟨rfl, rfl⟩
    exact ⟨rfl, h.used _, (Below.refl B w).setCell (p := ⟨b, 0, none⟩) h.1 _, (Lib.OthersKept.refl _ _ w).setCell ⟨b, 0, none⟩ rfl _⟩
  · refine (copyCheck_used b w h.cell0).mono ?_
    rintro e w' ⟨rfl, rfl⟩
    exact ⟨rfl, h, Below.refl B _, Lib.OthersKept.refl _ _ _⟩
set_option maxHeartbeats 2000000 in
set_option maxRecDepth 100000 in
theorem writeString_k (B b : Nat) (bs : List Value) (s : ByteArray) (w : World) (h : Lib.IsBuilderF 113 5 B b bs w) (hlen : bs.length + s.size ≤ 140737488355328) (hBw : B ≤ w.heap.size) :
    Calls Tryz.prog 66 #[.pointer (some ⟨b, 0, none⟩), .string s] w fun e w' => e = .returned (.tuple #[.int .i64 s.size, .nilIface]) ∧ (Lib.BuilderAtF 113 5 B b (.pointer (some ⟨b, 0, none⟩)) (bs ++ Lib.strCells s) w' ∧ Below B w w' ∧ Lib.OthersKept 5 (some b) w w') := by
  obtain ⟨i0, hi, hz0, hz1, hz2⟩ := info_parts bByte
  have HC := Lib.hid (copyCheck_k B b bs w h)
  clear h
  go_enter Tryz.func66, Tryz.ntmps66
  go_wp2_with (go_at_call 85; refine HC.out.mono ?_)
  rintro e w1 ⟨rfl, h1, hb1, hk1⟩
  obtain ⟨hB, v, hbk, hown, hne⟩ := h1
  have c0 : w1.cell? ⟨b, 0, none⟩ = some (.pointer (some ⟨b, 0, none⟩)) := by rw [Lib.cell_of_heap hbk]; rfl
  have c1 : w1.cell? ⟨b, 1, none⟩ = some v := by rw [Lib.cell_of_heap hbk]; rfl
  go_wp2_with (at_builtin; refine Lib.wpList_append_own_stringF _ rfl _ _ 51 9 rfl B 5 i0 Tryz.underlying51 Tryz.underlying9 hi hz0 hz1 hz2 _ _ _ rfl hown s rfl ?c3 ?c4 ?c5 ?_)
  case c3 => unfold maxLen; omega
  case c4 => omega
  case c5 => have := hb1.size; omega
  intro v' w2 hown' hgrow _
  have hlt : b < w1.heap.size := by
    rcases Nat.lt_or_ge b w1.heap.size with h' | h'
    · exact h'
    · simp [Array.getElem?_eq_none h'] at hbk
  have hb2 : w2.heap[b]? = some (.cells #[.pointer (some ⟨b, 0, none⟩), v] 113 (0, 0)) := by
    rw [hgrow.block b hlt (fun e => hne e.symm)]
    exact hbk
  have d0 : w2.cell? ⟨b, 0, none⟩ = some (.pointer (some ⟨b, 0, none⟩)) := by rw [Lib.cell_of_heap hb2]; rfl
  have d1 : w2.cell? ⟨b, 1, none⟩ = some v := by rw [Lib.cell_of_heap hb2]; rfl
  have f1 : w2.frozen? ⟨b, 1, none⟩ = false := Lib.frozen_of_heap hb2 1
  obtain ⟨ao, n', cap, rfl⟩ : ∃ ao n' cap, v' = .slice ao n' cap := by
    rcases hown'.2 with ⟨hv, _⟩ | ⟨g, cap, cur, fz, hv, _⟩
    · exact ⟨_, _, _, hv⟩
    · exact ⟨_, _, _, hv⟩
  go_wp2
  go_ret2
  refine ⟨rfl, ?_, ?_, (hk1.grown hgrow (Lib.ownsRowF_kind hown)).setCell ⟨b, 1, none⟩ rfl _⟩
  · exact Lib.BuilderAtF.put (T := 113) (e := 5) hB hb2 (bs' := bs ++ Lib.strCells s) (by simpa [Lib.strCells_length] using hown') (by decide)
  · exact (hb1.grown hgrow (by have := hb1.size; omega) (fun k hk => (hown.lt k hk).1)).setCell (p := ⟨b, 1, none⟩) hB _
end Go.Proofs.YtpknhgejnfmijaaGreatDoor.X
end
