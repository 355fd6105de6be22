/- A text of the claim, with what no other text of it needs taken out. -/
import Derived.Test.YtpknhgejnfmijaaGreatDoorEM
import Derived.Lib.AtoiAllMem
import Derived.Lib.ConvBytes
import Derived.Laws.Strings3
import Derived.Laws.Closers25
import Derived.Laws.Closers25b
import Derived.BigCall
import Derived.BigGuard
namespace Go.Proofs.YtpknhgejnfmijaaGreatDoor.X
open Go.RowKit Go.Proofs.YtpknhgejnfmijaaGreatDoorW.PrintWords
set_option linter.unusedVariables false
set_option linter.unusedSimpArgs false
def pu (b : Nat) : Nat → List UInt8 → Option Nat
  | n, [] => some n
  | n, c :: l => if E.dig c < b then pu b (n * b + E.dig c) l else none
theorem pu_all (b : Nat) : ∀ (l : List UInt8) (n : Nat), pu b n l = if l.all (fun c => decide (E.dig c < b)) = true then some (E.num b n l) else none := by
  intro l
  induction l with
  | nil => intro n; rfl
  | cons c l ih =>
    intro n
    by_cases h : E.dig c < b
    · simp [pu, E.num, h, ih]
    · simp [pu, h]
theorem dig_digit (c : UInt8) (h : 48 ≤ c.toNat ∧ c.toNat ≤ 57) : E.dig c = c.toNat - 48 := by
  unfold E.dig
  rw [if_pos h]
theorem low_facts : ∀ n : Fin 256, ¬ (48 ≤ n.val ∧ n.val ≤ 57) → (0 ≤ bits .or .u8 (n.val : Int) 32 ∧ bits .or .u8 (n.val : Int) 32 ≤ 255) ∧
    ((97 ≤ bits .or .u8 (n.val : Int) 32 ∧ bits .or .u8 (n.val : Int) 32 < 103) → (E.dig (UInt8.ofNat n.val) : Int) = bits .or .u8 (n.val : Int) 32 - 87 ∧ 65 ≤ n.val ∧ n.val ≠ 95) ∧
    (¬ (97 ≤ bits .or .u8 (n.val : Int) 32 ∧ bits .or .u8 (n.val : Int) 32 < 103) → E.dig (UInt8.ofNat n.val) = 99) := by decide +kernel
theorem low_of (c : UInt8) (h : ¬ (48 ≤ c.toNat ∧ c.toNat ≤ 57)) : (0 ≤ bits .or .u8 (c.toNat : Int) 32 ∧ bits .or .u8 (c.toNat : Int) 32 ≤ 255) ∧
    ((97 ≤ bits .or .u8 (c.toNat : Int) 32 ∧ bits .or .u8 (c.toNat : Int) 32 < 103) → (E.dig c : Int) = bits .or .u8 (c.toNat : Int) 32 - 87 ∧ 65 ≤ c.toNat ∧ c.toNat ≠ 95) ∧
    (¬ (97 ≤ bits .or .u8 (c.toNat : Int) 32 ∧ bits .or .u8 (c.toNat : Int) 32 < 103) → E.dig c = 99) := by
  have := low_facts ⟨c.toNat, c.toNat_lt⟩ h
  simpa using this
theorem pow_step (k acc d : Nat) (h : acc < 16 ^ k) (hd : d < 16) : acc * 16 + d < 16 ^ (k + 1) := by
  rw [Nat.pow_succ]
  omega
theorem pow_small (k acc : Nat) (h : acc < 16 ^ k) (hk : k ≤ 7) : acc < 268435456 := by
  have := Nat.pow_le_pow_right (n := 16) (by omega) hk
  have e : (16 : Nat) ^ 7 = 268435456 := by decide
  omega
def puTuple : Option Nat → Value
  | some n => .tuple #[.int .u64 n, .nilIface]
  | none => .tuple #[.int .u64 0, .iface 151 (.int .i64 2)]
set_option maxHeartbeats 32000000 in
set_option maxRecDepth 100000 in
theorem parseUint16 (t : ByteArray) (hne : t.size ≠ 0) (h7 : t.size ≤ 7) (w : World) :
    Calls Tryz.prog 104 #[.string t, .int .i64 16, .int .i64 64] w fun e w' => e = .returned (puTuple (pu 16 0 t.data.toList)) ∧ w' = Lib.bytesWorld w 5 t := by
  have hemp : t.toList.isEmpty = false := by
    rw [← decide_eq_emptyBytes]
    exact decide_eq_false (fun h => hne (by rw [h]; rfl))
  have hcv := Lib.run_convert_string_bytes (P := Tryz.prog) w 9 51 5 t (u := .string) Tryz.underlying9 Tryz.underlying51 Tryz.underlying5
  have hB : ∀ j, j < t.size → (Lib.bytesWorld w 5 t).cell? ⟨w.heap.size, j, none⟩ = some (.int .u8 (t.data.toList.getD j 0).toNat) := fun j hj => Lib.bytesWorld_cell w 5 t j hj
  obtain ⟨W1, hW1⟩ : ∃ W1, W1 = Lib.bytesWorld w 5 t := ⟨_, rfl⟩
  rw [← hW1] at hcv hB ⊢
  clear hW1
  obtain ⟨bs, hL⟩ : ∃ bs, bs = t.data.toList := ⟨_, rfl⟩
  have hLn : bs.length = t.size := by rw [hL, Lib.size_eq]
  rw [← hL] at hB ⊢
  clear hL
  have hmv : IntKind.u64.wrap (IntKind.u64.wrap 18446744073709551616 - 1) = 18446744073709551615 := by
    rw [IntKind.wrap_u64, IntKind.wrap_u64]
    decide
  have HLOW := Lib.hid (fun c W => Tryz.internal_strconv_lower c W)
  go_enter Tryz.func104, Tryz.ntmps104
  go_wp2
  go_loop [12, 13, 101] (fun vu vn vi => ∃ (k acc : Nat) (a : Int), vu = .bool false ∧ vn = .int .u64 a ∧ vi = .int .i64 k ∧ k ≤ t.size ∧ Hid (a = (acc : Int) ∧ acc < 16 ^ k ∧ pu 16 0 bs = pu 16 acc (bs.drop k)))
    (fun _ _ vi => t.size - (intOf vi).toNat)
  case atStart => exact ⟨0, 0, 0, rfl, rfl, rfl, by omega, rfl, by decide, rfl⟩
  case round =>
    obtain ⟨k, acc, a, rfl, rfl, rfl, hk, hh⟩ := hrel
    obtain ⟨ha, hacc, hdec⟩ := hh.out
    clear hh
    have hac := pow_small k acc hacc (by omega)
    have a0 : 0 ≤ a := by omega
    have a1 : a < 268435456 := by omega
    have HA := Lib.hid hacc
    clear hacc
    by_cases hkn : k < t.size
    · have hc := hB k hkn
      have hdrop : bs.drop k = bs[k]'(by omega) :: bs.drop (k + 1) := List.drop_eq_getElem_cons (by omega)
      have hget : bs.getD k 0 = bs[k]'(by omega) := by simp [List.getD, List.getElem?_eq_getElem (show k < bs.length by omega)]
      rw [hdrop] at hdec
      rw [hget] at hc
      generalize bs[k]'(by omega) = c at hc hdec
      have hc256 : c.toNat < 256 := c.toNat_lt
      clear hB hdrop hget
      by_cases hdig : 48 ≤ c.toNat ∧ c.toNat ≤ 57
      · have hdc := dig_digit c hdig
        obtain ⟨hd0, hd1⟩ := hdig
        have hF : pu 16 acc (c :: bs.drop (k + 1)) = pu 16 (acc * 16 + (c.toNat - 48)) (bs.drop (k + 1)) := by
          simp only [pu]
          rw [if_pos (by omega), hdc]
        have HN : Hid (a * 16 + ((c.toNat : Int) - 48) = ((acc * 16 + (c.toNat - 48) : Nat) : Int) ∧ acc * 16 + (c.toNat - 48) < 16 ^ (k + 1) ∧ pu 16 0 bs = pu 16 (acc * 16 + (c.toNat - 48)) (bs.drop (k + 1))) := Lib.hid ⟨by omega, by have := pow_step k acc (c.toNat - 48) HA.out (by omega); omega, hdec.trans hF⟩
        have iov : a * 16 + ((c.toNat : Int) - 48) < 18446744073709551616 := by omega
        clear hF hdec ha hac hdc
        go_wp2
        refine ⟨⟨k + 1, acc * 16 + (c.toNat - 48), a * 16 + ((c.toNat : Int) - 48), rfl, (by first | rfl | (congr 1; omega)), (by first | rfl | (congr 1; omega)), by omega, HN⟩, by simp [intOf]; omega⟩
      · obtain ⟨⟨l0, l1⟩, l2, l3⟩ := low_of c hdig
        have hv : ∀ W, Calls Tryz.prog 109 #[.int .u8 (c.toNat : Int)] W fun e w' => e = .returned (.int .u8 (bits .or .u8 (c.toNat : Int) 32)) ∧ w' = W := fun W => HLOW.out (c.toNat : Int) W
        have hu : ∀ W, Calls Tryz.prog 109 #[.int .u8 95] W fun e w' => e = .returned (.int .u8 127) ∧ w' = W := fun W => HLOW.out 95 W
        generalize bits .or .u8 (c.toNat : Int) 32 = L at l0 l1 l2 l3 hv
        have HV := Lib.hid hv
        have HU := Lib.hid hu
        clear hv hu
        by_cases hlet : 97 ≤ L ∧ L < 103
        · obtain ⟨hdc, c65, c95⟩ := l2 hlet
          have i95 : ((c.toNat : Int) == 95) = false := by simp; omega
          have i57 : (57 : Int) < c.toNat := by omega
          obtain ⟨e0, e1⟩ := hlet
          clear l2 l3 c95 hdig
          have hF : pu 16 acc (c :: bs.drop (k + 1)) = pu 16 (acc * 16 + E.dig c) (bs.drop (k + 1)) := by
            simp only [pu]
            rw [if_pos (by omega)]
          have HN : Hid (a * 16 + (L - 97 + 10) = ((acc * 16 + E.dig c : Nat) : Int) ∧ acc * 16 + E.dig c < 16 ^ (k + 1) ∧ pu 16 0 bs = pu 16 (acc * 16 + E.dig c) (bs.drop (k + 1))) := Lib.hid ⟨by omega, pow_step k acc (E.dig c) HA.out (by omega), hdec.trans hF⟩
          have iov : a * 16 + (L - 97 + 10) < 18446744073709551616 := by omega
          clear hF hdec ha hac hdc
          generalize E.dig c = dc at HN
          go_wp2_with (go_at_call 109; first | (refine (HV.out _).mono ?_; rintro e w' ⟨rfl, rfl⟩) | (refine (HU.out _).mono ?_; rintro e w' ⟨rfl, rfl⟩))
          refine ⟨⟨k + 1, acc * 16 + dc, a * 16 + (L - 97 + 10), rfl, (by first | rfl | (congr 1; omega)), (by first | rfl | (congr 1; omega)), by omega, HN⟩, by simp [intOf]; omega⟩
        · have hdc := l3 hlet
          clear l2 l3
          have hF : pu 16 acc (c :: bs.drop (k + 1)) = none := by
            simp only [pu]
            rw [if_neg (by omega)]
          rw [hF] at hdec
          clear hF ha hac hdc
          by_cases m0 : 97 ≤ L
          · have m1 : 103 ≤ L := by omega
            clear hlet
            go_wp2_with (go_at_call 109; first | (refine (HV.out _).mono ?_; rintro e w' ⟨rfl, rfl⟩) | (refine (HU.out _).mono ?_; rintro e w' ⟨rfl, rfl⟩))
            all_goals go_ret2
            all_goals first | exact ⟨rfl, rfl⟩ | exact ⟨by rw [hdec]; rfl, rfl⟩
          · clear hlet
            go_wp2_with (go_at_call 109; first | (refine (HV.out _).mono ?_; rintro e w' ⟨rfl, rfl⟩) | (refine (HU.out _).mono ?_; rintro e w' ⟨rfl, rfl⟩))
            all_goals go_ret2
            all_goals first | exact ⟨rfl, rfl⟩ | exact ⟨by rw [hdec]; rfl, rfl⟩
    · have hkk : k = t.size := by omega
      subst hkk
      have hF : pu 16 acc (bs.drop t.size) = some acc := by rw [List.drop_eq_nil_of_le (by omega)]; rfl
      rw [hF] at hdec
      subst ha
      clear hF a0 a1
      go_wp2
      go_ret2
      first | exact ⟨rfl, rfl⟩ | exact ⟨by rw [hdec]; rfl, rfl⟩
set_option maxHeartbeats 32000000 in
set_option maxRecDepth 100000 in
theorem parseUint10 (t : ByteArray) (hne : t.size ≠ 0) (h7 : t.size ≤ 7) (w : World) :
    Calls Tryz.prog 104 #[.string t, .int .i64 10, .int .i64 64] w fun e w' => e = .returned (puTuple (pu 10 0 t.data.toList)) ∧ w' = Lib.bytesWorld w 5 t := by
  have hemp : t.toList.isEmpty = false := by
    rw [← decide_eq_emptyBytes]
    exact decide_eq_false (fun h => hne (by rw [h]; rfl))
  have hcv := Lib.run_convert_string_bytes (P := Tryz.prog) w 9 51 5 t (u := .string) Tryz.underlying9 Tryz.underlying51 Tryz.underlying5
  have hB : ∀ j, j < t.size → (Lib.bytesWorld w 5 t).cell? ⟨w.heap.size, j, none⟩ = some (.int .u8 (t.data.toList.getD j 0).toNat) := fun j hj => Lib.bytesWorld_cell w 5 t j hj
  obtain ⟨W1, hW1⟩ : ∃ W1, W1 = Lib.bytesWorld w 5 t := ⟨_, rfl⟩
  rw [← hW1] at hcv hB ⊢
  clear hW1
  obtain ⟨bs, hL⟩ : ∃ bs, bs = t.data.toList := ⟨_, rfl⟩
  have hLn : bs.length = t.size := by rw [hL, Lib.size_eq]
  rw [← hL] at hB ⊢
  clear hL
  have hmv : IntKind.u64.wrap (IntKind.u64.wrap 18446744073709551616 - 1) = 18446744073709551615 := by
    rw [IntKind.wrap_u64, IntKind.wrap_u64]
    decide
  have HLOW := Lib.hid (fun c W => Tryz.internal_strconv_lower c W)
  go_enter Tryz.func104, Tryz.ntmps104
  go_wp2
  go_loop [12, 13, 101] (fun vu vn vi => ∃ (k acc : Nat) (a : Int), vu = .bool false ∧ vn = .int .u64 a ∧ vi = .int .i64 k ∧ k ≤ t.size ∧ Hid (a = (acc : Int) ∧ acc < 16 ^ k ∧ pu 10 0 bs = pu 10 acc (bs.drop k)))
    (fun _ _ vi => t.size - (intOf vi).toNat)
  case atStart => exact ⟨0, 0, 0, rfl, rfl, rfl, by omega, rfl, by decide, rfl⟩
  case round =>
    obtain ⟨k, acc, a, rfl, rfl, rfl, hk, hh⟩ := hrel
    obtain ⟨ha, hacc, hdec⟩ := hh.out
    clear hh
    have hac := pow_small k acc hacc (by omega)
    have a0 : 0 ≤ a := by omega
    have a1 : a < 268435456 := by omega
    have HA := Lib.hid hacc
    clear hacc
    by_cases hkn : k < t.size
    · have hc := hB k hkn
      have hdrop : bs.drop k = bs[k]'(by omega) :: bs.drop (k + 1) := List.drop_eq_getElem_cons (by omega)
      have hget : bs.getD k 0 = bs[k]'(by omega) := by simp [List.getD, List.getElem?_eq_getElem (show k < bs.length by omega)]
      rw [hdrop] at hdec
      rw [hget] at hc
      generalize bs[k]'(by omega) = c at hc hdec
      have hc256 : c.toNat < 256 := c.toNat_lt
      clear hB hdrop hget
      by_cases hdig : 48 ≤ c.toNat ∧ c.toNat ≤ 57
      · have hdc := dig_digit c hdig
        obtain ⟨hd0, hd1⟩ := hdig
        have hF : pu 10 acc (c :: bs.drop (k + 1)) = pu 10 (acc * 10 + (c.toNat - 48)) (bs.drop (k + 1)) := by
          simp only [pu]
          rw [if_pos (by omega), hdc]
        have HN : Hid (a * 10 + ((c.toNat : Int) - 48) = ((acc * 10 + (c.toNat - 48) : Nat) : Int) ∧ acc * 10 + (c.toNat - 48) < 16 ^ (k + 1) ∧ pu 10 0 bs = pu 10 (acc * 10 + (c.toNat - 48)) (bs.drop (k + 1))) := Lib.hid ⟨by omega, by have := pow_step k acc (c.toNat - 48) HA.out (by omega); omega, hdec.trans hF⟩
        have iov : a * 10 + ((c.toNat : Int) - 48) < 18446744073709551616 := by omega
        clear hF hdec ha hac hdc
        go_wp2
        refine ⟨⟨k + 1, acc * 10 + (c.toNat - 48), a * 10 + ((c.toNat : Int) - 48), rfl, (by first | rfl | (congr 1; omega)), (by first | rfl | (congr 1; omega)), by omega, HN⟩, by simp [intOf]; omega⟩
      · obtain ⟨⟨l0, l1⟩, l2, l3⟩ := low_of c hdig
        have hv : ∀ W, Calls Tryz.prog 109 #[.int .u8 (c.toNat : Int)] W fun e w' => e = .returned (.int .u8 (bits .or .u8 (c.toNat : Int) 32)) ∧ w' = W := fun W => HLOW.out (c.toNat : Int) W
        have hu : ∀ W, Calls Tryz.prog 109 #[.int .u8 95] W fun e w' => e = .returned (.int .u8 127) ∧ w' = W := fun W => HLOW.out 95 W
        generalize bits .or .u8 (c.toNat : Int) 32 = L at l0 l1 l2 l3 hv
        have HV := Lib.hid hv
        have HU := Lib.hid hu
        clear hv hu
        by_cases hlet : 97 ≤ L ∧ L < 103
        · obtain ⟨hdc, c65, c95⟩ := l2 hlet
          have i95 : ((c.toNat : Int) == 95) = false := by simp; omega
          have i57 : (57 : Int) < c.toNat := by omega
          obtain ⟨e0, e1⟩ := hlet
          clear l2 l3 c95 hdig
          have hF : pu 10 acc (c :: bs.drop (k + 1)) = none := by
            simp only [pu]
            rw [if_neg (by omega)]
          rw [hF] at hdec
          clear hF ha hac hdc
          go_wp2_with (go_at_call 109; first | (refine (HV.out _).mono ?_; rintro e w' ⟨rfl, rfl⟩) | (refine (HU.out _).mono ?_; rintro e w' ⟨rfl, rfl⟩))
          all_goals go_ret2
          all_goals first | exact ⟨rfl, rfl⟩ | exact ⟨by rw [hdec]; rfl, rfl⟩
        · have hdc := l3 hlet
          clear l2 l3
          have hF : pu 10 acc (c :: bs.drop (k + 1)) = none := by
            simp only [pu]
            rw [if_neg (by omega)]
          rw [hF] at hdec
          clear hF ha hac hdc
          by_cases m0 : 97 ≤ L
          · have m1 : 103 ≤ L := by omega
            clear hlet
            go_wp2_with (go_at_call 109; first | (refine (HV.out _).mono ?_; rintro e w' ⟨rfl, rfl⟩) | (refine (HU.out _).mono ?_; rintro e w' ⟨rfl, rfl⟩))
            all_goals go_ret2
            all_goals first | exact ⟨rfl, rfl⟩ | exact ⟨by rw [hdec]; rfl, rfl⟩
          · clear hlet
            go_wp2_with (go_at_call 109; first | (refine (HV.out _).mono ?_; rintro e w' ⟨rfl, rfl⟩) | (refine (HU.out _).mono ?_; rintro e w' ⟨rfl, rfl⟩))
            all_goals go_ret2
            all_goals first | exact ⟨rfl, rfl⟩ | exact ⟨by rw [hdec]; rfl, rfl⟩
    · have hkk : k = t.size := by omega
      subst hkk
      have hF : pu 10 acc (bs.drop t.size) = some acc := by rw [List.drop_eq_nil_of_le (by omega)]; rfl
      rw [hF] at hdec
      subst ha
      clear hF a0 a1
      go_wp2
      go_ret2
      first | exact ⟨rfl, rfl⟩ | exact ⟨by rw [hdec]; rfl, rfl⟩
end Go.Proofs.YtpknhgejnfmijaaGreatDoor.X
