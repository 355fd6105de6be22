/- A text of the claim, with what no other text of it needs taken out. -/
import Derived.Test.YtpknhgejnfmijaaGreatDoorEP
import Derived.Test.YtpknhgejnfmijaaGreatDoorEJ
import Derived.Lib.IfaceNeq
namespace Go.Proofs.YtpknhgejnfmijaaGreatDoor.X
open Go.RowKit Go.Proofs.YtpknhgejnfmijaaGreatDoorW.PrintWords
set_option linter.unusedVariables false
set_option linter.unusedSimpArgs false
theorem pu_lt (b : Nat) (hb : b ≤ 16) : ∀ (l : List UInt8) (k acc n : Nat), acc < 16 ^ k → pu b acc l = some n → n < 16 ^ (k + l.length) := by
  intro l
  induction l with
  | nil =>
    intro k acc n h e
    cases e
    exact h
  | cons c l ih =>
    intro k acc n h e
    simp only [pu] at e
    split at e
    · rename_i hd
      have hm : acc * b ≤ acc * 16 := Nat.mul_le_mul_left acc hb
      have := ih (k + 1) (acc * b + E.dig c) n (by have := pow_step k acc (E.dig c) h (by omega); omega) e
      rw [List.length_cons]
      have e2 : k + (l.length + 1) = k + 1 + l.length := by omega
      rw [e2]
      exact this
    · cases e
theorem pu_small (b : Nat) (hb : b ≤ 16) (l : List UInt8) (h7 : l.length ≤ 7) (n : Nat) (e : pu b 0 l = some n) : n < 268435456 :=
  pow_small (0 + l.length) n (pu_lt b hb l 0 0 n (by decide) e) (by omega)
set_option maxHeartbeats 32000000 in
set_option maxRecDepth 100000 in
theorem parseIntI16 (s : ByteArray) (hne : s.size ≠ 0) (h7 : s.size ≤ 7) (h43 : s.data.toList[0]? ≠ some 43) (h45 : s.data.toList[0]? ≠ some 45) (w : World) :
    Calls Tryz.prog 101 #[.string s, .int .i64 16, .int .i64 64] w fun e w' => e = .returned (match pu 16 0 s.data.toList with | some n => .tuple #[.int .i64 n, .nilIface] | none => .tuple #[.int .i64 0, .iface 151 (.int .i64 2)]) ∧ Below w.heap.size w w' := by
  have hemp : s.toList.isEmpty = false := by
    rw [← decide_eq_emptyBytes]
    exact decide_eq_false (fun h => hne (by rw [h]; rfl))
  have hpos : 0 < s.size := by omega
  have hbw := Lib.bytesWorld_below w 5 s
  have HP := Lib.hid (parseUint16 s hne h7 w)
  obtain ⟨c0, hc0⟩ : ∃ c0, s[0]'hpos = c0 := ⟨_, rfl⟩
  have hl : s.data.toList[0]? = some c0 := by rw [← hc0]; exact Lib.data_getElem? s 0 hpos
  rw [hl] at h43 h45
  have n43 : c0.toNat ≠ 43 := fun e => h43 (by congr 1; exact UInt8.toNat_inj.mp e)
  have n45 : c0.toNat ≠ 45 := fun e => h45 (by congr 1; exact UInt8.toNat_inj.mp e)
  have i43 : ((c0.toNat : Int) == 43) = false := by simp; omega
  have i45 : ((c0.toNat : Int) == 45) = false := by simp; omega
  clear n43 n45 h43 h45 hl
  have hq2 : ∀ W, (binOp .neq 117 (.iface 151 (.int .i64 2)) (.iface 151 (.int .i64 1))).run Tryz.prog W = .ok (.bool true) W := fun W => Lib.run_neq_iface_int W 2 1 Tryz.underlying117 (by kernel_rfl) Tryz.underlying151
  have hsm : ∀ n, pu 16 0 s.data.toList = some n → n < 268435456 := pu_small 16 (by decide) s.data.toList (by rw [← Lib.size_eq]; exact h7)
  cases hp : pu 16 0 s.data.toList with
  | none =>
    rw [hp] at HP
    clear hp hsm
    go_enter Tryz.func101, Tryz.ntmps101
    go_wp2_with (go_at_call 104; refine HP.out.mono ?_; rintro e w1 ⟨rfl, rfl⟩; dsimp only [puTuple])
    go_ret2
    exact ⟨rfl, hbw⟩
  | some n =>
    rw [hp] at HP
    have hn := hsm n hp
    clear hp hsm
    have e2 : puTuple (some n) = .tuple #[.int .u64 (n : Int), .nilIface] := rfl
    rw [e2] at HP
    obtain ⟨a, ha⟩ : ∃ a : Int, a = (n : Int) := ⟨_, rfl⟩
    rw [← ha] at HP
    have a0 : 0 ≤ a := by omega
    have a1 : a < 268435456 := by omega
    have HA := Lib.hid ha
    clear ha hn e2
    go_enter Tryz.func101, Tryz.ntmps101
    go_wp2_with (go_at_call 104; refine HP.out.mono ?_; rintro e w1 ⟨rfl, rfl⟩)
    go_wp2
    go_ret2
    refine ⟨?_, hbw⟩
    rw [← HA.out]
    rfl
set_option maxHeartbeats 4000000 in
set_option maxRecDepth 100000 in
theorem parseInt16 (s : ByteArray) (hne : s.size ≠ 0) (h7 : s.size ≤ 7) (h43 : s.data.toList[0]? ≠ some 43) (h45 : s.data.toList[0]? ≠ some 45) (w : World) (hG : Glob w) :
    Calls Tryz.prog 95 #[.string s, .int .i64 16, .int .i64 64] w fun e w' => (match pu 16 0 s.data.toList with | some n => e = .returned (.tuple #[.int .i64 n, .nilIface]) | none => ∃ N, e = .returned (.tuple #[.int .i64 0, .iface 155 (.pointer (some ⟨N, 0, none⟩))])) ∧ Below w.heap.size w w' := by
  have HI := Lib.hid (parseIntI16 s hne h7 h43 h45 w)
  cases hp : pu 16 0 s.data.toList with
  | some n =>
    rw [hp] at HI
    go_enter Tryz.func95, Tryz.ntmps95
    go_wp2_with (go_at_call 101; refine HI.out.mono ?_; rintro e w1 ⟨rfl, hB⟩)
    go_ret2
    exact ⟨rfl, hB⟩
  | none =>
    rw [hp] at HI
    obtain ⟨a, ha⟩ := hG.syn
    have hlt : 4 < w.heap.size := Lib.lt_of_cell ha
    have HT := Lib.hid (fun W hv => Tryz.strconv_toError_syntax ⟨#[80, 97, 114, 115, 101, 73, 110, 116]⟩ s 16 64 (.iface 162 (.pointer (some a))) W (by omega) hv (.inr ⟨_, _, rfl⟩))
    go_enter Tryz.func95, Tryz.ntmps95
    go_wp2_with (first
      | (go_at_call 101; refine HI.out.mono ?_; rintro e w1 ⟨rfl, hB⟩; have hv1 : w1.cell? ⟨4, 0, none⟩ = some (.iface 162 (.pointer (some a))) := (hB.cell (show (⟨4, 0, none⟩ : Addr).block < w.heap.size from hlt)).trans ha)
      | (go_at_call 102; refine (HT.out _ hv1).mono ?_; rintro e w2 ⟨N, rfl, h1, h2, h3⟩))
    go_ret2
    exact ⟨⟨N, rfl⟩, hB.trans (h3.mono hB.size)⟩
set_option maxHeartbeats 32000000 in
set_option maxRecDepth 100000 in
theorem parseIntI10 (s : ByteArray) (hne : s.size ≠ 0) (h7 : s.size ≤ 7) (h43 : s.data.toList[0]? ≠ some 43) (h45 : s.data.toList[0]? ≠ some 45) (w : World) :
    Calls Tryz.prog 101 #[.string s, .int .i64 10, .int .i64 64] w fun e w' => e = .returned (match pu 10 0 s.data.toList with | some n => .tuple #[.int .i64 n, .nilIface] | none => .tuple #[.int .i64 0, .iface 151 (.int .i64 2)]) ∧ Below w.heap.size w w' := by
  have hemp : s.toList.isEmpty = false := by
    rw [← decide_eq_emptyBytes]
    exact decide_eq_false (fun h => hne (by rw [h]; rfl))
  have hpos : 0 < s.size := by omega
  have hbw := Lib.bytesWorld_below w 5 s
  have HP := Lib.hid (parseUint10 s hne h7 w)
  obtain ⟨c0, hc0⟩ : ∃ c0, s[0]'hpos = c0 := ⟨_, rfl⟩
  have hl : s.data.toList[0]? = some c0 := by rw [← hc0]; exact Lib.data_getElem? s 0 hpos
  rw [hl] at h43 h45
  have n43 : c0.toNat ≠ 43 := fun e => h43 (by congr 1; exact UInt8.toNat_inj.mp e)
  have n45 : c0.toNat ≠ 45 := fun e => h45 (by congr 1; exact UInt8.toNat_inj.mp e)
  have i43 : ((c0.toNat : Int) == 43) = false := by simp; omega
  have i45 : ((c0.toNat : Int) == 45) = false := by simp; omega
  clear n43 n45 h43 h45 hl
  have hq2 : ∀ W, (binOp .neq 117 (.iface 151 (.int .i64 2)) (.iface 151 (.int .i64 1))).run Tryz.prog W = .ok (.bool true) W := fun W => Lib.run_neq_iface_int W 2 1 Tryz.underlying117 (by kernel_rfl) Tryz.underlying151
  have hsm : ∀ n, pu 10 0 s.data.toList = some n → n < 268435456 := pu_small 10 (by decide) s.data.toList (by rw [← Lib.size_eq]; exact h7)
  cases hp : pu 10 0 s.data.toList with
  | none =>
    rw [hp] at HP
    clear hp hsm
    go_enter Tryz.func101, Tryz.ntmps101
    go_wp2_with (go_at_call 104; refine HP.out.mono ?_; rintro e w1 ⟨rfl, rfl⟩; dsimp only [puTuple])
    go_ret2
    exact ⟨rfl, hbw⟩
  | some n =>
    rw [hp] at HP
    have hn := hsm n hp
    clear hp hsm
    have e2 : puTuple (some n) = .tuple #[.int .u64 (n : Int), .nilIface] := rfl
    rw [e2] at HP
    obtain ⟨a, ha⟩ : ∃ a : Int, a = (n : Int) := ⟨_, rfl⟩
    rw [← ha] at HP
    have a0 : 0 ≤ a := by omega
    have a1 : a < 268435456 := by omega
    have HA := Lib.hid ha
    clear ha hn e2
    go_enter Tryz.func101, Tryz.ntmps101
    go_wp2_with (go_at_call 104; refine HP.out.mono ?_; rintro e w1 ⟨rfl, rfl⟩)
    go_wp2
    go_ret2
    refine ⟨?_, hbw⟩
    rw [← HA.out]
    rfl
set_option maxHeartbeats 4000000 in
set_option maxRecDepth 100000 in
theorem parseInt10 (s : ByteArray) (hne : s.size ≠ 0) (h7 : s.size ≤ 7) (h43 : s.data.toList[0]? ≠ some 43) (h45 : s.data.toList[0]? ≠ some 45) (w : World) (hG : Glob w) :
    Calls Tryz.prog 95 #[.string s, .int .i64 10, .int .i64 64] w fun e w' => (match pu 10 0 s.data.toList with | some n => e = .returned (.tuple #[.int .i64 n, .nilIface]) | none => ∃ N, e = .returned (.tuple #[.int .i64 0, .iface 155 (.pointer (some ⟨N, 0, none⟩))])) ∧ Below w.heap.size w w' := by
  have HI := Lib.hid (parseIntI10 s hne h7 h43 h45 w)
  cases hp : pu 10 0 s.data.toList with
  | some n =>
    rw [hp] at HI
    go_enter Tryz.func95, Tryz.ntmps95
    go_wp2_with (go_at_call 101; refine HI.out.mono ?_; rintro e w1 ⟨rfl, hB⟩)
    go_ret2
    exact ⟨rfl, hB⟩
  | none =>
    rw [hp] at HI
    obtain ⟨a, ha⟩ := hG.syn
    have hlt : 4 < w.heap.size := Lib.lt_of_cell ha
    have HT := Lib.hid (fun W hv => Tryz.strconv_toError_syntax ⟨#[80, 97, 114, 115, 101, 73, 110, 116]⟩ s 10 64 (.iface 162 (.pointer (some a))) W (by omega) hv (.inr ⟨_, _, rfl⟩))
    go_enter Tryz.func95, Tryz.ntmps95
    go_wp2_with (first
      | (go_at_call 101; refine HI.out.mono ?_; rintro e w1 ⟨rfl, hB⟩; have hv1 : w1.cell? ⟨4, 0, none⟩ = some (.iface 162 (.pointer (some a))) := (hB.cell (show (⟨4, 0, none⟩ : Addr).block < w.heap.size from hlt)).trans ha)
      | (go_at_call 102; refine (HT.out _ hv1).mono ?_; rintro e w2 ⟨N, rfl, h1, h2, h3⟩))
    go_ret2
    exact ⟨⟨N, rfl⟩, hB.trans (h3.mono hB.size)⟩
end Go.Proofs.YtpknhgejnfmijaaGreatDoor.X
