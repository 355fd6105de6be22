/- A text of the claim, with what no other text of it needs taken out. -/
import Derived.Test.YtpknhgejnfmijaaDoorUG
import Derived.Test.YtpknhgejnfmijaaDoorWMore
import Derived.WalkKit
import Derived.KernelRfl
import Derived.LoopTactic
import Derived.OwnWalk
import Derived.Deep.QuietTactic
import Derived.BigQuiet
import Derived.Outline
namespace Go.Proofs.YtpknhgejnfmijaaDoor.X
open Go.RowKit Go.Proofs.YtpknhgejnfmijaaDoorW.PrintWords
set_option linter.unusedVariables false
set_option linter.unusedSimpArgs false
def isI (c : Int) : Bool := decide (9 ≤ c ∧ c ≤ 10) || decide (c = 13) || decide (32 ≤ c ∧ c ≤ 55295) || decide (57344 ≤ c ∧ c ≤ 65533) || decide (65536 ≤ c ∧ c ≤ 1114111)
def noneTill : Nat → Int → Prop
  | 0, _ => True
  | 1, c => ¬ (9 ≤ c ∧ c ≤ 10)
  | 2, c => ¬ (9 ≤ c ∧ c ≤ 10) ∧ ¬ c = 13
  | 3, c => ¬ (9 ≤ c ∧ c ≤ 10) ∧ ¬ c = 13 ∧ ¬ (32 ≤ c ∧ c ≤ 55295)
  | 4, c => ¬ (9 ≤ c ∧ c ≤ 10) ∧ ¬ c = 13 ∧ ¬ (32 ≤ c ∧ c ≤ 55295) ∧ ¬ (57344 ≤ c ∧ c ≤ 65533)
  | _, c => isI c = false
def utf_is.f (a0 : Int) : Option Bool := some (isI a0)
theorem idx0 (w : World) : (Instr.index 99 (.agg #[.int .i32 9, .int .i32 10, .int .i32 13, .int .i32 13, .int .i32 32, .int .i32 55295, .int .i32 57344, .int .i32 65533, .int .i32 65536, .int .i32 1114111]) (.int .i64 0)).run Tryd.prog w = .ok (.agg #[.int .i32 9, .int .i32 10]) w := by kernel_rfl
theorem idx1 (w : World) : (Instr.index 99 (.agg #[.int .i32 9, .int .i32 10, .int .i32 13, .int .i32 13, .int .i32 32, .int .i32 55295, .int .i32 57344, .int .i32 65533, .int .i32 65536, .int .i32 1114111]) (.int .i64 1)).run Tryd.prog w = .ok (.agg #[.int .i32 13, .int .i32 13]) w := by kernel_rfl
theorem idx2 (w : World) : (Instr.index 99 (.agg #[.int .i32 9, .int .i32 10, .int .i32 13, .int .i32 13, .int .i32 32, .int .i32 55295, .int .i32 57344, .int .i32 65533, .int .i32 65536, .int .i32 1114111]) (.int .i64 2)).run Tryd.prog w = .ok (.agg #[.int .i32 32, .int .i32 55295]) w := by kernel_rfl
theorem idx3 (w : World) : (Instr.index 99 (.agg #[.int .i32 9, .int .i32 10, .int .i32 13, .int .i32 13, .int .i32 32, .int .i32 55295, .int .i32 57344, .int .i32 65533, .int .i32 65536, .int .i32 1114111]) (.int .i64 3)).run Tryd.prog w = .ok (.agg #[.int .i32 57344, .int .i32 65533]) w := by kernel_rfl
theorem idx4 (w : World) : (Instr.index 99 (.agg #[.int .i32 9, .int .i32 10, .int .i32 13, .int .i32 13, .int .i32 32, .int .i32 55295, .int .i32 57344, .int .i32 65533, .int .i32 65536, .int .i32 1114111]) (.int .i64 4)).run Tryd.prog w = .ok (.agg #[.int .i32 65536, .int .i32 1114111]) w := by kernel_rfl
set_option maxHeartbeats 1000000 in
set_option maxRecDepth 100000 in
theorem utf_is.calls (a0 : Int) (r : Bool) (w : World) (hG : Glob w) (h : utf_is.f a0 = some r) :
    Calls Tryd.prog 42 #[.int .i32 a0] w fun e w' => e = .returned (.bool r) ∧ Below w.heap.size w w' := by
  obtain rfl := Option.some.inj h
  clear h
  have b0 := hG.b0
  have b1 := hG.b1
  have b2 := hG.b2
  have b3 := hG.b3
  have b4 := hG.b4
  have b5 := hG.b5
  have b6 := hG.b6
  have b7 := hG.b7
  have b8 := hG.b8
  have b9 := hG.b9
  go_enter Tryd.func42, Tryd.ntmps42
  go_wp2
  have hno : ∀ k : Nat, k ≤ 5 → noneTill k a0 ∨ True := fun _ _ => .inr trivial
  clear hno
  go_loopw [6] (fun i wr => ∃ k : Nat, k ≤ 5 ∧ i = .int .i64 k ∧ Below w.heap.size w wr ∧ noneTill k a0) (fun i _ => 5 - (intOf i).toNat)
  case atStart => exact ⟨0, by omega, rfl, Below.refl _ _, trivial⟩
  case round =>
    obtain ⟨k, hk, rfl, hb, hn⟩ := hrel
    have hz := hb.size
    match k, hk, hn with
    | 0, _, hn =>
      have hi := fun W => idx0 W
      simp only [Int.natCast_zero] at *
      by_cases h1 : 9 ≤ a0
      · have g1 : decide (9 ≤ a0) = true := decide_eq_true h1
        by_cases h2 : a0 ≤ 10
        · have g2 : decide (a0 ≤ 10) = true := decide_eq_true h2
          have HR : Hid (isI a0 = true) := by show isI a0 = true; simp [isI]; omega
          go_wp2
          go_ret
          rw [HR.out]
          exact ⟨rfl, hb.alloc hz _⟩
        · have g2 : decide (a0 ≤ 10) = false := decide_eq_false h2
          have HR : Hid (noneTill 1 a0) := by show noneTill 1 a0; simp only [noneTill, isI] at hn ⊢; first | omega | (simp; omega)
          clear hn
          go_wp2
          refine ⟨⟨1, by omega, rfl, hb.alloc hz _, HR.out⟩, by simp [intOf]⟩
      · have g1 : decide (9 ≤ a0) = false := decide_eq_false h1
        have HR : Hid (noneTill 1 a0) := by show noneTill 1 a0; simp only [noneTill, isI] at hn ⊢; first | omega | (simp; omega)
        clear hn
        go_wp2
        refine ⟨⟨1, by omega, rfl, hb.alloc hz _, HR.out⟩, by simp [intOf]⟩
    | 1, _, hn =>
      have hi := fun W => idx1 W
      simp only [Int.natCast_one] at *
      by_cases h1 : 13 ≤ a0
      · have g1 : decide (13 ≤ a0) = true := decide_eq_true h1
        by_cases h2 : a0 ≤ 13
        · have g2 : decide (a0 ≤ 13) = true := decide_eq_true h2
          have HR : Hid (isI a0 = true) := by show isI a0 = true; simp [isI]; omega
          go_wp2
          go_ret
          rw [HR.out]
          exact ⟨rfl, hb.alloc hz _⟩
        · have g2 : decide (a0 ≤ 13) = false := decide_eq_false h2
          have HR : Hid (noneTill 2 a0) := by show noneTill 2 a0; simp only [noneTill, isI] at hn ⊢; first | omega | (simp; omega)
          clear hn
          go_wp2
          refine ⟨⟨2, by omega, rfl, hb.alloc hz _, HR.out⟩, by simp [intOf]⟩
      · have g1 : decide (13 ≤ a0) = false := decide_eq_false h1
        have HR : Hid (noneTill 2 a0) := by show noneTill 2 a0; simp only [noneTill, isI] at hn ⊢; first | omega | (simp; omega)
        clear hn
        go_wp2
        refine ⟨⟨2, by omega, rfl, hb.alloc hz _, HR.out⟩, by simp [intOf]⟩
    | 2, _, hn =>
      have hi := fun W => idx2 W
      simp only [Int.cast_ofNat_Int] at *
      by_cases h1 : 32 ≤ a0
      · have g1 : decide (32 ≤ a0) = true := decide_eq_true h1
        by_cases h2 : a0 ≤ 55295
        · have g2 : decide (a0 ≤ 55295) = true := decide_eq_true h2
          have HR : Hid (isI a0 = true) := by show isI a0 = true; simp [isI]; omega
          go_wp2
          go_ret
          rw [HR.out]
          exact ⟨rfl, hb.alloc hz _⟩
        · have g2 : decide (a0 ≤ 55295) = false := decide_eq_false h2
          have HR : Hid (noneTill 3 a0) := by show noneTill 3 a0; simp only [noneTill, isI] at hn ⊢; first | omega | (simp; omega)
          clear hn
          go_wp2
          refine ⟨⟨3, by omega, rfl, hb.alloc hz _, HR.out⟩, by simp [intOf]⟩
      · have g1 : decide (32 ≤ a0) = false := decide_eq_false h1
        have HR : Hid (noneTill 3 a0) := by show noneTill 3 a0; simp only [noneTill, isI] at hn ⊢; first | omega | (simp; omega)
        clear hn
        go_wp2
        refine ⟨⟨3, by omega, rfl, hb.alloc hz _, HR.out⟩, by simp [intOf]⟩
    | 3, _, hn =>
      have hi := fun W => idx3 W
      simp only [Int.cast_ofNat_Int] at *
      by_cases h1 : 57344 ≤ a0
      · have g1 : decide (57344 ≤ a0) = true := decide_eq_true h1
        by_cases h2 : a0 ≤ 65533
        · have g2 : decide (a0 ≤ 65533) = true := decide_eq_true h2
          have HR : Hid (isI a0 = true) := by show isI a0 = true; simp [isI]; omega
          go_wp2
          go_ret
          rw [HR.out]
          exact ⟨rfl, hb.alloc hz _⟩
        · have g2 : decide (a0 ≤ 65533) = false := decide_eq_false h2
          have HR : Hid (noneTill 4 a0) := by show noneTill 4 a0; simp only [noneTill, isI] at hn ⊢; first | omega | (simp; omega)
          clear hn
          go_wp2
          refine ⟨⟨4, by omega, rfl, hb.alloc hz _, HR.out⟩, by simp [intOf]⟩
      · have g1 : decide (57344 ≤ a0) = false := decide_eq_false h1
        have HR : Hid (noneTill 4 a0) := by show noneTill 4 a0; simp only [noneTill, isI] at hn ⊢; first | omega | (simp; omega)
        clear hn
        go_wp2
        refine ⟨⟨4, by omega, rfl, hb.alloc hz _, HR.out⟩, by simp [intOf]⟩
    | 4, _, hn =>
      have hi := fun W => idx4 W
      simp only [Int.cast_ofNat_Int] at *
      by_cases h1 : 65536 ≤ a0
      · have g1 : decide (65536 ≤ a0) = true := decide_eq_true h1
        by_cases h2 : a0 ≤ 1114111
        · have g2 : decide (a0 ≤ 1114111) = true := decide_eq_true h2
          have HR : Hid (isI a0 = true) := by show isI a0 = true; simp [isI]; omega
          go_wp2
          go_ret
          rw [HR.out]
          exact ⟨rfl, hb.alloc hz _⟩
        · have g2 : decide (a0 ≤ 1114111) = false := decide_eq_false h2
          have HR : Hid (noneTill 5 a0) := by show noneTill 5 a0; simp only [noneTill, isI] at hn ⊢; first | omega | (simp; omega)
          clear hn
          go_wp2
          refine ⟨⟨5, by omega, rfl, hb.alloc hz _, HR.out⟩, by simp [intOf]⟩
      · have g1 : decide (65536 ≤ a0) = false := decide_eq_false h1
        have HR : Hid (noneTill 5 a0) := by show noneTill 5 a0; simp only [noneTill, isI] at hn ⊢; first | omega | (simp; omega)
        clear hn
        go_wp2
        refine ⟨⟨5, by omega, rfl, hb.alloc hz _, HR.out⟩, by simp [intOf]⟩
    | 5, _, hn =>
      have HR : Hid (isI a0 = false) := hn
      clear hn
      simp only [Int.cast_ofNat_Int] at *
      go_wp2
      go_ret
      rw [HR.out]
      exact ⟨rfl, hb⟩
end Go.Proofs.YtpknhgejnfmijaaDoor.X
