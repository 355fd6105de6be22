/- A text of the claim, with what no other text of it needs taken out. -/
import Derived.Test.YtpknhgejnfmijaaDoorU1
import Derived.Laws.Strings
import Derived.Laws.Strings2
namespace Go.Proofs.YtpknhgejnfmijaaDoor.U
open Go
set_option linter.unusedVariables false
set_option linter.unusedSimpArgs false
abbrev bl (s : ByteArray) : List UInt8 := s.data.toList
theorem bl_length (s : ByteArray) : (bl s).length = s.size := by simp [bl]
theorem toList_bl (s : ByteArray) : s.toList = bl s := ByteArray.toList_eq s
theorem bl_extract (s : ByteArray) (a b : Nat) : bl (s.extract a b) = ((bl s).drop a).take (b - a) := by
  obtain ⟨⟨l⟩⟩ := s
  show bl ((ByteArray.mk l.toArray).extract a b) = _
  rw [ByteArray.extract_mk]
theorem bl_from (s : ByteArray) (a : Nat) : bl (s.extract a s.size) = (bl s).drop a := by
  rw [bl_extract, List.take_of_length_le (by rw [List.length_drop, bl_length]; omega)]
theorem bl_nil {s : ByteArray} : bl s = [] ↔ s.size = 0 := by
  rw [← bl_length, List.length_eq_zero_iff]
def runs : Nat → List UInt8 → Nat × Nat
  | 0, _ => (0, 0)
  | k + 1, l => if (nx l).2 = 0 then (0, 0) else ((runs k (l.drop (nx l).2)).1 + 1, (runs k (l.drop (nx l).2)).2 + (nx l).2)
def R (l : List UInt8) : Nat × Nat := runs l.length l
theorem nx_nil : nx [] = (0, 0) := rfl
theorem runs_more : ∀ (n : Nat) (l : List UInt8), l.length ≤ n → ∀ k, l.length ≤ k → runs k l = runs n l := by
  intro n
  induction n with
  | zero =>
    intro l hl k hk
    have : l = [] := List.length_eq_zero_iff.mp (by omega)
    subst this
    cases k <;> simp [runs, nx_nil]
  | succ n ih =>
    intro l hl k hk
    cases k with
    | zero =>
      have : l = [] := List.length_eq_zero_iff.mp (by omega)
      subst this
      simp [runs, nx_nil]
    | succ k =>
      simp only [runs]
      by_cases h : (nx l).2 = 0
      · rw [if_pos h, if_pos h]
      · rw [if_neg h, if_neg h]
        obtain ⟨_, _, _, _, _, h6, h7, _⟩ := nx_good l h
        have e := ih (l.drop (nx l).2) (by rw [List.length_drop]; omega) k (by rw [List.length_drop]; omega)
        rw [e]
theorem R_stop (l : List UInt8) (h : (nx l).2 = 0) : R l = (0, 0) := by
  unfold R
  cases l.length with
  | zero => rfl
  | succ n => simp [runs, h]
theorem R_go (l : List UInt8) (h : (nx l).2 ≠ 0) : R l = ((R (l.drop (nx l).2)).1 + 1, (R (l.drop (nx l).2)).2 + (nx l).2) := by
  obtain ⟨h0, _, _, _, _, h6, h7, _⟩ := nx_good l h
  obtain ⟨n, hn⟩ : ∃ n, l.length = n + 1 := ⟨l.length - 1, by omega⟩
  unfold R
  rw [hn]
  simp only [runs]
  rw [if_neg h, runs_more (l.drop (nx l).2).length (l.drop (nx l).2) (Nat.le_refl _) n (by rw [List.length_drop]; omega)]
theorem R_nil : R [] = (0, 0) := rfl
def nextR (l : List UInt8) : Int × Int × Int := if l = [] then (0, 0, 0) else if (nx l).2 = 0 then (0, 0, 10) else ((nx l).1, (nx l).2, 0)
def validR (l : List UInt8) : Int × Int := if (R l).2 < l.length then ((R l).2, 10) else (0, 0)
end Go.Proofs.YtpknhgejnfmijaaDoor.U
