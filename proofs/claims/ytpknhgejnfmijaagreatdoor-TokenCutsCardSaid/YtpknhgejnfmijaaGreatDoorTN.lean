/- A text of the claim, with what no other text of it needs taken out. -/
import Derived.Test.YtpknhgejnfmijaaGreatDoorTK
namespace Go.Proofs.YtpknhgejnfmijaaGreatDoor.T
open Go
set_option linter.unusedVariables false
set_option linter.unusedSimpArgs false
theorem begin_zero (x : UInt8) (t : List UInt8) (h : M.isF x = false) : M.beginL (x :: t) = 0 := by
  have e : M.lenL ((x :: t).take 64) = 0 := by
    rw [show (x :: t).take 64 = x :: t.take 63 from rfl, M.lenL_cons, if_neg (by rw [h]; decide)]
  unfold M.beginL
  rw [if_pos (.inl e), e]
theorem pre_head (x c : UInt8) (p t : List UInt8) (h : (x :: p).isPrefixOf (c :: t) = true) : x = c := by
  obtain ⟨t', ht⟩ := List.isPrefixOf_iff_prefix.mp h
  exact (List.cons.inj ht).1
theorem remark_lt (l r : List UInt8) (h : remarkL l = some r) : r.length < l.length := by
  unfold remarkL at h
  split at h
  · have := behind_len [45, 45, 62] (by simp) _ _ h
    rw [List.length_drop] at this
    omega
  · split at h
    · have := behind_len [63, 62] (by simp) _ _ h
      rw [List.length_drop] at this
      omega
    · cases h
theorem token_lt (al : Nat) (l : List UInt8) (hl : l ≠ []) (h : (tokenL al l).2.2.1 = 0) : (tokenL al l).2.2.2.length < l.length := by
  unfold tokenL at h ⊢
  by_cases h0 : l.head? = some 60
  · rw [if_pos h0] at h ⊢
    cases ht : tagL l with
    | none => rw [ht] at h; simp at h
    | some x =>
      obtain ⟨k, n, rs, rest⟩ := x
      rw [ht] at h
      have h3 := (tagL_suf l k n rs rest ht).1.length_le
      have hp := List.length_pos_iff.mpr hl
      rw [List.length_drop] at h3
      simp only at h ⊢
      by_cases h1 : (readL al rs []).2.2 ≠ 0
      · rw [if_pos h1] at h; exact absurd h h1
      · rw [if_neg h1] at h ⊢
        by_cases h2 : 32 < rs.length
        · rw [if_pos h2] at h; simp at h
        · rw [if_neg h2]; show rest.length < _; omega
  · rw [if_neg h0] at h ⊢
    by_cases h1 : (E.D (l.takeWhile (· ≠ 60))).2.2 ≠ 0
    · rw [if_pos h1] at h; exact absurd h h1
    · rw [if_neg h1]
      cases l with
      | nil => exact absurd rfl hl
      | cons c l =>
        have hc : c ≠ 60 := by simpa using h0
        show (List.dropWhile (fun x : UInt8 => decide (x ≠ 60)) (c :: l)).length < _
        rw [List.dropWhile_cons_of_pos (by simpa using hc)]
        have := (List.dropWhile_suffix (l := l) (fun x : UInt8 => decide (x ≠ 60))).length_le
        simp only [List.length_cons]
        omega
end Go.Proofs.YtpknhgejnfmijaaGreatDoor.T
