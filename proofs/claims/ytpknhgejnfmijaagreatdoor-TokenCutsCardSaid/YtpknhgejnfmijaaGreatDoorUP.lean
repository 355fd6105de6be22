/- A text of the claim, with what no other text of it needs taken out. -/
import Derived.Test.YtpknhgejnfmijaaGreatDoorEB
import Derived.Test.YtpknhgejnfmijaaGreatDoorPU1
namespace Go.Proofs.YtpknhgejnfmijaaGreatDoor.U
open Go Go.RowKit Go.Proofs.YtpknhgejnfmijaaGreatDoorW.PrintWords Go.Proofs.YtpknhgejnfmijaaGreatDoor.PU
set_option linter.unusedVariables false
set_option linter.unusedSimpArgs false
theorem bt_bl (s : ByteArray) (i : Nat) : bt s (i : Int) = (((bl s).getD i 0).toNat : Int) := by
  unfold bt
  simp only [Int.toNat_natCast]
  split
  · rename_i h
    congr 2
    show s.data[i] = _
    rw [List.getD, Array.getElem?_toList, Array.getElem?_eq_getElem (by exact h)]
    rfl
  · rename_i h
    rw [List.getD, Array.getElem?_toList, Array.getElem?_eq_none (by simpa using h)]
    rfl
theorem wrap_id {n : Int} (h1 : -9223372036854775808 ≤ n) (h2 : n ≤ 9223372036854775807) : wrap64 n = n := by unfold wrap64; omega
theorem eachN_R : ∀ (k : Nat) (l : List UInt8) (m c n b : Int), l.length < k → n + l.length ≤ m →
    ∃ c', X.eachN k l m c n b = (c', n + (R l).1, b + (R l).2) := by
  intro k
  induction k with
  | zero => intro l m c n b h; omega
  | succ k ih =>
    intro l m c n b hk hm
    by_cases h : (nx l).2 = 0
    · rw [X.eachN_stop k l m c n b (.inr h), R_stop l h]
      exact ⟨c, by simp⟩
    · obtain ⟨h0, _, _, _, _, h6, h7, _⟩ := nx_good l h
      rw [X.eachN_go k l m c n b (by omega) h, R_go l h]
      obtain ⟨c', e⟩ := ih (l.drop (nx l).2) m (nx l).1 (n + 1) (b + (nx l).2) (by rw [List.length_drop]; omega) (by rw [List.length_drop]; omega)
      refine ⟨c', ?_⟩
      rw [e]
      refine Prod.ext rfl (Prod.ext ?_ ?_)
      · simp only; omega
      · simp only; omega
theorem each_all (s : ByteArray) (h : s.size ≤ 140737488351232) : ∃ c', X.utf_each.f s (s.size : Int) = some (c', ((R (bl s)).1 : Int), ((R (bl s)).2 : Int)) := by
  obtain ⟨c', e⟩ := eachN_R (s.size + 1) (bl s) s.size 0 0 0 (by rw [bl_length]; omega) (by rw [bl_length]; omega)
  refine ⟨c', ?_⟩
  unfold X.utf_each.f
  rw [if_pos h, e]
  simp
theorem utf_Valid_eq (s : ByteArray) (h : s.size ≤ 140737488351232) : utf_Valid.f s = some (validR (bl s)) := by
  obtain ⟨c', e⟩ := each_all s h
  unfold utf_Valid.f validR
  rw [e]
  simp only [Option.bind_some, bl_length]
  by_cases hh : (R (bl s)).2 < s.size
  · rw [if_pos (by omega), if_pos hh]
  · rw [if_neg (by omega), if_neg hh]
theorem utf_Next_eq (s : ByteArray) (h : s.size ≤ 140737488351232) : utf_Next.f s = some (nextR (bl s)) := by
  have key : ∀ r, X.eachN (s.size + 1) (bl s) 1 0 0 0 = r → utf_Next.f s = (some r).bind fun bt101 => (if bt101.2.2 = 0 then (if bl s = ([] : List UInt8) then (some (bt101.1, bt101.2.2, 0)) else (some (0, 0, 10))) else (some (bt101.1, bt101.2.2, 0))) := by
    intro r hr
    unfold utf_Next.f X.utf_each.f
    rw [if_pos h, toList_bl, ← hr]
  by_cases hn : bl s = []
  · rw [key (0, 0, 0) (by rw [hn]; exact X.eachN_stop _ [] 1 0 0 0 (.inr rfl)), hn]
    rfl
  · have hs : s.size ≠ 0 := fun e => hn (bl_nil.mpr e)
    by_cases h0 : (nx (bl s)).2 = 0
    · rw [key (0, 0, 0) (X.eachN_stop _ _ 1 0 0 0 (.inr h0))]
      simp [nextR, hn, h0]
    · obtain ⟨m, hm⟩ : ∃ m, s.size = m + 1 := ⟨s.size - 1, by omega⟩
      rw [key _ (X.eachN_go _ _ 1 0 0 0 (by omega) h0), hm, X.eachN_stop _ _ 1 _ _ _ (.inl (by omega))]
      simp [nextR, hn, h0]
theorem nextR_err (l : List UInt8) (h0 : l ≠ []) (h : (nx l).2 = 0) : nextR l = (0, 0, 10) := by
  unfold nextR
  rw [if_neg h0, if_pos h]
theorem nextR_ok (l : List UInt8) (h : (nx l).2 ≠ 0) : nextR l = (((nx l).1 : Int), ((nx l).2 : Int), 0) := by
  unfold nextR
  rw [if_neg (nx_good l h).1, if_neg h]
end Go.Proofs.YtpknhgejnfmijaaGreatDoor.U
