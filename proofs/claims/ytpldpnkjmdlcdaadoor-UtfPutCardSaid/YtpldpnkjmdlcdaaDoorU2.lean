/- Plain laws of UTF-8, going on: how far a text goes in characters; the reference's functions and the program's, as they are printed, tell just this. -/
import Derived.Test.YtpldpnkjmdlcdaaDoorU1
import Derived.Test.YtpldpnkjmdlcdaaDoorPU3
namespace Go.Proofs.YtpldpnkjmdlcdaaDoor.U
open Go Go.RowKit Go.Proofs.YtpldpnkjmdlcdaaDoorW.PrintWords Go.Proofs.YtpldpnkjmdlcdaaDoor.PU
set_option linter.unusedVariables false
set_option linter.unusedSimpArgs false

abbrev bl (s : ByteArray) : List UInt8 := s.data.toList
theorem bl_length (s : ByteArray) : (bl s).length = s.size := by simp [bl]
theorem toList_bl (s : ByteArray) : s.toList = bl s := ByteArray.toList_eq s
theorem bl_extract (s : ByteArray) (a b : Nat) : bl (s.extract a b) = ((bl s).drop a).take (b - a) := by
  obtain ⟨⟨l⟩⟩ := s
  show bl ((ByteArray.mk l.toArray).extract a b) = _
  rw [ByteArray.extract_mk]
theorem bl_from (s : ByteArray) (a : Nat) : bl (s.extract a s.size) = (bl s).drop a := by
  rw [bl_extract, List.take_of_length_le (by rw [List.length_drop, bl_length]; omega)]
theorem bl_append (a b : ByteArray) : bl (a ++ b) = bl a ++ bl b := by simp [bl]
theorem bl_inj {a b : ByteArray} (h : bl a = bl b) : a = b := by
  obtain ⟨⟨l⟩⟩ := a
  obtain ⟨⟨m⟩⟩ := b
  simpa [bl] using h
theorem bt_bl (s : ByteArray) (i : Nat) : bt s (i : Int) = (((bl s).getD i 0).toNat : Int) := by
  unfold bt
  simp only [Int.toNat_natCast]
  split
  · rename_i h
    congr 2
    show s.data[i] = _
    rw [List.getD, Array.getElem?_toList, Array.getElem?_eq_getElem (by exact h)]
    rfl
  · rename_i h
    rw [List.getD, Array.getElem?_toList, Array.getElem?_eq_none (by simpa using h)]
    rfl
theorem bl_nil {s : ByteArray} : bl s = [] ↔ s.size = 0 := by
  rw [← bl_length, List.length_eq_zero_iff]
theorem wrap_id {n : Int} (h1 : -9223372036854775808 ≤ n) (h2 : n ≤ 9223372036854775807) : wrap64 n = n := by unfold wrap64; omega

/-- How many characters stand at a text's beginning, and how many bytes they have. -/
def runs : Nat → List UInt8 → Nat × Nat
  | 0, _ => (0, 0)
  | k + 1, l => if (nx l).2 = 0 then (0, 0) else ((runs k (l.drop (nx l).2)).1 + 1, (runs k (l.drop (nx l).2)).2 + (nx l).2)
def R (l : List UInt8) : Nat × Nat := runs l.length l

theorem nx_nil : nx [] = (0, 0) := rfl
theorem runs_more : ∀ (n : Nat) (l : List UInt8), l.length ≤ n → ∀ k, l.length ≤ k → runs k l = runs n l := by
  intro n
  induction n with
  | zero =>
    intro l hl k hk
    have : l = [] := List.length_eq_zero_iff.mp (by omega)
    subst this
    cases k <;> simp [runs, nx_nil]
  | succ n ih =>
    intro l hl k hk
    cases k with
    | zero =>
      have : l = [] := List.length_eq_zero_iff.mp (by omega)
      subst this
      simp [runs, nx_nil]
    | succ k =>
      simp only [runs]
      by_cases h : (nx l).2 = 0
      · rw [if_pos h, if_pos h]
      · rw [if_neg h, if_neg h]
        obtain ⟨_, _, _, _, _, h6, h7, _⟩ := nx_good l h
        have e := ih (l.drop (nx l).2) (by rw [List.length_drop]; omega) k (by rw [List.length_drop]; omega)
        rw [e]
theorem R_stop (l : List UInt8) (h : (nx l).2 = 0) : R l = (0, 0) := by
  unfold R
  cases l.length with
  | zero => rfl
  | succ n => simp [runs, h]
theorem R_go (l : List UInt8) (h : (nx l).2 ≠ 0) : R l = ((R (l.drop (nx l).2)).1 + 1, (R (l.drop (nx l).2)).2 + (nx l).2) := by
  obtain ⟨h0, _, _, _, _, h6, h7, _⟩ := nx_good l h
  obtain ⟨n, hn⟩ : ∃ n, l.length = n + 1 := ⟨l.length - 1, by omega⟩
  unfold R
  rw [hn]
  simp only [runs]
  rw [if_neg h, runs_more (l.drop (nx l).2).length (l.drop (nx l).2) (Nat.le_refl _) n (by rw [List.length_drop]; omega)]
theorem R_nil : R [] = (0, 0) := rfl
theorem R_le : ∀ (n : Nat) (l : List UInt8), l.length ≤ n → (R l).2 ≤ l.length ∧ (R l).1 ≤ (R l).2 := by
  intro n
  induction n with
  | zero =>
    intro l hl
    have : l = [] := List.length_eq_zero_iff.mp (by omega)
    subst this
    simp [R_nil]
  | succ n ih =>
    intro l hl
    by_cases h : (nx l).2 = 0
    · rw [R_stop l h]
      simp
    · rw [R_go l h]
      obtain ⟨h0, _, _, _, _, h6, h7, _⟩ := nx_good l h
      have := ih (l.drop (nx l).2) (by rw [List.length_drop]; omega)
      rw [List.length_drop] at this
      simp only
      omega

/-- What 'next' tells. -/
def nextR (l : List UInt8) : Int × Int × Int := if l = [] then (0, 0, 0) else if (nx l).2 = 0 then (0, 0, 10) else ((nx l).1, (nx l).2, 0)
/-- What 'valid' tells. -/
def validR (l : List UInt8) : Int × Int := if (R l).2 < l.length then ((R l).2, 10) else (0, 0)

/-! ### the program's -/
theorem eachN_R : ∀ (k : Nat) (l : List UInt8) (m c n b : Int), l.length < k → n + l.length ≤ m →
    ∃ c', X.eachN k l m c n b = (c', n + (R l).1, b + (R l).2) := by
  intro k
  induction k with
  | zero => intro l m c n b h; omega
  | succ k ih =>
    intro l m c n b hk hm
    by_cases h : (nx l).2 = 0
    · rw [X.eachN_stop k l m c n b (.inr h), R_stop l h]
      exact ⟨c, by simp⟩
    · obtain ⟨h0, _, _, _, _, h6, h7, _⟩ := nx_good l h
      rw [X.eachN_go k l m c n b (by omega) h, R_go l h]
      obtain ⟨c', e⟩ := ih (l.drop (nx l).2) m (nx l).1 (n + 1) (b + (nx l).2) (by rw [List.length_drop]; omega) (by rw [List.length_drop]; omega)
      refine ⟨c', ?_⟩
      rw [e]
      refine Prod.ext rfl (Prod.ext ?_ ?_)
      · simp only; omega
      · simp only; omega

theorem each_all (s : ByteArray) (h : s.size ≤ 140737488351232) : ∃ c', X.utf_each.f s (s.size : Int) = some (c', ((R (bl s)).1 : Int), ((R (bl s)).2 : Int)) := by
  obtain ⟨c', e⟩ := eachN_R (s.size + 1) (bl s) s.size 0 0 0 (by rw [bl_length]; omega) (by rw [bl_length]; omega)
  refine ⟨c', ?_⟩
  unfold X.utf_each.f
  rw [if_pos h, e]
  simp

theorem utf_Valid_eq (s : ByteArray) (h : s.size ≤ 140737488351232) : utf_Valid.f s = some (validR (bl s)) := by
  obtain ⟨c', e⟩ := each_all s h
  unfold utf_Valid.f validR
  rw [e]
  simp only [Option.bind_some, bl_length]
  by_cases hh : (R (bl s)).2 < s.size
  · rw [if_pos (by omega), if_pos hh]
  · rw [if_neg (by omega), if_neg hh]

theorem utf_Count_eq (s : ByteArray) (h : s.size ≤ 140737488351232) : utf_Count.f s = some ((R (bl s)).1 : Int) := by
  obtain ⟨c', e⟩ := each_all s h
  unfold utf_Count.f
  rw [e]
  rfl

theorem utf_Next_eq (s : ByteArray) (h : s.size ≤ 140737488351232) : utf_Next.f s = some (nextR (bl s)) := by
  have key : ∀ r, X.eachN (s.size + 1) (bl s) 1 0 0 0 = r → utf_Next.f s = (some r).bind fun bt101 => (if bt101.2.2 = 0 then (if bl s = ([] : List UInt8) then (some (bt101.1, bt101.2.2, 0)) else (some (0, 0, 10))) else (some (bt101.1, bt101.2.2, 0))) := by
    intro r hr
    unfold utf_Next.f X.utf_each.f
    rw [if_pos h, toList_bl, ← hr]
  by_cases hn : bl s = []
  · rw [key (0, 0, 0) (by rw [hn]; exact X.eachN_stop _ [] 1 0 0 0 (.inr rfl)), hn]
    rfl
  · have hs : s.size ≠ 0 := fun e => hn (bl_nil.mpr e)
    by_cases h0 : (nx (bl s)).2 = 0
    · rw [key (0, 0, 0) (X.eachN_stop _ _ 1 0 0 0 (.inr h0))]
      simp [nextR, hn, h0]
    · obtain ⟨m, hm⟩ : ∃ m, s.size = m + 1 := ⟨s.size - 1, by omega⟩
      rw [key _ (X.eachN_go _ _ 1 0 0 0 (by omega) h0), hm, X.eachN_stop _ _ 1 _ _ _ (.inl (by omega))]
      simp [nextR, hn, h0]

theorem utf_Put_eq (c : Int) : X.utf_Put.f c = some (if X.isI c = true then ⟨(enc c.toNat).toArray⟩ else ⟨#[]⟩) := by
  unfold X.utf_Put.f
  by_cases h : X.isI c = true
  · rw [if_pos h, if_pos h]
    have h0 : 0 ≤ c := by
      simp only [X.isI, Bool.or_eq_true, decide_eq_true_eq] at h
      omega
    obtain ⟨n, rfl⟩ : ∃ n : Nat, c = n := ⟨c.toNat, by omega⟩
    rw [X.isI_nat] at h
    rw [encode_of n h]
    rfl
  · rw [if_neg h, if_neg h]
end Go.Proofs.YtpldpnkjmdlcdaaDoor.U
