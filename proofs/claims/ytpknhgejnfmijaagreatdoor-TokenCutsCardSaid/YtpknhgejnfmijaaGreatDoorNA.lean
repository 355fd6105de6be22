/- A text of the claim, with what no other text of it needs taken out. -/
import Derived.Test.YtpknhgejnfmijaaGreatDoorPL1
import Derived.Laws.Strings2
namespace Go.Proofs.YtpknhgejnfmijaaGreatDoor.M
open Go Go.RowKit Go.Proofs.YtpknhgejnfmijaaGreatDoorW.PrintWords Go.Proofs.YtpknhgejnfmijaaGreatDoor.PL
set_option linter.unusedVariables false
set_option linter.unusedSimpArgs false
abbrev bl (s : ByteArray) : List UInt8 := s.data.toList
theorem bl_length (s : ByteArray) : (bl s).length = s.size := by simp [bl]
theorem toList_bl (s : ByteArray) : s.toList = bl s := ByteArray.toList_eq s
theorem bl_extract (s : ByteArray) (a b : Nat) : bl (s.extract a b) = ((bl s).drop a).take (b - a) := by
  obtain ⟨⟨l⟩⟩ := s
  show bl ((ByteArray.mk l.toArray).extract a b) = _
  rw [ByteArray.extract_mk]
theorem bl_from (s : ByteArray) (a : Nat) : bl (s.extract a s.size) = (bl s).drop a := by
  rw [bl_extract, List.take_of_length_le (by rw [List.length_drop, bl_length]; omega)]
theorem bl_to (s : ByteArray) (b : Nat) : bl (s.extract 0 b) = (bl s).take b := by
  rw [bl_extract, List.drop_zero, Nat.sub_zero]
theorem bl_append (a b : ByteArray) : bl (a ++ b) = bl a ++ bl b := by simp [bl]
theorem bl_mk (l : List UInt8) : bl ⟨l.toArray⟩ = l := rfl
theorem bl_inj {a b : ByteArray} (h : bl a = bl b) : a = b := by
  obtain ⟨⟨l⟩⟩ := a
  obtain ⟨⟨m⟩⟩ := b
  simpa [bl] using h
theorem bl_nil {s : ByteArray} : bl s = [] ↔ s.size = 0 := by
  rw [← bl_length, List.length_eq_zero_iff]
theorem wrap_id {n : Int} (h1 : -9223372036854775808 ≤ n) (h2 : n ≤ 9223372036854775807) : wrap64 n = n := by unfold wrap64; omega
theorem bt_at (s : ByteArray) (i : Nat) (h : i < (bl s).length) : bt s (i : Int) = (((bl s)[i]).toNat : Int) := by
  unfold bt
  simp only [Int.toNat_natCast]
  have h' : i < s.size := by rwa [bl_length] at h
  rw [dif_pos h']
  rfl
def isF (b : UInt8) : Bool := (decide (65 ≤ b.toNat) && decide (b.toNat ≤ 90)) || (decide (97 ≤ b.toNat) && decide (b.toNat ≤ 122)) || b.toNat == 95
def isM (b : UInt8) : Bool := isF b || (decide (48 ≤ b.toNat) && decide (b.toNat ≤ 57)) || b.toNat == 45 || b.toNat == 46
theorem isF_isM (b : UInt8) (h : isF b = true) : isM b = true := by simp [isM, h]
def lenL : List UInt8 → Nat
  | [] => 0
  | b :: t => if isF b = true then 1 + (t.takeWhile isM).length else 0
theorem class_all : ∀ b : Fin 256, name_class.f 3 (b.val : Int) = some (if isF (UInt8.ofNat b.val) = true then 1 else if isM (UInt8.ofNat b.val) = true then 2 else 0) := by decide +kernel
theorem class_eq (b : UInt8) (k : Nat) : name_class.f (k + 3) (b.toNat : Int) = some (if isF b = true then 1 else if isM b = true then 2 else 0) := by
  have h := class_all ⟨b.toNat, b.toNat_lt⟩
  simp only [UInt8.ofNat_toNat] at h
  exact at_rounds (g := fun k => name_class.f k (b.toNat : Int)) (fun k => name_class.mono _ k) (by omega) h
theorem length_l0_stop (k : Nat) (s : ByteArray) (i : Int) (h : ¬ i < (s.size : Int)) : name_length.l0 (k + 1) s i = some i := by
  simp only [name_length.l0]
  rw [if_neg h]
theorem length_l0_go (k : Nat) (s : ByteArray) (i : Nat) (hz : s.size ≤ 140737488351232) (h : i < (bl s).length) :
    name_length.l0 (k + 4) s i = if isM ((bl s)[i]) = true then name_length.l0 (k + 3) s ((i + 1 : Nat) : Int) else some (i : Int) := by
  have hl := bl_length s
  show name_length.l0 (k + 3 + 1) s i = _
  simp only [name_length.l0]
  rw [if_pos (by omega), if_pos (by omega), bt_at s i h, class_eq _ k, Option.bind_some, wrap_id (by omega) (by omega)]
  by_cases hF : isF ((bl s)[i]) = true
  · rw [if_pos hF, if_neg (by decide), if_pos (isF_isM _ hF)]
    rfl
  · rw [if_neg hF]
    by_cases hM : isM ((bl s)[i]) = true
    · rw [if_pos hM, if_neg (by decide), if_pos hM]
      rfl
    · rw [if_neg hM, if_pos rfl, if_neg hM]
theorem length_l0_ev (s : ByteArray) (hz : s.size ≤ 140737488351232) : ∀ (d i : Nat), i + d = s.size → Ev (fun k => name_length.l0 k s i) ((i + (((bl s).drop i).takeWhile isM).length : Nat) : Int) := by
  intro d
  have hl := bl_length s
  induction d with
  | zero =>
    intro i hi
    rw [List.drop_of_length_le (by omega)]
    refine Ev.step (f := fun _ => some (i : Int)) (fun k => length_l0_stop k s i (by omega)) (Ev.now _)
  | succ d ih =>
    intro i hi
    have hlt : i < (bl s).length := by omega
    rw [List.drop_eq_getElem_cons hlt, List.takeWhile_cons]
    by_cases hM : isM ((bl s)[i]) = true
    · rw [if_pos hM]
      obtain ⟨K, hK⟩ := ih (i + 1) (by omega)
      refine ⟨K + 4, fun k hk => ?_⟩
      obtain ⟨k, rfl⟩ : ∃ m, k = m + 4 := ⟨k - 4, by omega⟩
      show name_length.l0 (k + 4) s i = _
      rw [length_l0_go k s i hz hlt, if_pos hM]
      have := hK (k + 3) (by omega)
      simp only at this
      rw [this, List.length_cons]
      congr 2
      omega
    · rw [if_neg hM]
      refine ⟨4, fun k hk => ?_⟩
      obtain ⟨k, rfl⟩ : ∃ m, k = m + 4 := ⟨k - 4, by omega⟩
      show name_length.l0 (k + 4) s i = _
      rw [length_l0_go k s i hz hlt, if_neg hM]
      rfl
theorem length_ev (s : ByteArray) (hz : s.size ≤ 140737488351232) : Ev (fun k => name_length.f k s) (lenL (bl s) : Int) := by
  have hl := bl_length s
  cases hb : bl s with
  | nil =>
    refine Ev.congr (f := fun k => name_length.j0 k s true) (fun k => ?_) (Ev.step (f := fun _ => some 0) (fun k => ?_) (Ev.now _))
    · unfold name_length.f
      rw [toList_bl, if_pos hb]
    · simp only [name_length.j0]
      rw [if_pos trivial]
  | cons b t =>
    have h0 : 0 < (bl s).length := by rw [hb]; simp
    have e0 : (bl s)[0] = b := by simp [hb]
    obtain ⟨K, hK⟩ := length_l0_ev s hz (s.size - 1) 1 (by omega)
    refine ⟨K + 4, fun k hk => ?_⟩
    obtain ⟨k, rfl⟩ : ∃ m, k = m + 3 := ⟨k - 3, by omega⟩
    show name_length.f (k + 3) s = _
    unfold name_length.f
    have hbt : bt s 0 = (b.toNat : Int) := by have := bt_at s 0 h0; rw [e0] at this; exact this
    rw [toList_bl, if_neg (by rw [hb]; simp), if_pos (by omega), hbt, class_eq, Option.bind_some]
    have hs := hK (k + 2) (by omega)
    rw [hb, List.drop_one, List.tail_cons] at hs
    by_cases hF : isF b = true
    · rw [if_pos hF]
      show name_length.j0 (k + 2 + 1) s false = _
      simp only [name_length.j0]
      rw [if_neg (by simp)]
      simp only [lenL]
      rw [if_pos hF]
      exact hs
    · rw [if_neg hF]
      have e : ((if isM b = true then (2 : Int) else 0) != 1) = true := by split <;> rfl
      rw [e]
      show name_length.j0 (k + 2 + 1) s true = _
      simp only [name_length.j0]
      rw [if_pos trivial]
      simp only [lenL]
      rw [if_neg hF]
      rfl
theorem lenL_le (l : List UInt8) : lenL l ≤ l.length := by
  cases l with
  | nil => simp [lenL]
  | cons b t =>
    have := (List.takeWhile_prefix (l := t) isM).length_le
    simp only [lenL, List.length_cons]
    split <;> omega
def beginL (l : List UInt8) : Nat :=
  if lenL (l.take 64) = 0 ∨ (l.take 64).length ≤ lenL (l.take 64) ∨ (l.take 64).getD (lenL (l.take 64)) 0 ≠ 58 then lenL (l.take 64)
  else if 0 < lenL ((l.take 64).drop (lenL (l.take 64) + 1)) then lenL (l.take 64) + 1 + lenL ((l.take 64).drop (lenL (l.take 64) + 1)) else lenL (l.take 64)
end Go.Proofs.YtpknhgejnfmijaaGreatDoor.M
