/- A text of the claim, with what no other text of it needs taken out. -/
import Derived.Lib.DecodeN
import Derived.Laws.Strings
import Derived.Laws.Strings2
import Derived.Test.YtpknhgejnfmijaaGreatDoorWMore
import Derived.Test.YtpknhgejnfmijaaGreatDoorProg
import Derived.WalkKit
import Derived.KernelRfl
import Derived.LoopTactic
import Derived.OwnWalk
import Derived.Deep.QuietTactic
import Derived.BigQuiet
import Derived.Outline
import Derived.Lib.OthersKept
import Derived.Laws.Cover4
import Derived.Lib.Hide
import Derived.Shelf.Strings.Builder1
import Derived.Shelf.Strings.Trim
import Derived.Shelf.Small.Utf8
import Derived.Shelf.Small.Strs
import Derived.Shelf.Small.Wraps
import Derived.Shelf.Strings.BuilderF
import Derived.Shelf.Strings.BuilderK
import Derived.Shelf.Strconv.Itoa0
import Derived.Shelf.Strconv.Itoa1
import Derived.Shelf.LaysM
import Derived.Shelf.Strconv.Itoa2
import Derived.Shelf.Strconv.Itoa3
import Derived.Shelf.Strconv.ParseIntEmpty
import Derived.Shelf.Strconv.Clone
import Derived.Shelf.Strconv.SyntaxError
import Derived.Shelf.LaysC
import Derived.Shelf.Strconv.ToError
import Derived.Shelf.Strconv.Lower
import Derived.Shelf.Strconv.ParseUint10
import Derived.Shelf.Strconv.ParseUint10Empty
import Derived.Shelf.Strconv.ParseUint10Any
import Derived.Shelf.Strconv.ParseInt10
import Derived.Shelf.Strconv.RangeError
import Derived.Shelf.Strconv.ToErrorRange
import Derived.Shelf.Strconv.ParseUintEmpty
import Derived.Shelf.Strconv.ParseUint10b64
import Derived.Shelf.Strconv.ParseUint10b32
import Derived.Shelf.Strconv.ParseUint10b16
import Derived.Shelf.Strconv.ParseUint10b8
import Derived.Shelf.Strconv.ParseUint10At
import Derived.Shelf.Strconv.ParseInt10At64
import Derived.Shelf.Strconv.ParseInt10At32
import Derived.Shelf.Strconv.ParseInt10At16
import Derived.Shelf.Strconv.ParseInt10At8
import Derived.Shelf.Strconv.ParseInt10All
import Derived.Shelf.Strconv.ParseIntPublic10
import Derived.Shelf.Strconv.ErrVarParseInt
import Derived.Shelf.Strings.Search1
import Derived.Shelf.Strings.Search2
import Derived.Shelf.Strings.Search3
import Derived.Shelf.Strings.Cut
import Derived.Shelf.Strings.Shaped
import Derived.Shelf.Strings.Prefix
import Derived.Shelf.Strings.Runes
import Derived.Shelf.Strings.IndexAny
import Derived.Shelf.Strings.AsciiSet
import Derived.Shelf.Strings.IndexAnyAll
import Derived.Shelf.Unicode.DecodeSlow
import Derived.Shelf.Unicode.DecodeAny
import Derived.RegionTactic
import Derived.ChangeAlike
import Derived.Laws.Strings3
import Derived.IntWalk
import Derived.MapKept
import Derived.StringKeys
import Derived.ChangeMaps4
import Derived.Carry
import Derived.Below
import Derived.Maps.RangeRun
section
namespace Go.Proofs.YtpknhgejnfmijaaGreatDoor.U
open Go
set_option linter.unusedVariables false
set_option linter.unusedSimpArgs false
def isx (c : Nat) : Bool := c == 9 || c == 10 || c == 13 || (decide (32 ≤ c) && decide (c ≤ 55295)) || (decide (57344 ≤ c) && decide (c ≤ 65533)) || (decide (65536 ≤ c) && decide (c ≤ 1114111))
theorem isx_iff (c : Nat) : isx c = true ↔ (c = 9 ∨ c = 10 ∨ c = 13 ∨ (32 ≤ c ∧ c ≤ 55295) ∨ (57344 ≤ c ∧ c ≤ 65533) ∨ (65536 ≤ c ∧ c ≤ 1114111)) := by
  simp [isx, or_assoc]
def enc (c : Nat) : List UInt8 :=
  if c < 128 then [UInt8.ofNat c]
  else if c < 2048 then [UInt8.ofNat (192 + c / 64), UInt8.ofNat (128 + c % 64)]
  else if c < 65536 then [UInt8.ofNat (224 + c / 4096), UInt8.ofNat (128 + c / 64 % 64), UInt8.ofNat (128 + c % 64)]
  else [UInt8.ofNat (240 + c / 262144), UInt8.ofNat (128 + c / 4096 % 64), UInt8.ofNat (128 + c / 64 % 64), UInt8.ofNat (128 + c % 64)]
theorem encode_of (c : Nat) (h : isx c = true) : (Utf8.encode (c : Int)) = ⟨(enc c).toArray⟩ := by
  rw [isx_iff] at h
  have hv : Utf8.valid (c : Int) = true := by
    simp only [Utf8.valid, Bool.or_eq_true, Bool.and_eq_true, decide_eq_true_eq]
    omega
  simp only [Utf8.encode, hv, if_true, Int.toNat_natCast, enc]
  by_cases h1 : c < 128
  · simp [h1]
  · by_cases h2 : c < 2048
    · simp [h1, h2]
    · by_cases h3 : c < 65536
      · simp [h1, h2, h3]
      · simp [h1, h2, h3]
def dec (l : List UInt8) : Nat × Nat := Lib.decodeN l.length (l.getD 0 0).toNat (l.getD 1 0).toNat (l.getD 2 0).toNat (l.getD 3 0).toNat
theorem getD_lt (l : List UInt8) (i : Nat) : (l.getD i 0).toNat < 256 := UInt8.toNat_lt _
theorem get_bang (s : ByteArray) (i : Nat) : s.get! i = s.data.toList.getD i 0 := by
  show s.data[i]! = _
  by_cases h : i < s.data.size
  · rw [getElem!_pos s.data i h]
    rw [List.getD, Array.getElem?_toList, Array.getElem?_eq_getElem h]
    rfl
  · rw [getElem!_neg s.data i h, List.getD, Array.getElem?_toList, Array.getElem?_eq_none (by omega)]
    rfl
theorem decode_dec (s : ByteArray) (i : Nat) : Utf8.decode s i = dec (s.data.toList.drop i) := by
  rw [Lib.decode_at]
  simp only [dec, get_bang, List.getD, List.getElem?_drop, List.length_drop, Array.length_toList, Nat.add_zero]
  rfl
def nx (l : List UInt8) : Nat × Nat := if l = [] then (0, 0) else if isx (dec l).1 = true ∧ ¬ ((dec l).1 = 65533 ∧ (dec l).2 = 1) then dec l else (0, 0)
theorem enc_length (c : Nat) : (enc c).length = if c < 128 then 1 else if c < 2048 then 2 else if c < 65536 then 3 else 4 := by
  unfold enc
  repeat' split
  all_goals rfl
theorem ofNat_eq_iff (n : Nat) (b : UInt8) (h : n < 256) : UInt8.ofNat n = b ↔ b.toNat = n := by
  constructor
  · rintro rfl
    simp
    omega
  · intro e
    subst e
    simp
theorem dec_enc (c : Nat) (h : isx c = true) (t : List UInt8) : dec (enc c ++ t) = (c, (enc c).length) := by
  rw [isx_iff] at h
  unfold enc
  by_cases h1 : c < 128
  · have e1 : (UInt8.ofNat c).toNat = c := by simp; omega
    simp only [if_pos h1, dec, Lib.decodeN, List.getD, List.cons_append, List.getElem?_cons_zero, Option.getD_some, e1]
    rfl
  · rw [if_neg h1]
    by_cases h2 : c < 2048
    · have e1 : (UInt8.ofNat (192 + c / 64)).toNat = 192 + c / 64 := by simp; omega
      have e2 : (UInt8.ofNat (128 + c % 64)).toNat = 128 + c % 64 := by simp; omega
      simp only [if_pos h2, dec, Lib.decodeN, List.getD, List.cons_append, List.getElem?_cons_zero, List.getElem?_cons_succ, Option.getD_some, e1, e2, List.length_cons]
      rw [if_neg (by omega), if_pos (by omega), if_pos (by omega)]
      refine Prod.ext ?_ ?_
      · simp only; omega
      · simp
    · rw [if_neg h2]
      by_cases h3 : c < 65536
      · have e1 : (UInt8.ofNat (224 + c / 4096)).toNat = 224 + c / 4096 := by simp; omega
        have e2 : (UInt8.ofNat (128 + c / 64 % 64)).toNat = 128 + c / 64 % 64 := by simp; omega
        have e3 : (UInt8.ofNat (128 + c % 64)).toNat = 128 + c % 64 := by simp; omega
        simp only [if_pos h3, dec, Lib.decodeN, List.getD, List.cons_append, List.getElem?_cons_zero, List.getElem?_cons_succ, Option.getD_some, e1, e2, e3, List.length_cons]
        rw [if_neg (by omega), if_neg (by omega), if_pos (by omega), if_pos (by omega)]
        refine Prod.ext ?_ ?_
        · simp only; omega
        · simp
      · rw [if_neg h3]
        have e1 : (UInt8.ofNat (240 + c / 262144)).toNat = 240 + c / 262144 := by simp; omega
        have e2 : (UInt8.ofNat (128 + c / 4096 % 64)).toNat = 128 + c / 4096 % 64 := by simp; omega
        have e3 : (UInt8.ofNat (128 + c / 64 % 64)).toNat = 128 + c / 64 % 64 := by simp; omega
        have e4 : (UInt8.ofNat (128 + c % 64)).toNat = 128 + c % 64 := by simp; omega
        simp only [dec, Lib.decodeN, List.getD, List.cons_append, List.getElem?_cons_zero, List.getElem?_cons_succ, Option.getD_some, e1, e2, e3, e4, List.length_cons]
        rw [if_neg (by omega), if_neg (by omega), if_neg (by omega), if_pos (by omega), if_pos (by omega)]
        refine Prod.ext ?_ ?_
        · simp only; omega
        · simp
def number (l : List UInt8) (n : Nat) : Int :=
  if n = 1 then (l.getD 0 0).toNat
  else if n = 2 then ((l.getD 0 0).toNat - 192) * 64 + (l.getD 1 0).toNat - 128
  else if n = 3 then (((l.getD 0 0).toNat - 224) * 64 + (l.getD 1 0).toNat - 128) * 64 + (l.getD 2 0).toNat - 128
  else ((((l.getD 0 0).toNat - 240) * 64 + (l.getD 1 0).toNat - 128) * 64 + (l.getD 2 0).toNat - 128) * 64 + (l.getD 3 0).toNat - 128
theorem number_one (l : List UInt8) : number l 1 = (l.getD 0 0).toNat := rfl
theorem number_two (l : List UInt8) : number l 2 = ((l.getD 0 0).toNat - 192) * 64 + (l.getD 1 0).toNat - 128 := rfl
theorem number_three (l : List UInt8) : number l 3 = (((l.getD 0 0).toNat - 224) * 64 + (l.getD 1 0).toNat - 128) * 64 + (l.getD 2 0).toNat - 128 := rfl
theorem number_four (l : List UInt8) : number l 4 = ((((l.getD 0 0).toNat - 240) * 64 + (l.getD 1 0).toNat - 128) * 64 + (l.getD 2 0).toNat - 128) * 64 + (l.getD 3 0).toNat - 128 := rfl
theorem take_one (l : List UInt8) (h : 1 ≤ l.length) : l.take 1 = [l.getD 0 0] := by
  match l, h with
  | a :: t, _ => rfl
theorem take_two (l : List UInt8) (h : 2 ≤ l.length) : l.take 2 = [l.getD 0 0, l.getD 1 0] := by
  match l, h with
  | a :: b :: t, _ => rfl
theorem take_three (l : List UInt8) (h : 3 ≤ l.length) : l.take 3 = [l.getD 0 0, l.getD 1 0, l.getD 2 0] := by
  match l, h with
  | a :: b :: c :: t, _ => rfl
theorem take_four (l : List UInt8) (h : 4 ≤ l.length) : l.take 4 = [l.getD 0 0, l.getD 1 0, l.getD 2 0, l.getD 3 0] := by
  match l, h with
  | a :: b :: c :: d :: t, _ => rfl
theorem dec_good (l : List UInt8) (h0 : l ≠ []) (hx : isx (dec l).1 = true) (hne : ¬ ((dec l).1 = 65533 ∧ (dec l).2 = 1)) :
    enc (dec l).1 = l.take (dec l).2 ∧ (dec l).2 ≤ l.length ∧ 1 ≤ (dec l).2 ∧ (dec l).2 ≤ 4 ∧ number l (dec l).2 = ((dec l).1 : Int) := by
  rw [isx_iff] at hx
  have hl : 1 ≤ l.length := by
    cases l with
    | nil => exact absurd rfl h0
    | cons a t => simp
  have g0 := getD_lt l 0
  have g1 := getD_lt l 1
  have g2 := getD_lt l 2
  have g3 := getD_lt l 3
  unfold dec Lib.decodeN at hx hne ⊢
  by_cases h1 : (l.getD 0 0).toNat < 128
  · rw [if_pos h1] at hx hne ⊢
    refine ⟨?_, hl, by simp, by simp, by simp [number]⟩
    simp only [enc, if_pos h1, take_one l hl]
    simp
  · rw [if_neg h1] at hx hne ⊢
    by_cases h2 : (l.getD 0 0).toNat / 32 = 6 ∧ (1 < l.length ∧ (l.getD 1 0).toNat / 64 = 2)
    · rw [if_pos h2] at hx hne ⊢
      by_cases h3 : (l.getD 0 0).toNat % 32 * 64 + (l.getD 1 0).toNat % 64 ≥ 128
      · rw [if_pos h3] at hx hne ⊢
        refine ⟨?_, by simp only; omega, by simp, by simp, by rw [number_two]; simp only; omega⟩
        simp only [enc]
        rw [if_neg (by omega), if_pos (by omega), take_two l (by omega)]
        congr 1
        · rw [ofNat_eq_iff _ _ (by omega)]; omega
        · congr 1
          rw [ofNat_eq_iff _ _ (by omega)]; omega
      · rw [if_neg h3] at hne
        exact absurd ⟨rfl, rfl⟩ hne
    · rw [if_neg h2] at hx hne ⊢
      by_cases h3 : (l.getD 0 0).toNat / 16 = 14 ∧ (1 < l.length ∧ (l.getD 1 0).toNat / 64 = 2) ∧ (2 < l.length ∧ (l.getD 2 0).toNat / 64 = 2)
      · rw [if_pos h3] at hx hne ⊢
        split at hne
        · rename_i h4
          rw [if_pos h4] at hx ⊢
          refine ⟨?_, by simp only; omega, by simp, by simp, by rw [number_three]; simp only; omega⟩
          simp only [enc]
          rw [if_neg (by omega), if_neg (by omega), if_pos (by omega), take_three l (by omega)]
          congr 1
          · rw [ofNat_eq_iff _ _ (by omega)]; omega
          · congr 1
            · rw [ofNat_eq_iff _ _ (by omega)]; omega
            · congr 1
              rw [ofNat_eq_iff _ _ (by omega)]; omega
        · exact absurd ⟨rfl, rfl⟩ hne
      · rw [if_neg h3] at hx hne ⊢
        split at hne
        · rename_i h4
          rw [if_pos h4] at hx ⊢
          split at hne
          · rename_i h5
            rw [if_pos h5] at hx ⊢
            refine ⟨?_, by simp only; omega, by simp, by simp, by rw [number_four]; simp only; omega⟩
            simp only [enc]
            rw [if_neg (by omega), if_neg (by omega), if_neg (by omega), take_four l (by omega)]
            congr 1
            · rw [ofNat_eq_iff _ _ (by omega)]; omega
            · congr 1
              · rw [ofNat_eq_iff _ _ (by omega)]; omega
              · congr 1
                · rw [ofNat_eq_iff _ _ (by omega)]; omega
                · congr 1
                  rw [ofNat_eq_iff _ _ (by omega)]; omega
          · exact absurd ⟨rfl, rfl⟩ hne
        · exact absurd ⟨rfl, rfl⟩ hne
theorem enc_pos (c : Nat) : 1 ≤ (enc c).length := by
  rw [enc_length]
  repeat' split
  all_goals omega
theorem bad_not_there (l : List UInt8) (h : dec l = (65533, 1)) : l.take (enc 65533).length ≠ enc 65533 := by
  intro e
  have h2 := dec_enc 65533 (by decide) (l.drop (enc 65533).length)
  have h3 : enc 65533 ++ l.drop (enc 65533).length = l := by
    have := List.take_append_drop (enc 65533).length l
    rwa [e] at this
  rw [h3, h] at h2
  simp [enc] at h2
theorem step_iff (l : List UInt8) (h0 : l ≠ []) :
    (isx (dec l).1 = true ∧ l.take (enc (dec l).1).length = enc (dec l).1) ↔ (nx l).2 ≠ 0 := by
  unfold nx
  rw [if_neg h0]
  constructor
  · rintro ⟨hx, he⟩
    have hne : ¬ ((dec l).1 = 65533 ∧ (dec l).2 = 1) := by
      rintro ⟨e1, e2⟩
      have : dec l = (65533, 1) := Prod.ext e1 e2
      rw [e1] at he
      exact bad_not_there l this he
    rw [if_pos ⟨hx, hne⟩]
    have := (dec_good l h0 hx hne).2.2.1
    omega
  · intro h
    split at h
    · rename_i hh
      obtain ⟨e, hle, _⟩ := dec_good l h0 hh.1 hh.2
      refine ⟨hh.1, ?_⟩
      rw [e, List.length_take, Nat.min_eq_left hle]
    · exact absurd rfl h
theorem nx_good (l : List UInt8) (h : (nx l).2 ≠ 0) :
    l ≠ [] ∧ dec l = nx l ∧ isx (nx l).1 = true ∧ enc (nx l).1 = l.take (nx l).2 ∧ (nx l).2 = (enc (nx l).1).length ∧ (nx l).2 ≤ l.length ∧ 1 ≤ (nx l).2 ∧ (nx l).2 ≤ 4 ∧ number l (nx l).2 = ((nx l).1 : Int) := by
  unfold nx at h ⊢
  by_cases h0 : l = []
  · rw [if_pos h0] at h
    exact absurd rfl h
  · rw [if_neg h0] at h ⊢
    split at h
    · rename_i hh
      rw [if_pos hh]
      obtain ⟨e, hle, h1, h4, hn⟩ := dec_good l h0 hh.1 hh.2
      exact ⟨h0, rfl, hh.1, e, by rw [e, List.length_take, Nat.min_eq_left hle], hle, h1, h4, hn⟩
    · exact absurd rfl h
theorem nx_enc (c : Nat) (h : isx c = true) (t : List UInt8) : nx (enc c ++ t) = (c, (enc c).length) := by
  have hp := enc_pos c
  have hd := dec_enc c h t
  unfold nx
  rw [if_neg (by intro e; have := congrArg List.length e; simp at this; simp [this] at hp), hd]
  by_cases hc : c = 65533
  · subst hc
    rfl
  · rw [if_pos ⟨h, fun hh => hc hh.1⟩]
theorem nx_of_take (c : Nat) (h : isx c = true) (l : List UInt8) (e : l.take (enc c).length = enc c) : nx l = (c, (enc c).length) := by
  have h2 := nx_enc c h (l.drop (enc c).length)
  have h3 : enc c ++ l.drop (enc c).length = l := by
    have := List.take_append_drop (enc c).length l
    rwa [e] at this
  rwa [h3] at h2
end Go.Proofs.YtpknhgejnfmijaaGreatDoor.U
end
section
namespace Go.Proofs.YtpknhgejnfmijaaGreatDoor.U
open Go
set_option linter.unusedVariables false
set_option linter.unusedSimpArgs false
abbrev bl (s : ByteArray) : List UInt8 := s.data.toList
theorem bl_length (s : ByteArray) : (bl s).length = s.size := by simp [bl]
theorem toList_bl (s : ByteArray) : s.toList = bl s := ByteArray.toList_eq s
theorem bl_extract (s : ByteArray) (a b : Nat) : bl (s.extract a b) = ((bl s).drop a).take (b - a) := by
  obtain ⟨⟨l⟩⟩ := s
  show bl ((ByteArray.mk l.toArray).extract a b) = _
  rw [ByteArray.extract_mk]
theorem bl_from (s : ByteArray) (a : Nat) : bl (s.extract a s.size) = (bl s).drop a := by
  rw [bl_extract, List.take_of_length_le (by rw [List.length_drop, bl_length]; omega)]
theorem bl_append (a b : ByteArray) : bl (a ++ b) = bl a ++ bl b := by simp [bl]
theorem bl_inj {a b : ByteArray} (h : bl a = bl b) : a = b := by
  obtain ⟨⟨l⟩⟩ := a
  obtain ⟨⟨m⟩⟩ := b
  simpa [bl] using h
theorem bl_nil {s : ByteArray} : bl s = [] ↔ s.size = 0 := by
  rw [← bl_length, List.length_eq_zero_iff]
def runs : Nat → List UInt8 → Nat × Nat
  | 0, _ => (0, 0)
  | k + 1, l => if (nx l).2 = 0 then (0, 0) else ((runs k (l.drop (nx l).2)).1 + 1, (runs k (l.drop (nx l).2)).2 + (nx l).2)
def R (l : List UInt8) : Nat × Nat := runs l.length l
theorem nx_nil : nx [] = (0, 0) := rfl
theorem runs_more : ∀ (n : Nat) (l : List UInt8), l.length ≤ n → ∀ k, l.length ≤ k → runs k l = runs n l := by
  intro n
  induction n with
  | zero =>
    intro l hl k hk
    have : l = [] := List.length_eq_zero_iff.mp (by omega)
    subst this
    cases k <;> simp [runs, nx_nil]
  | succ n ih =>
    intro l hl k hk
    cases k with
    | zero =>
      have : l = [] := List.length_eq_zero_iff.mp (by omega)
      subst this
      simp [runs, nx_nil]
    | succ k =>
      simp only [runs]
      by_cases h : (nx l).2 = 0
      · rw [if_pos h, if_pos h]
      · rw [if_neg h, if_neg h]
        obtain ⟨_, _, _, _, _, h6, h7, _⟩ := nx_good l h
        have e := ih (l.drop (nx l).2) (by rw [List.length_drop]; omega) k (by rw [List.length_drop]; omega)
        rw [e]
theorem R_stop (l : List UInt8) (h : (nx l).2 = 0) : R l = (0, 0) := by
  unfold R
  cases l.length with
  | zero => rfl
  | succ n => simp [runs, h]
theorem R_go (l : List UInt8) (h : (nx l).2 ≠ 0) : R l = ((R (l.drop (nx l).2)).1 + 1, (R (l.drop (nx l).2)).2 + (nx l).2) := by
  obtain ⟨h0, _, _, _, _, h6, h7, _⟩ := nx_good l h
  obtain ⟨n, hn⟩ : ∃ n, l.length = n + 1 := ⟨l.length - 1, by omega⟩
  unfold R
  rw [hn]
  simp only [runs]
  rw [if_neg h, runs_more (l.drop (nx l).2).length (l.drop (nx l).2) (Nat.le_refl _) n (by rw [List.length_drop]; omega)]
theorem R_nil : R [] = (0, 0) := rfl
def nextR (l : List UInt8) : Int × Int × Int := if l = [] then (0, 0, 0) else if (nx l).2 = 0 then (0, 0, 10) else ((nx l).1, (nx l).2, 0)
def validR (l : List UInt8) : Int × Int := if (R l).2 < l.length then ((R l).2, 10) else (0, 0)
end Go.Proofs.YtpknhgejnfmijaaGreatDoor.U
end
section
namespace Go.Proofs.YtpknhgejnfmijaaGreatDoor.E
open Go Go.Proofs.YtpknhgejnfmijaaGreatDoor.U
set_option linter.unusedVariables false
set_option linter.unusedSimpArgs false
def dig (c : UInt8) : Nat := if 48 ≤ c.toNat ∧ c.toNat ≤ 57 then c.toNat - 48 else if 97 ≤ c.toNat ∧ c.toNat ≤ 102 then c.toNat - 87 else if 65 ≤ c.toNat ∧ c.toNat ≤ 70 then c.toNat - 55 else 99
def put (n : Nat) : List UInt8 := if isx n = true then enc n else []
def num (b : Nat) (n : Nat) : List UInt8 → Nat
  | [] => n
  | c :: l => num b (n * b + dig c) l
def numR (b most : Nat) (l : List UInt8) : List UInt8 := if l ≠ [] ∧ l.length ≤ most ∧ l.all (fun c => decide (dig c < b)) = true then put (num b 0 l) else []
def cut : List UInt8 → Option (List UInt8)
  | [] => none
  | c :: l => if c = 59 then some [] else (cut l).map (c :: ·)
def word (t : List UInt8) : List UInt8 := if t = [97, 109, 112] then [38] else if t = [108, 116] then [60] else if t = [103, 116] then [62] else if t = [113, 117, 111, 116] then [34] else if t = [97, 112, 111, 115] then [39] else []
def nameR (t : List UInt8) : List UInt8 :=
  match t with
  | 35 :: 120 :: h => numR 16 6 h
  | 35 :: d => numR 10 7 d
  | _ => word t
def refR : List UInt8 → List UInt8 × Nat
  | [] => ([], 0)
  | c :: t => if c = 38 then (match cut t with | none => ([], 0) | some nm => if nameR nm = [] then ([], 0) else (nameR nm, nm.length + 2)) else ([], 0)
def stepR (l : List UInt8) : List UInt8 × Nat × Nat :=
  if (refR l).2 ≠ 0 then ((refR l).1, (refR l).2, 0) else if l.head? = some 38 then ([], 0, 30) else if (nx l).2 = 0 then ([], 0, 10) else (l.take (nx l).2, (nx l).2, 0)
def decF : Nat → List UInt8 → List UInt8 × Nat × Nat
  | 0, _ => ([], 0, 0)
  | k + 1, l => if l = [] then ([], 0, 0) else if (stepR l).2.2 ≠ 0 then ([], 0, (stepR l).2.2) else
      ((stepR l).1 ++ (decF k (l.drop (stepR l).2.1)).1, (stepR l).2.1 + (decF k (l.drop (stepR l).2.1)).2.1, (decF k (l.drop (stepR l).2.1)).2.2)
def D (l : List UInt8) : List UInt8 × Nat × Nat := decF l.length l
theorem cut_length : ∀ (t nm : List UInt8), cut t = some nm → nm.length + 1 ≤ t.length := by
  intro t
  induction t with
  | nil => intro nm h; cases h
  | cons c t ih =>
    intro nm h
    simp only [cut] at h
    by_cases hc : c = 59
    · rw [if_pos hc] at h
      cases h
      simp
    · rw [if_neg hc] at h
      cases ht : cut t with
      | none => rw [ht] at h; cases h
      | some x =>
        rw [ht] at h
        cases h
        have := ih x ht
        simp
        omega
theorem refR_amp (t : List UInt8) : refR (38 :: t) = (match cut t with | none => ([], 0) | some nm => if nameR nm = [] then ([], 0) else (nameR nm, nm.length + 2)) := by
  simp [refR]
theorem refR_other (c : UInt8) (t : List UInt8) (h : c ≠ 38) : refR (c :: t) = ([], 0) := by
  simp [refR, h]
theorem refR_le (l : List UInt8) : (refR l).2 ≤ l.length := by
  cases l with
  | nil => simp [refR]
  | cons c t =>
    simp only [refR]
    by_cases h : c = 38
    · rw [if_pos h]
      cases hc : cut t with
      | none => simp
      | some nm =>
        simp only
        have := cut_length t nm hc
        split
        · simp
        · simp; omega
    · rw [if_neg h]
      simp
theorem nx_append (a b : List UInt8) (h : (nx a).2 ≠ 0) : nx (a ++ b) = nx a := by
  obtain ⟨h0, _, hx, he, h5, h6, h7, _⟩ := nx_good a h
  have := nx_of_take (nx a).1 hx (a ++ b) (by rw [← h5, List.take_append_of_le_length h6, he])
  rw [this]
  exact Prod.ext rfl h5.symm
theorem stepR_le (l : List UInt8) : (stepR l).2.1 ≤ l.length := by
  unfold stepR
  have h1 := refR_le l
  split
  · exact h1
  · split
    · simp
    · split
      · simp
      · rename_i h
        exact (nx_good l h).2.2.2.2.2.1
theorem stepR_pos (l : List UInt8) (h : (stepR l).2.2 = 0) : 1 ≤ (stepR l).2.1 := by
  unfold stepR at h ⊢
  by_cases h1 : (refR l).2 ≠ 0
  · rw [if_pos h1]
    simp only
    omega
  · rw [if_neg h1] at h ⊢
    by_cases h2 : l.head? = some 38
    · rw [if_pos h2] at h
      simp at h
    · rw [if_neg h2] at h ⊢
      by_cases h3 : (nx l).2 = 0
      · rw [if_pos h3] at h
        simp at h
      · rw [if_neg h3]
        simp only
        omega
theorem decF_more : ∀ (n : Nat) (l : List UInt8), l.length ≤ n → ∀ k, l.length ≤ k → decF k l = decF n l := by
  intro n
  induction n with
  | zero =>
    intro l hl k hk
    have : l = [] := List.length_eq_zero_iff.mp (by omega)
    subst this
    cases k <;> simp [decF]
  | succ n ih =>
    intro l hl k hk
    cases k with
    | zero =>
      have : l = [] := List.length_eq_zero_iff.mp (by omega)
      subst this
      simp [decF]
    | succ k =>
      simp only [decF]
      by_cases h0 : l = []
      · rw [if_pos h0, if_pos h0]
      · rw [if_neg h0, if_neg h0]
        by_cases h1 : (stepR l).2.2 ≠ 0
        · rw [if_pos h1, if_pos h1]
        · have hp := stepR_pos l (by omega)
          have hle := stepR_le l
          rw [if_neg h1, if_neg h1, ih (l.drop (stepR l).2.1) (by rw [List.length_drop]; omega) k (by rw [List.length_drop]; omega)]
theorem D_nil : D [] = ([], 0, 0) := rfl
theorem D_bad (l : List UInt8) (h0 : l ≠ []) (h : (stepR l).2.2 ≠ 0) : D l = ([], 0, (stepR l).2.2) := by
  unfold D
  obtain ⟨n, hn⟩ : ∃ n, l.length = n + 1 := ⟨l.length - 1, by have := List.length_pos_iff.mpr h0; omega⟩
  rw [hn]
  simp only [decF]
  rw [if_neg h0, if_pos h]
theorem D_go (l : List UInt8) (h0 : l ≠ []) (h : (stepR l).2.2 = 0) :
    D l = ((stepR l).1 ++ (D (l.drop (stepR l).2.1)).1, (stepR l).2.1 + (D (l.drop (stepR l).2.1)).2.1, (D (l.drop (stepR l).2.1)).2.2) := by
  have hp := stepR_pos l h
  have hle := stepR_le l
  obtain ⟨n, hn⟩ : ∃ n, l.length = n + 1 := ⟨l.length - 1, by have := List.length_pos_iff.mpr h0; omega⟩
  have hm := decF_more (l.drop (stepR l).2.1).length (l.drop (stepR l).2.1) (Nat.le_refl _) n (by rw [List.length_drop]; omega)
  show decF l.length l = _
  rw [hn]
  simp only [decF]
  rw [if_neg h0, if_neg (by omega), hm]
  rfl
theorem D_le : ∀ (n : Nat) (l : List UInt8), l.length ≤ n → (D l).2.1 ≤ l.length ∧ ((D l).2.2 = 0 → (D l).2.1 = l.length) ∧ ((D l).2.2 = 0 ∨ (D l).2.2 = 10 ∨ (D l).2.2 = 30) := by
  intro n
  induction n with
  | zero =>
    intro l hl
    have : l = [] := List.length_eq_zero_iff.mp (by omega)
    subst this
    simp [D_nil]
  | succ n ih =>
    intro l hl
    by_cases h0 : l = []
    · subst h0; simp [D_nil]
    · by_cases h : (stepR l).2.2 = 0
      · have hp := stepR_pos l h
        have hle := stepR_le l
        rw [D_go l h0 h]
        have := ih (l.drop (stepR l).2.1) (by rw [List.length_drop]; omega)
        rw [List.length_drop] at this
        simp only
        refine ⟨by omega, fun e => ?_, this.2.2⟩
        have := this.2.1 e
        omega
      · rw [D_bad l h0 h]
        refine ⟨by simp, fun e => absurd e h, ?_⟩
        simp only
        unfold stepR at h ⊢
        split at h
        · exact absurd rfl h
        · rename_i h1
          rw [if_neg h1]
          split at h
          · rename_i h2; rw [if_pos h2]; simp
          · rename_i h2
            rw [if_neg h2]
            split at h
            · rename_i h3; rw [if_pos h3]; simp
            · exact absurd rfl h
def Ok (l : List UInt8) : Prop := (R l).2 = l.length
theorem R_append : ∀ (n : Nat) (a b : List UInt8), a.length ≤ n → Ok a → R (a ++ b) = ((R a).1 + (R b).1, (R a).2 + (R b).2) := by
  intro n
  induction n with
  | zero =>
    intro a b ha _
    have : a = [] := List.length_eq_zero_iff.mp (by omega)
    subst this
    simp [R_nil]
  | succ n ih =>
    intro a b ha hr
    unfold Ok at hr
    by_cases h : (nx a).2 = 0
    · rw [R_stop a h] at hr
      have : a = [] := List.length_eq_zero_iff.mp hr.symm
      subst this
      simp [R_nil]
    · obtain ⟨h0, _, hx, he, h5, h6, h7, _⟩ := nx_good a h
      have hn := nx_append a b h
      have hd : (a ++ b).drop (nx a).2 = a.drop (nx a).2 ++ b := List.drop_append_of_le_length h6
      rw [R_go a h] at hr ⊢
      have := ih (a.drop (nx a).2) b (by rw [List.length_drop]; omega) (by unfold Ok; rw [List.length_drop]; simp only at hr; omega)
      rw [R_go (a ++ b) (by rw [hn]; exact h), hn, hd, this]
      refine Prod.ext ?_ ?_
      · simp only; omega
      · simp only; omega
theorem Ok.append {a b : List UInt8} (ha : Ok a) (hb : Ok b) : Ok (a ++ b) := by
  have := R_append a.length a b (Nat.le_refl _) ha
  unfold Ok at *
  rw [this, List.length_append]
  simp only
  omega
theorem Ok.nil : Ok [] := rfl
theorem cut_known (a b : List UInt8) (h : (59 : UInt8) ∉ a) : cut (a ++ 59 :: b) = some a := by
  induction a with
  | nil => simp [cut]
  | cons c a ih =>
    show cut (c :: (a ++ 59 :: b)) = _
    simp only [cut]
    rw [if_neg (fun e => h (by rw [e]; simp)), ih (fun hx => h (by simp [hx]))]
    rfl
theorem ref_known (nm : List UInt8) (x : List UInt8) (b : List UInt8) (h : (59 : UInt8) ∉ nm) (hn : nameR nm = x) (hx : x ≠ []) : refR (38 :: (nm ++ 59 :: b)) = (x, nm.length + 2) := by
  rw [refR_amp, cut_known nm b h]
  simp only
  rw [hn, if_neg hx]
end Go.Proofs.YtpknhgejnfmijaaGreatDoor.E
end
section
namespace Go.Proofs.YtpknhgejnfmijaaGreatDoor
open Go.RowKit Go.Proofs.YtpknhgejnfmijaaGreatDoorW.PrintWords
structure Glob (w : World) : Prop where
  b0 : w.cell? ⟨0, 0, none⟩ = some (.int .i32 9)
  b1 : w.cell? ⟨0, 1, none⟩ = some (.int .i32 10)
  b2 : w.cell? ⟨0, 2, none⟩ = some (.int .i32 13)
  b3 : w.cell? ⟨0, 3, none⟩ = some (.int .i32 13)
  b4 : w.cell? ⟨0, 4, none⟩ = some (.int .i32 32)
  b5 : w.cell? ⟨0, 5, none⟩ = some (.int .i32 55295)
  b6 : w.cell? ⟨0, 6, none⟩ = some (.int .i32 57344)
  b7 : w.cell? ⟨0, 7, none⟩ = some (.int .i32 65533)
  b8 : w.cell? ⟨0, 8, none⟩ = some (.int .i32 65536)
  b9 : w.cell? ⟨0, 9, none⟩ = some (.int .i32 1114111)
  syn : ∃ a, w.cell? ⟨4, 0, none⟩ = some (.iface 162 (.pointer (some a)))
  ml : ∃ m, w.cell? ⟨1, 0, none⟩ = some (.int .i64 m)
theorem Glob.of_below {w W : World} (h : Glob w) (hb : Below w.heap.size w W) : Glob W :=
  ⟨pw_cell_below hb h.b0, pw_cell_below hb h.b1, pw_cell_below hb h.b2, pw_cell_below hb h.b3, pw_cell_below hb h.b4, pw_cell_below hb h.b5, pw_cell_below hb h.b6, pw_cell_below hb h.b7, pw_cell_below hb h.b8, pw_cell_below hb h.b9, (let ⟨a, ha⟩ := h.syn; ⟨a, pw_cell_below hb ha⟩), let ⟨m, hm⟩ := h.ml; ⟨m, pw_cell_below hb hm⟩⟩
end Go.Proofs.YtpknhgejnfmijaaGreatDoor
end
section
namespace Go.Proofs.YtpknhgejnfmijaaGreatDoor.X
open Go.RowKit Go.Proofs.YtpknhgejnfmijaaGreatDoorW.PrintWords
set_option linter.unusedVariables false
set_option linter.unusedSimpArgs false
def isI (c : Int) : Bool := decide (9 ≤ c ∧ c ≤ 10) || decide (c = 13) || decide (32 ≤ c ∧ c ≤ 55295) || decide (57344 ≤ c ∧ c ≤ 65533) || decide (65536 ≤ c ∧ c ≤ 1114111)
def noneTill : Nat → Int → Prop
  | 0, _ => True
  | 1, c => ¬ (9 ≤ c ∧ c ≤ 10)
  | 2, c => ¬ (9 ≤ c ∧ c ≤ 10) ∧ ¬ c = 13
  | 3, c => ¬ (9 ≤ c ∧ c ≤ 10) ∧ ¬ c = 13 ∧ ¬ (32 ≤ c ∧ c ≤ 55295)
  | 4, c => ¬ (9 ≤ c ∧ c ≤ 10) ∧ ¬ c = 13 ∧ ¬ (32 ≤ c ∧ c ≤ 55295) ∧ ¬ (57344 ≤ c ∧ c ≤ 65533)
  | _, c => isI c = false
def utf_is.f (a0 : Int) : Option Bool := some (isI a0)
theorem idx0 (w : World) : (Instr.index 135 (.agg #[.int .i32 9, .int .i32 10, .int .i32 13, .int .i32 13, .int .i32 32, .int .i32 55295, .int .i32 57344, .int .i32 65533, .int .i32 65536, .int .i32 1114111]) (.int .i64 0)).run Tryz.prog w = .ok (.agg #[.int .i32 9, .int .i32 10]) w := by kernel_rfl
theorem idx1 (w : World) : (Instr.index 135 (.agg #[.int .i32 9, .int .i32 10, .int .i32 13, .int .i32 13, .int .i32 32, .int .i32 55295, .int .i32 57344, .int .i32 65533, .int .i32 65536, .int .i32 1114111]) (.int .i64 1)).run Tryz.prog w = .ok (.agg #[.int .i32 13, .int .i32 13]) w := by kernel_rfl
theorem idx2 (w : World) : (Instr.index 135 (.agg #[.int .i32 9, .int .i32 10, .int .i32 13, .int .i32 13, .int .i32 32, .int .i32 55295, .int .i32 57344, .int .i32 65533, .int .i32 65536, .int .i32 1114111]) (.int .i64 2)).run Tryz.prog w = .ok (.agg #[.int .i32 32, .int .i32 55295]) w := by kernel_rfl
theorem idx3 (w : World) : (Instr.index 135 (.agg #[.int .i32 9, .int .i32 10, .int .i32 13, .int .i32 13, .int .i32 32, .int .i32 55295, .int .i32 57344, .int .i32 65533, .int .i32 65536, .int .i32 1114111]) (.int .i64 3)).run Tryz.prog w = .ok (.agg #[.int .i32 57344, .int .i32 65533]) w := by kernel_rfl
theorem idx4 (w : World) : (Instr.index 135 (.agg #[.int .i32 9, .int .i32 10, .int .i32 13, .int .i32 13, .int .i32 32, .int .i32 55295, .int .i32 57344, .int .i32 65533, .int .i32 65536, .int .i32 1114111]) (.int .i64 4)).run Tryz.prog w = .ok (.agg #[.int .i32 65536, .int .i32 1114111]) w := by kernel_rfl
set_option maxHeartbeats 1000000 in
set_option maxRecDepth 100000 in
theorem utf_is.calls (a0 : Int) (r : Bool) (w : World) (hG : Glob w) (h : utf_is.f a0 = some r) :
    Calls Tryz.prog 75 #[.int .i32 a0] w fun e w' => e = .returned (.bool r) ∧ Below w.heap.size w w' := by
  obtain rfl := Option.some.inj h
  clear h
  have b0 := hG.b0
  have b1 := hG.b1
  have b2 := hG.b2
  have b3 := hG.b3
  have b4 := hG.b4
  have b5 := hG.b5
  have b6 := hG.b6
  have b7 := hG.b7
  have b8 := hG.b8
  have b9 := hG.b9
  go_enter Tryz.func75, Tryz.ntmps75
  go_wp2
  have hno : ∀ k : Nat, k ≤ 5 → noneTill k a0 ∨ True := fun _ _ => .inr trivial
  clear hno
  go_loopw [6] (fun i wr => ∃ k : Nat, k ≤ 5 ∧ i = .int .i64 k ∧ Below w.heap.size w wr ∧ noneTill k a0) (fun i _ => 5 - (intOf i).toNat)
  case atStart => exact ⟨0, by omega, rfl, Below.refl _ _, trivial⟩
  case round =>
    obtain ⟨k, hk, rfl, hb, hn⟩ := hrel
    have hz := hb.size
    match k, hk, hn with
    | 0, _, hn =>
      have hi := fun W => idx0 W
      simp only [Int.natCast_zero] at *
      by_cases h1 : 9 ≤ a0
      · have g1 : decide (9 ≤ a0) = true := decide_eq_true h1
        by_cases h2 : a0 ≤ 10
        · have g2 : decide (a0 ≤ 10) = true := decide_eq_true h2
          have HR : Hid (isI a0 = true) := by show isI a0 = true; simp [isI]; omega
          go_wp2
          go_ret
          rw [HR.out]
          exact ⟨rfl, hb.alloc hz _⟩
        · have g2 : decide (a0 ≤ 10) = false := decide_eq_false h2
          have HR : Hid (noneTill 1 a0) := by show noneTill 1 a0; simp only [noneTill, isI] at hn ⊢; first | omega | (simp; omega)
          clear hn
          go_wp2
          refine ⟨⟨1, by omega, rfl, hb.alloc hz _, HR.out⟩, by simp [intOf]⟩
      · have g1 : decide (9 ≤ a0) = false := decide_eq_false h1
        have HR : Hid (noneTill 1 a0) := by show noneTill 1 a0; simp only [noneTill, isI] at hn ⊢; first | omega | (simp; omega)
        clear hn
        go_wp2
        refine ⟨⟨1, by omega, rfl, hb.alloc hz _, HR.out⟩, by simp [intOf]⟩
    | 1, _, hn =>
      have hi := fun W => idx1 W
      simp only [Int.natCast_one] at *
      by_cases h1 : 13 ≤ a0
      · have g1 : decide (13 ≤ a0) = true := decide_eq_true h1
        by_cases h2 : a0 ≤ 13
        · have g2 : decide (a0 ≤ 13) = true := decide_eq_true h2
          have HR : Hid (isI a0 = true) := by show isI a0 = true; simp [isI]; omega
          go_wp2
          go_ret
          rw [HR.out]
          exact ⟨rfl, hb.alloc hz _⟩
        · have g2 : decide (a0 ≤ 13) = false := decide_eq_false h2
          have HR : Hid (noneTill 2 a0) := by show noneTill 2 a0; simp only [noneTill, isI] at hn ⊢; first | omega | (simp; omega)
          clear hn
          go_wp2
          refine ⟨⟨2, by omega, rfl, hb.alloc hz _, HR.out⟩, by simp [intOf]⟩
      · have g1 : decide (13 ≤ a0) = false := decide_eq_false h1
        have HR : Hid (noneTill 2 a0) := by show noneTill 2 a0; simp only [noneTill, isI] at hn ⊢; first | omega | (simp; omega)
        clear hn
        go_wp2
        refine ⟨⟨2, by omega, rfl, hb.alloc hz _, HR.out⟩, by simp [intOf]⟩
    | 2, _, hn =>
      have hi := fun W => idx2 W
      simp only [Int.cast_ofNat_Int] at *
      by_cases h1 : 32 ≤ a0
      · have g1 : decide (32 ≤ a0) = true := decide_eq_true h1
        by_cases h2 : a0 ≤ 55295
        · have g2 : decide (a0 ≤ 55295) = true := decide_eq_true h2
          have HR : Hid (isI a0 = true) := by show isI a0 = true; simp [isI]; omega
          go_wp2
          go_ret
          rw [HR.out]
          exact ⟨rfl, hb.alloc hz _⟩
        · have g2 : decide (a0 ≤ 55295) = false := decide_eq_false h2
          have HR : Hid (noneTill 3 a0) := by show noneTill 3 a0; simp only [noneTill, isI] at hn ⊢; first | omega | (simp; omega)
          clear hn
          go_wp2
          refine ⟨⟨3, by omega, rfl, hb.alloc hz _, HR.out⟩, by simp [intOf]⟩
      · have g1 : decide (32 ≤ a0) = false := decide_eq_false h1
        have HR : Hid (noneTill 3 a0) := by show noneTill 3 a0; simp only [noneTill, isI] at hn ⊢; first | omega | (simp; omega)
        clear hn
        go_wp2
        refine ⟨⟨3, by omega, rfl, hb.alloc hz _, HR.out⟩, by simp [intOf]⟩
    | 3, _, hn =>
      have hi := fun W => idx3 W
      simp only [Int.cast_ofNat_Int] at *
      by_cases h1 : 57344 ≤ a0
      · have g1 : decide (57344 ≤ a0) = true := decide_eq_true h1
        by_cases h2 : a0 ≤ 65533
        · have g2 : decide (a0 ≤ 65533) = true := decide_eq_true h2
          have HR : Hid (isI a0 = true) := by show isI a0 = true; simp [isI]; omega
          go_wp2
          go_ret
          rw [HR.out]
          exact ⟨rfl, hb.alloc hz _⟩
        · have g2 : decide (a0 ≤ 65533) = false := decide_eq_false h2
          have HR : Hid (noneTill 4 a0) := by show noneTill 4 a0; simp only [noneTill, isI] at hn ⊢; first | omega | (simp; omega)
          clear hn
          go_wp2
          refine ⟨⟨4, by omega, rfl, hb.alloc hz _, HR.out⟩, by simp [intOf]⟩
      · have g1 : decide (57344 ≤ a0) = false := decide_eq_false h1
        have HR : Hid (noneTill 4 a0) := by show noneTill 4 a0; simp only [noneTill, isI] at hn ⊢; first | omega | (simp; omega)
        clear hn
        go_wp2
        refine ⟨⟨4, by omega, rfl, hb.alloc hz _, HR.out⟩, by simp [intOf]⟩
    | 4, _, hn =>
      have hi := fun W => idx4 W
      simp only [Int.cast_ofNat_Int] at *
      by_cases h1 : 65536 ≤ a0
      · have g1 : decide (65536 ≤ a0) = true := decide_eq_true h1
        by_cases h2 : a0 ≤ 1114111
        · have g2 : decide (a0 ≤ 1114111) = true := decide_eq_true h2
          have HR : Hid (isI a0 = true) := by show isI a0 = true; simp [isI]; omega
          go_wp2
          go_ret
          rw [HR.out]
          exact ⟨rfl, hb.alloc hz _⟩
        · have g2 : decide (a0 ≤ 1114111) = false := decide_eq_false h2
          have HR : Hid (noneTill 5 a0) := by show noneTill 5 a0; simp only [noneTill, isI] at hn ⊢; first | omega | (simp; omega)
          clear hn
          go_wp2
          refine ⟨⟨5, by omega, rfl, hb.alloc hz _, HR.out⟩, by simp [intOf]⟩
      · have g1 : decide (65536 ≤ a0) = false := decide_eq_false h1
        have HR : Hid (noneTill 5 a0) := by show noneTill 5 a0; simp only [noneTill, isI] at hn ⊢; first | omega | (simp; omega)
        clear hn
        go_wp2
        refine ⟨⟨5, by omega, rfl, hb.alloc hz _, HR.out⟩, by simp [intOf]⟩
    | 5, _, hn =>
      have HR : Hid (isI a0 = false) := hn
      clear hn
      simp only [Int.cast_ofNat_Int] at *
      go_wp2
      go_ret
      rw [HR.out]
      exact ⟨rfl, hb⟩
end Go.Proofs.YtpknhgejnfmijaaGreatDoor.X
end
section
namespace Go.Proofs.YtpknhgejnfmijaaGreatDoor.X
open Go.RowKit Go.Proofs.YtpknhgejnfmijaaGreatDoorW.PrintWords
set_option linter.unusedVariables false
set_option linter.unusedSimpArgs false
def utf_Put.f (a0 : Int) : Option ByteArray := some (if isI a0 = true then Utf8.encode a0 else ⟨#[]⟩)
set_option maxHeartbeats 1000000 in
set_option maxRecDepth 100000 in
theorem utf_Put.calls (a0 : Int) (r : ByteArray) (w : World) (hG : Glob w) (h : utf_Put.f a0 = some r) :
    Calls Tryz.prog 56 #[.int .i32 a0] w fun e w' => e = .returned (.string r) ∧ Below w.heap.size w w' := by
  obtain rfl := Option.some.inj h
  clear h
  have ci := utf_is.calls a0 (isI a0) w hG rfl
  have CI := Lib.hid ci
  clear ci
  by_cases hi : isI a0 = true
  · have hi2 : isI a0 = true := hi
    go_enter Tryz.func56, Tryz.ntmps56
    go_wp2_with (go_at_call 75; refine CI.out.mono ?_; rintro e w' ⟨rfl, hb⟩)
    go_ret
    exact ⟨by simp [hi], hb⟩
  · have hi2 : isI a0 = false := by simpa using hi
    go_enter Tryz.func56, Tryz.ntmps56
    go_wp2_with (go_at_call 75; refine CI.out.mono ?_; rintro e w' ⟨rfl, hb⟩)
    go_ret
    exact ⟨by simp [hi2], hb⟩
end Go.Proofs.YtpknhgejnfmijaaGreatDoor.X
end
section
namespace Go.Proofs.YtpknhgejnfmijaaGreatDoor.X
open Go.RowKit Go.Proofs.YtpknhgejnfmijaaGreatDoorW.PrintWords
set_option linter.unusedVariables false
set_option linter.unusedSimpArgs false
def eachN : Nat → List UInt8 → Int → Int → Int → Int → Int × Int × Int
  | 0, _, _, c, n, b => (c, n, b)
  | k + 1, l, m, c, n, b => if n = m ∨ (U.nx l).2 = 0 then (c, n, b) else eachN k (l.drop (U.nx l).2) m (U.nx l).1 (n + 1) (b + (U.nx l).2)
def utf_each.f (a0 : ByteArray) (a1 : Int) : Option (Int × Int × Int) :=
  if a0.size ≤ 140737488351232 then some (eachN (a0.size + 1) a0.data.toList a1 0 0 0) else none
theorem isI_nat (c : Nat) : isI (c : Int) = U.isx c := by
  rw [Bool.eq_iff_iff, U.isx_iff]
  simp only [isI, Bool.or_eq_true, decide_eq_true_eq]
  omega
theorem eachN_stop (k : Nat) (l : List UInt8) (m c n b : Int) (h : n = m ∨ (U.nx l).2 = 0) : eachN (k + 1) l m c n b = (c, n, b) := by
  simp only [eachN]
  rw [if_pos h]
theorem eachN_go (k : Nat) (l : List UInt8) (m c n b : Int) (h1 : ¬ n = m) (h2 : (U.nx l).2 ≠ 0) :
    eachN (k + 1) l m c n b = eachN k (l.drop (U.nx l).2) m (U.nx l).1 (n + 1) (b + (U.nx l).2) := by
  simp only [eachN]
  rw [if_neg (by intro h; rcases h with h | h <;> contradiction)]
set_option maxHeartbeats 1000000 in
set_option maxRecDepth 100000 in
theorem utf_each.calls (a0 : ByteArray) (a1 : Int) (r1 r2 r3 : Int) (w : World) (hG : Glob w) (h : utf_each.f a0 a1 = some (r1, r2, r3)) :
    Calls Tryz.prog 35 #[.string a0, .int .i64 a1] w fun e w' => e = .returned (.tuple #[.int .i32 r1, .int .i64 r2, .int .i64 r3]) ∧ Below w.heap.size w w' := by
  unfold utf_each.f at h
  split at h
  rotate_left
  · cases h
  rename_i hs
  have HE : Hid (eachN (a0.size + 1) a0.data.toList a1 0 0 0 = (r1, r2, r3)) := Option.some.inj h
  clear h
  go_enter Tryz.func35, Tryz.ntmps35
  go_wp2
  go_loopw [4, 5, 6] (fun c n b wr => ∃ (pos k : Nat) (c' n' : Int), c = .int .i32 c' ∧ n = .int .i64 n' ∧ b = .int .i64 (pos : Int) ∧ 0 ≤ n' ∧ n' ≤ pos ∧ pos ≤ a0.size ∧ a0.size < pos + k ∧
      wr.heap[w.heap.size]? = some (.stringIter a0 pos) ∧ Below w.heap.size w wr ∧ Hid (eachN k (a0.data.toList.drop pos) a1 c' n' pos = (r1, r2, r3))) (fun _ _ b _ => a0.size - (intOf b).toNat)
  case atStart =>
    refine ⟨0, a0.size + 1, 0, 0, rfl, rfl, rfl, by omega, by omega, by omega, by omega, ?_, (Below.refl _ w).alloc (Nat.le_refl _) _, HE⟩
    have := World.iter_heap w a0 0
    simpa using this
  case round =>
    obtain ⟨pos, k, c', n', rfl, rfl, rfl, hn0, hn1, hpos, hk, hit, hbw, HR⟩ := hrel
    clear HE
    have hsz : w.heap.size < wr.heap.size := (Array.getElem?_eq_some_iff.1 hit).1
    by_cases hp : pos < a0.size
    · obtain ⟨k, rfl⟩ : ∃ m, k = m + 1 := ⟨k - 1, by omega⟩
      have hnx : ∀ ty, (Instr.next (.pointer (some ⟨w.heap.size, 0, none⟩)) true ty).run Tryz.prog wr = _ := fun ty => Lib.run_next_any_at wr w.heap.size a0 pos ty hit hp
      have hit2 := Lib.iterAt_heap wr w.heap.size a0 pos (pos + (Utf8.decode a0 pos).2) hit
      have hbw2 := Lib.below_iterAt hbw (k := w.heap.size) (by omega) a0 (pos + (Utf8.decode a0 pos).2)
      have hsz2 : w.heap.size < (wr.iterAt w.heap.size a0 (pos + (Utf8.decode a0 pos).2)).heap.size := by rw [Lib.iterAt_size]; omega
      have HG := Lib.hid (hG.of_below hbw2)
      have hst : n' = a1 ∨ (U.nx (a0.data.toList.drop pos)).2 = 0 → (c', n', (pos : Int)) = (r1, r2, r3) := fun hh => (eachN_stop k _ a1 c' n' pos hh).symm.trans HR.out
      have HST := Lib.hid hst
      clear hst
      have hd := U.decode_dec a0 pos
      have HD := Lib.hid hd
      clear hd
      by_cases hm : n' = a1
      · obtain ⟨rfl, rfl, rfl⟩ : c' = r1 ∧ n' = r2 ∧ (pos : Int) = r3 := by have := HST.out (.inl hm); simpa using this
        subst hm
        go_wp2
        go_ret3
        exact ⟨rfl, hbw2⟩
      · have hmb : (n' == a1) = false := by simpa using hm
        have HM := Lib.hid hm
        clear hm
        obtain ⟨x, hx⟩ : ∃ x, x = (Utf8.decode a0 pos).1 := ⟨_, rfl⟩
        have HX := Lib.hid hx
        by_cases hi : U.isx x = true
        · obtain ⟨wv, hwv⟩ : ∃ wv : ByteArray, wv = ⟨(U.enc x).toArray⟩ := ⟨_, rfl⟩
          have HP : Hid (utf_Put.f (x : Int) = some wv) := by show utf_Put.f (x : Int) = some wv; rw [utf_Put.f, isI_nat, if_pos hi, U.encode_of x hi, hwv]
          have CP := Lib.hid (utf_Put.calls x wv _ HG.out HP.out)
          rw [← hx] at hnx
          clear hx
          have HW := Lib.hid hwv
          clear hwv
          have hne : ¬ wv.toList = [] := by
            have := U.enc_pos x
            intro e
            rw [HW.out, ByteArray.toList_mk] at e
            rw [e] at this
            simp at this
          have hs4 : wv.size ≤ 4 := by
            have := U.enc_length x
            rw [HW.out]
            show (U.enc x).toArray.size ≤ 4
            rw [List.size_toArray, this]
            repeat' split
            all_goals omega
          have HXI := Lib.hid hi
          have hxd : x = (U.dec (a0.data.toList.drop pos)).1 := by rw [HX.out, HD.out]
          have HXD := Lib.hid hxd
          clear hxd hi
          have hnil : a0.data.toList.drop pos ≠ [] := by
            intro e
            have := congrArg List.length e
            simp at this
            omega
          have HNIL := Lib.hid hnil
          clear hnil
          by_cases hl : (wv.size : Int) ≤ (a0.size : Int) - (pos : Int)
          · obtain ⟨u, hu⟩ : ∃ u, u = a0.extract pos (pos + wv.size) := ⟨_, rfl⟩
            have hsl : ∀ W : World, (Instr.slice 9 (.string a0) (some (.int .i64 (pos : Int))) (some (.int .i64 ((pos : Int) + (wv.size : Int)))) none).run Tryz.prog W = .ok (.string u) W := fun W => by
              rw [run_slice_string W 9 a0 .i64 .i64 _ _ Tryz.underlying9 (by omega) (by omega) (by omega), hu]
              congr 3
            have hul : u.data.toList = (a0.data.toList.drop pos).take wv.size := by rw [hu, ByteArray.data_extract]; simp
            have HU := Lib.hid hul
            clear hul hu
            by_cases heq : u = wv
            · have HQ : Hid ((U.nx (a0.data.toList.drop pos)).2 ≠ 0) := by
                show (U.nx (a0.data.toList.drop pos)).2 ≠ 0
                rw [← U.step_iff _ HNIL.out, ← HXD.out]
                refine ⟨HXI.out, ?_⟩
                have e1 := HU.out
                rw [heq, HW.out] at e1
                have e2 : (U.enc x).toArray.size = (U.enc x).length := by simp
                have e3 : (ByteArray.mk (U.enc x).toArray).size = (U.enc x).length := e2
                rw [e3] at e1
                exact e1.symm
              subst heq
              have HN := Lib.hid (U.nx_good _ HQ.out)
              have HGO := Lib.hid (eachN_go k _ a1 c' n' pos HM.out HQ.out)
              have hwn : u.size = (U.nx (a0.data.toList.drop pos)).2 := by
                obtain ⟨_, hdn, _, _, h5, _⟩ := HN.out
                have e3 : u.size = (U.enc x).length := by rw [HW.out]; show (U.enc x).toArray.size = _; simp
                rw [e3, h5, HXD.out, hdn]
              have HWN := Lib.hid hwn
              clear hwn
              have hxn : (x : Int) = ((U.nx (a0.data.toList.drop pos)).1 : Int) := by
                obtain ⟨_, hdn, _⟩ := HN.out
                rw [HXD.out, hdn]
              have HXN := Lib.hid hxn
              clear hxn
              have hdw : (Utf8.decode a0 pos).2 = u.size := by
                obtain ⟨_, hdn, _⟩ := HN.out
                rw [HD.out, hdn, HWN.out]
              have HDW := Lib.hid hdw
              clear hdw
              have hdec : decide ((a0.size : Int) - (pos : Int) < (u.size : Int)) = false := decide_eq_false (by omega)
              have hemp : u.toList.isEmpty = false := by
                cases hh : u.toList with
                | nil => exact absurd hh hne
                | cons a b => rfl
              go_wp2_with (go_at_call 56; refine CP.out.mono ?_; rintro e w1 ⟨rfl, hb1⟩)
              have hit3 : w1.heap[w.heap.size]? = some (.stringIter a0 (pos + u.size)) := by
                rw [hb1.block _ hsz2, hit2, HDW.out]
              have hbw3 := hbw2.trans (hb1.mono (Nat.le_of_lt hsz2))
              have HR2 : Hid (eachN k (a0.data.toList.drop (pos + u.size)) a1 (x : Int) (n' + 1) ((pos : Int) + (u.size : Int)) = (r1, r2, r3)) := by
                show eachN k (a0.data.toList.drop (pos + u.size)) a1 (x : Int) (n' + 1) ((pos : Int) + (u.size : Int)) = (r1, r2, r3)
                rw [← HR.out, HGO.out, HXN.out, HWN.out, List.drop_drop]
              have hup : 1 ≤ u.size := by rw [HWN.out]; exact HN.out.2.2.2.2.2.2.1
              refine ⟨⟨pos + u.size, k, (x : Int), n' + 1, rfl, rfl, by go_num, by omega, by omega, by omega, by omega, hit3, hbw3, HR2⟩, ?_⟩
              simp only [intOf]
              omega
            · have HQ : Hid ((U.nx (a0.data.toList.drop pos)).2 = 0) := by
                show (U.nx (a0.data.toList.drop pos)).2 = 0
                by_cases h0 : (U.nx (a0.data.toList.drop pos)).2 = 0
                · exact h0
                · exfalso
                  rw [← Ne, ← U.step_iff _ HNIL.out, ← HXD.out] at h0
                  apply heq
                  have e1 := HU.out
                  have e3 : wv.size = (U.enc x).length := by rw [HW.out]; show (U.enc x).toArray.size = _; simp
                  rw [e3, h0.2] at e1
                  rw [HW.out, ← e1]
              have hne2 : (u.toList == wv.toList) = false := by
                rw [beq_eq_false_iff_ne, ByteArray.toList_eq, ByteArray.toList_eq]
                intro e
                apply heq
                obtain ⟨⟨l1⟩⟩ := u
                obtain ⟨⟨l2⟩⟩ := wv
                simpa using e
              obtain ⟨rfl, rfl, rfl⟩ : c' = r1 ∧ n' = r2 ∧ (pos : Int) = r3 := by have := HST.out (.inr HQ.out); simpa using this
              clear heq
              go_wp2_with (go_at_call 56; refine CP.out.mono ?_; rintro e w1 ⟨rfl, hb1⟩)
              go_ret3
              exact ⟨rfl, hbw2.trans (hb1.mono (Nat.le_of_lt hsz2))⟩
          · have HQ : Hid ((U.nx (a0.data.toList.drop pos)).2 = 0) := by
              show (U.nx (a0.data.toList.drop pos)).2 = 0
              by_cases h0 : (U.nx (a0.data.toList.drop pos)).2 = 0
              · exact h0
              · exfalso
                rw [← Ne, ← U.step_iff _ HNIL.out, ← HXD.out] at h0
                have e1 := congrArg List.length h0.2
                have e3 : wv.size = (U.enc x).length := by rw [HW.out]; show (U.enc x).toArray.size = _; simp
                rw [List.length_take, List.length_drop, ← e3] at e1
                simp only [Array.length_toList] at e1
                have e4 : a0.data.size = a0.size := rfl
                omega
            obtain ⟨rfl, rfl, rfl⟩ : c' = r1 ∧ n' = r2 ∧ (pos : Int) = r3 := by have := HST.out (.inr HQ.out); simpa using this
            go_wp2_with (go_at_call 56; refine CP.out.mono ?_; rintro e w1 ⟨rfl, hb1⟩)
            go_ret3
            exact ⟨rfl, hbw2.trans (hb1.mono (Nat.le_of_lt hsz2))⟩
        · have HXI : Hid (U.isx x = false) := by show U.isx x = false; simpa using hi
          have HP : Hid (utf_Put.f (x : Int) = some ⟨#[]⟩) := by show utf_Put.f (x : Int) = some ⟨#[]⟩; rw [utf_Put.f, isI_nat, if_neg hi]
          have CP := Lib.hid (utf_Put.calls x ⟨#[]⟩ _ HG.out HP.out)
          have HQ : Hid ((U.nx (a0.data.toList.drop pos)).2 = 0) := by
            show (U.nx (a0.data.toList.drop pos)).2 = 0
            have hxd : x = (U.dec (a0.data.toList.drop pos)).1 := by rw [HX.out, HD.out]
            unfold U.nx
            split
            · rfl
            · rw [if_neg]
              intro hh
              rw [← hxd, HXI.out] at hh
              exact absurd hh.1 (by simp)
          obtain ⟨rfl, rfl, rfl⟩ : c' = r1 ∧ n' = r2 ∧ (pos : Int) = r3 := by have := HST.out (.inr HQ.out); simpa using this
          rw [← hx] at hnx
          clear hx hi
          go_wp2_with (go_at_call 56; refine CP.out.mono ?_; rintro e w1 ⟨rfl, hb1⟩)
          go_ret3
          exact ⟨rfl, hbw2.trans (hb1.mono (Nat.le_of_lt hsz2))⟩
    · have hnx : ∀ ty, (Instr.next (.pointer (some ⟨w.heap.size, 0, none⟩)) true ty).run Tryz.prog wr = _ := fun ty => Lib.run_next_end_at wr w.heap.size a0 pos ty hit hp
      obtain ⟨k, rfl⟩ : ∃ m, k = m + 1 := ⟨k - 1, by omega⟩
      have hst : (c', n', (pos : Int)) = (r1, r2, r3) := (eachN_stop k _ a1 c' n' pos (.inr (by rw [List.drop_of_length_le (by simp; omega)]; rfl))).symm.trans HR.out
      obtain ⟨rfl, rfl, rfl⟩ : c' = r1 ∧ n' = r2 ∧ (pos : Int) = r3 := by simpa using hst
      clear hst
      go_wp2
      go_ret3
      exact ⟨rfl, hbw⟩
end Go.Proofs.YtpknhgejnfmijaaGreatDoor.X
end
section
namespace Go.Proofs
open Go.Shelf
def Tryz.lays169_ren : Go.Shelf.Ren := ⟨fun | 169 => 67 | n => n, fun | 70 => 111 | 9 => 9 | 0 => 0 | 72 => 113 | 37 => 51 | 127 => 132 | 3 => 3 | 5 => 5 | n => n, fun | n => n⟩
theorem Tryz.lays169 : Go.Proofs.Lays.n169 Tryz.prog Tryz.lays169_ren := {
  mixed := by kernel_rfl
  f169 := Tryz.func67.trans (congrArg some (by kernel_rfl))
  t0 := Tryz.underlying0
  a0 := Tryz.isAgg0
  z0 := Tryz.sizeOf0
  v0 := Tryz.zeroValue0
  t3 := Tryz.underlying3
  a3 := Tryz.isAgg3
  z3 := Tryz.sizeOf3
  v3 := Tryz.zeroValue3
  t9 := Tryz.underlying9
  a9 := Tryz.isAgg9
  z9 := Tryz.sizeOf9
  v9 := Tryz.zeroValue9
  t37 := Tryz.underlying51
  a37 := Tryz.isAgg51
  z37 := Tryz.sizeOf51
  v37 := Tryz.zeroValue51
  t70 := Tryz.underlying111
  a70 := Tryz.isAgg111
  z70 := Tryz.sizeOf111
  v70 := Tryz.zeroValue111
  t72 := Tryz.underlying113
  a72 := Tryz.isAgg113
  z72 := Tryz.sizeOf113
  v72 := Tryz.zeroValue113
  t127 := Tryz.underlying132
  a127 := Tryz.isAgg132
  z127 := Tryz.sizeOf132
  v127 := Tryz.zeroValue132 }
theorem Tryz.Builder_Extra_169 : Builder.Extra Tryz.prog Tryz.lays169_ren := {
  sizeBuilder := by kernel_rfl
  liesBuilder := by kernel_rfl
  t5 := Tryz.underlying5
  a5 := Tryz.isAgg5
  z5 := Tryz.sizeOf5
  v5 := Tryz.zeroValue5
  infoByte := by kernel_rfl
  cellsByte := by kernel_rfl
  sizeByte := by kernel_rfl
  neB5 := by decide }
def Tryz.lays161_ren : Go.Shelf.Ren := ⟨fun | 161 => 79 | 231 => 43 | 227 => 45 | 233 => 46 | 235 => 48 | 228 => 68 | 197 => 69 | 151 => 70 | 260 => 86 | 152 => 87 | 137 => 41 | 119 => 97 | 224 => 90 | 225 => 89 | 217 => 63 | 266 => 81 | n => n, fun | 9 => 9 | 4 => 4 | 3 => 3 | 5 => 5 | 117 => 98 | 116 => 97 | 0 => 0 | 124 => 101 | 105 => 120 | 21 => 21 | 119 => 142 | 46 => 137 | 139 => 145 | 138 => 144 | n => n, fun | 3 => 2 | 4 => 3 | n => n⟩
theorem Tryz.lays161 : Go.Proofs.Lays.n161 Tryz.prog Tryz.lays161_ren := {
  mixed := by kernel_rfl
  f119 := Tryz.func97.trans (congrArg some (by kernel_rfl))
  f137 := Tryz.func41.trans (congrArg some (by kernel_rfl))
  f151 := Tryz.func70.trans (congrArg some (by kernel_rfl))
  f152 := Tryz.func87.trans (congrArg some (by kernel_rfl))
  f161 := Tryz.func79.trans (congrArg some (by kernel_rfl))
  f197 := Tryz.func69.trans (congrArg some (by kernel_rfl))
  f217 := Tryz.func63.trans (congrArg some (by kernel_rfl))
  f224 := Tryz.func90.trans (congrArg some (by kernel_rfl))
  f225 := Tryz.func89.trans (congrArg some (by kernel_rfl))
  f227 := Tryz.func45.trans (congrArg some (by kernel_rfl))
  f228 := Tryz.func68.trans (congrArg some (by kernel_rfl))
  f231 := Tryz.func43.trans (congrArg some (by kernel_rfl))
  f233 := Tryz.func46.trans (congrArg some (by kernel_rfl))
  f235 := Tryz.func48.trans (congrArg some (by kernel_rfl))
  f260 := Tryz.func86.trans (congrArg some (by kernel_rfl))
  f266 := Tryz.func81.trans (congrArg some (by kernel_rfl))
  t0 := Tryz.underlying0
  a0 := Tryz.isAgg0
  z0 := Tryz.sizeOf0
  v0 := Tryz.zeroValue0
  t3 := Tryz.underlying3
  a3 := Tryz.isAgg3
  z3 := Tryz.sizeOf3
  v3 := Tryz.zeroValue3
  t4 := Tryz.underlying4
  a4 := Tryz.isAgg4
  z4 := Tryz.sizeOf4
  v4 := Tryz.zeroValue4
  t5 := Tryz.underlying5
  a5 := Tryz.isAgg5
  z5 := Tryz.sizeOf5
  v5 := Tryz.zeroValue5
  t9 := Tryz.underlying9
  a9 := Tryz.isAgg9
  z9 := Tryz.sizeOf9
  v9 := Tryz.zeroValue9
  t21 := Tryz.underlying21
  a21 := Tryz.isAgg21
  z21 := Tryz.sizeOf21
  v21 := Tryz.zeroValue21
  t46 := Tryz.underlying137
  a46 := Tryz.isAgg137
  z46 := Tryz.sizeOf137
  v46 := Tryz.zeroValue137
  t105 := Tryz.underlying120
  a105 := Tryz.isAgg120
  z105 := Tryz.sizeOf120
  v105 := Tryz.zeroValue120
  t116 := Tryz.underlying97
  a116 := Tryz.isAgg97
  z116 := Tryz.sizeOf97
  t117 := Tryz.underlying98
  a117 := Tryz.isAgg98
  z117 := Tryz.sizeOf98
  v117 := Tryz.zeroValue98
  t119 := Tryz.underlying142
  a119 := Tryz.isAgg142
  z119 := Tryz.sizeOf142
  t124 := Tryz.underlying101
  a124 := Tryz.isAgg101
  z124 := Tryz.sizeOf101
  v124 := Tryz.zeroValue101
  t138 := Tryz.underlying144
  a138 := Tryz.isAgg144
  z138 := Tryz.sizeOf144
  v138 := Tryz.zeroValue144
  t139 := Tryz.underlying145
  a139 := Tryz.isAgg145
  z139 := Tryz.sizeOf145
  v139 := Tryz.zeroValue145
  g3 := by kernel_rfl
  g4 := by kernel_rfl }
def Tryz.lays160_ren : Go.Shelf.Ren := ⟨fun | 160 => 25 | 232 => 44 | 231 => 43 | 227 => 45 | 234 => 47 | 233 => 46 | 236 => 49 | 235 => 48 | 228 => 68 | 271 => 71 | 151 => 70 | 197 => 69 | 120 => 88 | 152 => 87 | 260 => 86 | 137 => 41 | 119 => 97 | 224 => 90 | 225 => 89 | 217 => 63 | 266 => 81 | n => n, fun | 9 => 9 | 4 => 4 | 3 => 3 | 5 => 5 | 117 => 98 | 116 => 97 | 0 => 0 | 124 => 101 | 21 => 21 | 105 => 120 | 46 => 137 | 119 => 142 | 139 => 145 | 138 => 144 | n => n, fun | 3 => 2 | 4 => 3 | n => n⟩
theorem Tryz.lays160 : Go.Proofs.Lays.n160 Tryz.prog Tryz.lays160_ren := {
  mixed := by kernel_rfl
  f119 := Tryz.func97.trans (congrArg some (by kernel_rfl))
  f120 := Tryz.func88.trans (congrArg some (by kernel_rfl))
  f137 := Tryz.func41.trans (congrArg some (by kernel_rfl))
  f151 := Tryz.func70.trans (congrArg some (by kernel_rfl))
  f152 := Tryz.func87.trans (congrArg some (by kernel_rfl))
  f160 := Tryz.func25.trans (congrArg some (by kernel_rfl))
  f197 := Tryz.func69.trans (congrArg some (by kernel_rfl))
  f217 := Tryz.func63.trans (congrArg some (by kernel_rfl))
  f224 := Tryz.func90.trans (congrArg some (by kernel_rfl))
  f225 := Tryz.func89.trans (congrArg some (by kernel_rfl))
  f227 := Tryz.func45.trans (congrArg some (by kernel_rfl))
  f228 := Tryz.func68.trans (congrArg some (by kernel_rfl))
  f231 := Tryz.func43.trans (congrArg some (by kernel_rfl))
  f232 := Tryz.func44.trans (congrArg some (by kernel_rfl))
  f233 := Tryz.func46.trans (congrArg some (by kernel_rfl))
  f234 := Tryz.func47.trans (congrArg some (by kernel_rfl))
  f235 := Tryz.func48.trans (congrArg some (by kernel_rfl))
  f236 := Tryz.func49.trans (congrArg some (by kernel_rfl))
  f260 := Tryz.func86.trans (congrArg some (by kernel_rfl))
  f266 := Tryz.func81.trans (congrArg some (by kernel_rfl))
  f271 := Tryz.func71.trans (congrArg some (by kernel_rfl))
  t0 := Tryz.underlying0
  a0 := Tryz.isAgg0
  z0 := Tryz.sizeOf0
  v0 := Tryz.zeroValue0
  t3 := Tryz.underlying3
  a3 := Tryz.isAgg3
  z3 := Tryz.sizeOf3
  v3 := Tryz.zeroValue3
  t4 := Tryz.underlying4
  a4 := Tryz.isAgg4
  z4 := Tryz.sizeOf4
  v4 := Tryz.zeroValue4
  t5 := Tryz.underlying5
  a5 := Tryz.isAgg5
  z5 := Tryz.sizeOf5
  v5 := Tryz.zeroValue5
  t9 := Tryz.underlying9
  a9 := Tryz.isAgg9
  z9 := Tryz.sizeOf9
  v9 := Tryz.zeroValue9
  t21 := Tryz.underlying21
  a21 := Tryz.isAgg21
  z21 := Tryz.sizeOf21
  v21 := Tryz.zeroValue21
  t46 := Tryz.underlying137
  a46 := Tryz.isAgg137
  z46 := Tryz.sizeOf137
  v46 := Tryz.zeroValue137
  t105 := Tryz.underlying120
  a105 := Tryz.isAgg120
  z105 := Tryz.sizeOf120
  v105 := Tryz.zeroValue120
  t116 := Tryz.underlying97
  a116 := Tryz.isAgg97
  z116 := Tryz.sizeOf97
  t117 := Tryz.underlying98
  a117 := Tryz.isAgg98
  z117 := Tryz.sizeOf98
  v117 := Tryz.zeroValue98
  t119 := Tryz.underlying142
  a119 := Tryz.isAgg142
  z119 := Tryz.sizeOf142
  t124 := Tryz.underlying101
  a124 := Tryz.isAgg101
  z124 := Tryz.sizeOf101
  v124 := Tryz.zeroValue101
  t138 := Tryz.underlying144
  a138 := Tryz.isAgg144
  z138 := Tryz.sizeOf144
  v138 := Tryz.zeroValue144
  t139 := Tryz.underlying145
  a139 := Tryz.isAgg145
  z139 := Tryz.sizeOf145
  v139 := Tryz.zeroValue145
  g3 := by kernel_rfl
  g4 := by kernel_rfl }
def Tryz.lays137_ren : Go.Shelf.Ren := ⟨fun | 137 => 41 | 217 => 63 | 266 => 81 | n => n, fun | 9 => 9 | 5 => 5 | 3 => 3 | n => n, fun | n => n⟩
theorem Tryz.lays137 : Go.Proofs.Lays.n137 Tryz.prog Tryz.lays137_ren := {
  mixed := by kernel_rfl
  f137 := Tryz.func41.trans (congrArg some (by kernel_rfl))
  f217 := Tryz.func63.trans (congrArg some (by kernel_rfl))
  f266 := Tryz.func81.trans (congrArg some (by kernel_rfl))
  t3 := Tryz.underlying3
  a3 := Tryz.isAgg3
  z3 := Tryz.sizeOf3
  v3 := Tryz.zeroValue3
  t5 := Tryz.underlying5
  a5 := Tryz.isAgg5
  z5 := Tryz.sizeOf5
  v5 := Tryz.zeroValue5
  t9 := Tryz.underlying9
  a9 := Tryz.isAgg9
  z9 := Tryz.sizeOf9
  v9 := Tryz.zeroValue9 }
open Go.RowKit in
theorem Tryz.strings_IndexByte (s : ByteArray) (c : Int) (w : World) :
    Calls Tryz.prog 41 #[.string s, .int .u8 c] w fun e w' => e = .returned (.int .i64 (Lib.indexByte s.data.toList c.toNat.toUInt8)) ∧ w' = w := Any.strings_IndexByte Tryz.lays137 s c w
def Tryz.lays103_ren : Go.Shelf.Ren := ⟨fun | 103 => 36 | 210 => 57 | 206 => 76 | n => n, fun | 9 => 9 | 4 => 4 | 24 => 85 | 3 => 3 | n => n, fun | n => n⟩
theorem Tryz.lays103 : Go.Proofs.Lays.n103 Tryz.prog Tryz.lays103_ren := {
  mixed := by kernel_rfl
  f103 := Tryz.func36.trans (congrArg some (by kernel_rfl))
  f206 := Tryz.func76.trans (congrArg some (by kernel_rfl))
  f210 := Tryz.func57.trans (congrArg some (by kernel_rfl))
  t3 := Tryz.underlying3
  a3 := Tryz.isAgg3
  z3 := Tryz.sizeOf3
  v3 := Tryz.zeroValue3
  t4 := Tryz.underlying4
  a4 := Tryz.isAgg4
  z4 := Tryz.sizeOf4
  v4 := Tryz.zeroValue4
  t9 := Tryz.underlying9
  a9 := Tryz.isAgg9
  z9 := Tryz.sizeOf9
  v9 := Tryz.zeroValue9
  t24 := Tryz.underlying85
  a24 := Tryz.isAgg85
  z24 := Tryz.sizeOf85
  v24 := Tryz.zeroValue85 }
open Go.RowKit in
theorem Tryz.strings_CutPrefix (s p : ByteArray) (w : World) :
    Calls Tryz.prog 36 #[.string s, .string p] w fun e w' => e = .returned (.tuple #[.string ⟨(Lib.trimPrefix s.data.toList p.data.toList).toArray⟩, .bool (Lib.hasPrefix s.data.toList p.data.toList)]) ∧ w' = w := Any.strings_CutPrefix Tryz.lays103 s p w
open Go.RowKit in
theorem Tryz.Builder_String_any_k (B b : Nat) (l : List UInt8) (w : World) (h : Lib.IsBuilderF 113 5 B b (Lib.byteCells l) w) (hBw : B ≤ w.heap.size) :
    Calls Tryz.prog 67 #[.pointer (some ⟨b, 0, none⟩)] w fun e w' => e = .returned (.string ⟨l.toArray⟩) ∧ (Lib.IsBuilderF 113 5 B b (Lib.byteCells l) w' ∧ Below B w w' ∧ Lib.OthersKept 5 (some b) w w') := Any.Builder_String_any_k Tryz.lays169 Tryz.Builder_Extra_169 B b l w h hBw
def Tryz.laysC245_ren : Go.Shelf.Ren := ⟨fun | 245 => 102 | 279 => 105 | 280 => 106 | 281 => 107 | 282 => 108 | 316 => 111 | 171 => 113 | 205 => 112 | 243 => 114 | 246 => 115 | 283 => 116 | 284 => 117 | 285 => 118 | 286 => 119 | 129 => 121 | 317 => 120 | 318 => 122 | 319 => 123 | 320 => 124 | 337 => 125 | 338 => 126 | n => n, fun | 9 => 9 | 3 => 3 | 75 => 117 | 167 => 151 | 4 => 4 | 168 => 155 | 210 => 160 | 37 => 51 | 0 => 0 | 127 => 132 | 145 => 164 | 143 => 162 | 2 => 2 | 171 => 166 | 53 => 152 | 5 => 5 | 173 => 169 | 212 => 172 | 51 => 146 | 20 => 20 | 213 => 173 | 46 => 137 | 232 => 176 | 233 => 177 | 80 => 106 | n => n, fun | 15 => 4 | 16 => 5 | 17 => 6 | 18 => 7 | 19 => 8 | n => n⟩
theorem Tryz.laysC245 : Go.Proofs.LaysC.n245 Tryz.prog Tryz.laysC245_ren := {
  mixed := by kernel_rfl
  f129 := Tryz.func121.trans (congrArg some (by kernel_rfl))
  f171 := Tryz.func113.trans (congrArg some (by kernel_rfl))
  f205 := Tryz.func112.trans (congrArg some (by kernel_rfl))
  f243 := Tryz.func114.trans (congrArg some (by kernel_rfl))
  f245 := Tryz.func102.trans (congrArg some (by kernel_rfl))
  f246 := Tryz.func115.trans (congrArg some (by kernel_rfl))
  f279 := Tryz.func105.trans (congrArg some (by kernel_rfl))
  f280 := Tryz.func106.trans (congrArg some (by kernel_rfl))
  f281 := Tryz.func107.trans (congrArg some (by kernel_rfl))
  f282 := Tryz.func108.trans (congrArg some (by kernel_rfl))
  f283 := Tryz.func116.trans (congrArg some (by kernel_rfl))
  f284 := Tryz.func117.trans (congrArg some (by kernel_rfl))
  f285 := Tryz.func118.trans (congrArg some (by kernel_rfl))
  f286 := Tryz.func119.trans (congrArg some (by kernel_rfl))
  f316 := Tryz.func111.trans (congrArg some (by kernel_rfl))
  f317 := Tryz.func120.trans (congrArg some (by kernel_rfl))
  f318 := Tryz.func122.trans (congrArg some (by kernel_rfl))
  f319 := Tryz.func123.trans (congrArg some (by kernel_rfl))
  f320 := Tryz.func124.trans (congrArg some (by kernel_rfl))
  f337 := Tryz.func125.trans (congrArg some (by kernel_rfl))
  f338 := Tryz.func126.trans (congrArg some (by kernel_rfl))
  t0 := Tryz.underlying0
  a0 := Tryz.isAgg0
  z0 := Tryz.sizeOf0
  v0 := Tryz.zeroValue0
  t2 := Tryz.underlying2
  a2 := Tryz.isAgg2
  z2 := Tryz.sizeOf2
  v2 := Tryz.zeroValue2
  t3 := Tryz.underlying3
  a3 := Tryz.isAgg3
  z3 := Tryz.sizeOf3
  v3 := Tryz.zeroValue3
  t4 := Tryz.underlying4
  a4 := Tryz.isAgg4
  z4 := Tryz.sizeOf4
  v4 := Tryz.zeroValue4
  t5 := Tryz.underlying5
  a5 := Tryz.isAgg5
  z5 := Tryz.sizeOf5
  v5 := Tryz.zeroValue5
  t9 := Tryz.underlying9
  a9 := Tryz.isAgg9
  z9 := Tryz.sizeOf9
  v9 := Tryz.zeroValue9
  t20 := Tryz.underlying20
  a20 := Tryz.isAgg20
  z20 := Tryz.sizeOf20
  v20 := Tryz.zeroValue20
  t37 := Tryz.underlying51
  a37 := Tryz.isAgg51
  z37 := Tryz.sizeOf51
  v37 := Tryz.zeroValue51
  t46 := Tryz.underlying137
  a46 := Tryz.isAgg137
  z46 := Tryz.sizeOf137
  v46 := Tryz.zeroValue137
  t51 := Tryz.underlying146
  a51 := Tryz.isAgg146
  z51 := Tryz.sizeOf146
  v51 := Tryz.zeroValue146
  t53 := Tryz.underlying152
  a53 := Tryz.isAgg152
  z53 := Tryz.sizeOf152
  v53 := Tryz.zeroValue152
  t75 := Tryz.underlying117
  a75 := Tryz.isAgg117
  z75 := Tryz.sizeOf117
  v75 := Tryz.zeroValue117
  t127 := Tryz.underlying132
  a127 := Tryz.isAgg132
  z127 := Tryz.sizeOf132
  v127 := Tryz.zeroValue132
  t143 := Tryz.underlying162
  a143 := Tryz.isAgg162
  z143 := Tryz.sizeOf162
  v143 := Tryz.zeroValue162
  t145 := Tryz.underlying164
  a145 := Tryz.isAgg164
  z145 := Tryz.sizeOf164
  v145 := Tryz.zeroValue164
  t167 := Tryz.underlying151
  a167 := Tryz.isAgg151
  z167 := Tryz.sizeOf151
  v167 := Tryz.zeroValue151
  t168 := Tryz.underlying155
  a168 := Tryz.isAgg155
  z168 := Tryz.sizeOf155
  v168 := Tryz.zeroValue155
  t171 := Tryz.underlying166
  a171 := Tryz.isAgg166
  z171 := Tryz.sizeOf166
  v171 := Tryz.zeroValue166
  t173 := Tryz.underlying169
  a173 := Tryz.isAgg169
  z173 := Tryz.sizeOf169
  v173 := Tryz.zeroValue169
  t210 := Tryz.underlying160
  a210 := Tryz.isAgg160
  z210 := Tryz.sizeOf160
  v210 := Tryz.zeroValue160
  t212 := Tryz.underlying172
  a212 := Tryz.isAgg172
  z212 := Tryz.sizeOf172
  v212 := Tryz.zeroValue172
  t213 := Tryz.underlying173
  a213 := Tryz.isAgg173
  z213 := Tryz.sizeOf173
  t232 := Tryz.underlying176
  a232 := Tryz.isAgg176
  z232 := Tryz.sizeOf176
  v232 := Tryz.zeroValue176
  t233 := Tryz.underlying177
  a233 := Tryz.isAgg177
  z233 := Tryz.sizeOf177
  v233 := Tryz.zeroValue177
  g15 := by kernel_rfl
  g16 := by kernel_rfl
  g17 := by kernel_rfl
  g18 := by kernel_rfl
  g19 := by kernel_rfl
  t80 := Tryz.underlying106
  a80 := Tryz.isAgg106
  z80 := Tryz.sizeOf106
  v80 := Tryz.zeroValue106
  i0 := by kernel_rfl
  i2 := by kernel_rfl
  i3 := by kernel_rfl
  i4 := by kernel_rfl
  i5 := by kernel_rfl
  i9 := by kernel_rfl
  i20 := by kernel_rfl
  i37 := by kernel_rfl
  i46 := by kernel_rfl
  i51 := by kernel_rfl
  i53 := by kernel_rfl
  i75 := by kernel_rfl
  i80 := by kernel_rfl
  i127 := by kernel_rfl
  i143 := by kernel_rfl
  i145 := by kernel_rfl
  i167 := by kernel_rfl
  i168 := by kernel_rfl
  i171 := by kernel_rfl
  i173 := by kernel_rfl
  i210 := by kernel_rfl
  i212 := by kernel_rfl
  i232 := by kernel_rfl
  i233 := by kernel_rfl
  m15 := by kernel_rfl
  m16 := by kernel_rfl
  m17 := by kernel_rfl
  m18 := by kernel_rfl
  m19 := by kernel_rfl
  c0 := by kernel_rfl
  c2 := by kernel_rfl
  c3 := by kernel_rfl
  c4 := by kernel_rfl
  c5 := by kernel_rfl
  c9 := by kernel_rfl
  c20 := by kernel_rfl
  c37 := by kernel_rfl
  c46 := by kernel_rfl
  c51 := by kernel_rfl
  c53 := by kernel_rfl
  c75 := by kernel_rfl
  c80 := by kernel_rfl
  c127 := by kernel_rfl
  c143 := by kernel_rfl
  c145 := by kernel_rfl
  c167 := by kernel_rfl
  c168 := by kernel_rfl
  c171 := by kernel_rfl
  c173 := by kernel_rfl
  c210 := by kernel_rfl
  c212 := by kernel_rfl
  c213 := by kernel_rfl
  c232 := by kernel_rfl
  c233 := by kernel_rfl }
open Go.RowKit in
theorem Tryz.strconv_toError_syntax (fn s : ByteArray) (base bits : Int) (ev : Value) (w : World) (hlim : s.size ≤ 281474976710656) (hv : w.cell? ⟨4, 0, none⟩ = some ev) (hev : ev = .nilIface ∨ ∃ te pe, ev = .iface te pe) :
    Calls Tryz.prog 102 #[.string fn, .string s, .int .i64 base, .int .i64 bits, .iface 151 (.int .i64 2)] w fun e w' => ∃ N, e = .returned (.iface 155 (.pointer (some ⟨N, 0, none⟩))) ∧ w.heap.size ≤ N ∧ w'.heap[N]? = some (.cells #[.string fn, .string s, ev] 160 (0, 0)) ∧ Below w.heap.size w w' := Any.strconv_toError_syntax Tryz.laysC245 fn s base bits ev w hlim hv hev
def Tryz.lays321_ren : Go.Shelf.Ren := ⟨fun | 321 => 109 | n => n, fun | 5 => 5 | n => n, fun | n => n⟩
theorem Tryz.lays321 : Go.Proofs.Lays.n321 Tryz.prog Tryz.lays321_ren := {
  mixed := by kernel_rfl
  f321 := Tryz.func109.trans (congrArg some (by kernel_rfl))
  t5 := Tryz.underlying5
  a5 := Tryz.isAgg5
  z5 := Tryz.sizeOf5
  v5 := Tryz.zeroValue5 }
open Go.RowKit in
theorem Tryz.internal_strconv_lower (c : Int) (w : World) :
    Calls Tryz.prog 109 #[.int .u8 c] w fun e w' => e = .returned (.int .u8 (bits .or .u8 c 32)) ∧ w' = w := Any.internal_strconv_lower Tryz.lays321 c w
def Tryz.lays219_ren : Go.Shelf.Ren := ⟨fun | 219 => 77 | 217 => 63 | 225 => 89 | 224 => 90 | 267 => 91 | 266 => 81 | 314 => 98 | n => n, fun | 9 => 9 | 3 => 3 | 4 => 4 | 5 => 5 | 46 => 137 | 146 => 147 | 51 => 146 | n => n, fun | 1 => 1 | n => n⟩
theorem Tryz.lays219 : Go.Proofs.Lays.n219 Tryz.prog Tryz.lays219_ren := {
  mixed := by kernel_rfl
  f217 := Tryz.func63.trans (congrArg some (by kernel_rfl))
  f219 := Tryz.func77.trans (congrArg some (by kernel_rfl))
  f224 := Tryz.func90.trans (congrArg some (by kernel_rfl))
  f225 := Tryz.func89.trans (congrArg some (by kernel_rfl))
  f266 := Tryz.func81.trans (congrArg some (by kernel_rfl))
  f267 := Tryz.func91.trans (congrArg some (by kernel_rfl))
  f314 := Tryz.func98.trans (congrArg some (by kernel_rfl))
  t3 := Tryz.underlying3
  a3 := Tryz.isAgg3
  z3 := Tryz.sizeOf3
  v3 := Tryz.zeroValue3
  t4 := Tryz.underlying4
  a4 := Tryz.isAgg4
  z4 := Tryz.sizeOf4
  v4 := Tryz.zeroValue4
  t5 := Tryz.underlying5
  a5 := Tryz.isAgg5
  z5 := Tryz.sizeOf5
  v5 := Tryz.zeroValue5
  t9 := Tryz.underlying9
  a9 := Tryz.isAgg9
  z9 := Tryz.sizeOf9
  v9 := Tryz.zeroValue9
  t46 := Tryz.underlying137
  a46 := Tryz.isAgg137
  z46 := Tryz.sizeOf137
  v46 := Tryz.zeroValue137
  t51 := Tryz.underlying146
  a51 := Tryz.isAgg146
  z51 := Tryz.sizeOf146
  v51 := Tryz.zeroValue146
  t146 := Tryz.underlying147
  a146 := Tryz.isAgg147
  z146 := Tryz.sizeOf147
  v146 := Tryz.zeroValue147
  g1 := by kernel_rfl }
open Go.RowKit Go.Lib in
theorem Tryz.stringslite_Index_one (s : ByteArray) (c : UInt8) (w : World) :
    Calls Tryz.prog 77 #[.string s, .string ⟨#[c]⟩] w fun e w' => e = .returned (.int .i64 (Lib.indexByte s.data.toList c)) ∧ w' = w := Any.stringslite_Index_one Tryz.lays219 s c w
def Tryz.lays144_ren : Go.Shelf.Ren := ⟨fun | 144 => 80 | 143 => 93 | 219 => 77 | 217 => 63 | 225 => 89 | 224 => 90 | 267 => 91 | 266 => 81 | 314 => 98 | n => n, fun | 9 => 9 | 4 => 4 | 3 => 3 | 5 => 5 | 46 => 137 | 146 => 147 | 51 => 146 | n => n, fun | 1 => 1 | n => n⟩
theorem Tryz.lays144 : Go.Proofs.Lays.n144 Tryz.prog Tryz.lays144_ren := {
  mixed := by kernel_rfl
  f143 := Tryz.func93.trans (congrArg some (by kernel_rfl))
  f144 := Tryz.func80.trans (congrArg some (by kernel_rfl))
  f217 := Tryz.func63.trans (congrArg some (by kernel_rfl))
  f219 := Tryz.func77.trans (congrArg some (by kernel_rfl))
  f224 := Tryz.func90.trans (congrArg some (by kernel_rfl))
  f225 := Tryz.func89.trans (congrArg some (by kernel_rfl))
  f266 := Tryz.func81.trans (congrArg some (by kernel_rfl))
  f267 := Tryz.func91.trans (congrArg some (by kernel_rfl))
  f314 := Tryz.func98.trans (congrArg some (by kernel_rfl))
  t3 := Tryz.underlying3
  a3 := Tryz.isAgg3
  z3 := Tryz.sizeOf3
  v3 := Tryz.zeroValue3
  t4 := Tryz.underlying4
  a4 := Tryz.isAgg4
  z4 := Tryz.sizeOf4
  v4 := Tryz.zeroValue4
  t5 := Tryz.underlying5
  a5 := Tryz.isAgg5
  z5 := Tryz.sizeOf5
  v5 := Tryz.zeroValue5
  t9 := Tryz.underlying9
  a9 := Tryz.isAgg9
  z9 := Tryz.sizeOf9
  v9 := Tryz.zeroValue9
  t46 := Tryz.underlying137
  a46 := Tryz.isAgg137
  z46 := Tryz.sizeOf137
  v46 := Tryz.zeroValue137
  t51 := Tryz.underlying146
  a51 := Tryz.isAgg146
  z51 := Tryz.sizeOf146
  v51 := Tryz.zeroValue146
  t146 := Tryz.underlying147
  a146 := Tryz.isAgg147
  z146 := Tryz.sizeOf147
  v146 := Tryz.zeroValue147
  g1 := by kernel_rfl }
open Go.RowKit Go.Lib in
theorem Tryz.strings_Contains_one (s : ByteArray) (c : UInt8) (w : World) :
    Calls Tryz.prog 80 #[.string s, .string ⟨#[c]⟩] w fun e w' => e = .returned (.bool (decide (0 ≤ Lib.indexByte s.data.toList c))) ∧ w' = w := Any.strings_Contains_one Tryz.lays144 s c w
def Tryz.lays145_ren : Go.Shelf.Ren := ⟨fun | 145 => 37 | 220 => 58 | 219 => 77 | 217 => 63 | 225 => 89 | 224 => 90 | 267 => 91 | 266 => 81 | 314 => 98 | n => n, fun | 9 => 9 | 4 => 4 | 59 => 71 | 3 => 3 | 5 => 5 | 46 => 137 | 146 => 147 | 51 => 146 | n => n, fun | 1 => 1 | n => n⟩
theorem Tryz.lays145 : Go.Proofs.Lays.n145 Tryz.prog Tryz.lays145_ren := {
  mixed := by kernel_rfl
  f145 := Tryz.func37.trans (congrArg some (by kernel_rfl))
  f217 := Tryz.func63.trans (congrArg some (by kernel_rfl))
  f219 := Tryz.func77.trans (congrArg some (by kernel_rfl))
  f220 := Tryz.func58.trans (congrArg some (by kernel_rfl))
  f224 := Tryz.func90.trans (congrArg some (by kernel_rfl))
  f225 := Tryz.func89.trans (congrArg some (by kernel_rfl))
  f266 := Tryz.func81.trans (congrArg some (by kernel_rfl))
  f267 := Tryz.func91.trans (congrArg some (by kernel_rfl))
  f314 := Tryz.func98.trans (congrArg some (by kernel_rfl))
  t3 := Tryz.underlying3
  a3 := Tryz.isAgg3
  z3 := Tryz.sizeOf3
  v3 := Tryz.zeroValue3
  t4 := Tryz.underlying4
  a4 := Tryz.isAgg4
  z4 := Tryz.sizeOf4
  v4 := Tryz.zeroValue4
  t5 := Tryz.underlying5
  a5 := Tryz.isAgg5
  z5 := Tryz.sizeOf5
  v5 := Tryz.zeroValue5
  t9 := Tryz.underlying9
  a9 := Tryz.isAgg9
  z9 := Tryz.sizeOf9
  v9 := Tryz.zeroValue9
  t46 := Tryz.underlying137
  a46 := Tryz.isAgg137
  z46 := Tryz.sizeOf137
  v46 := Tryz.zeroValue137
  t51 := Tryz.underlying146
  a51 := Tryz.isAgg146
  z51 := Tryz.sizeOf146
  v51 := Tryz.zeroValue146
  t59 := Tryz.underlying71
  a59 := Tryz.isAgg71
  z59 := Tryz.sizeOf71
  v59 := Tryz.zeroValue71
  t146 := Tryz.underlying147
  a146 := Tryz.isAgg147
  z146 := Tryz.sizeOf147
  v146 := Tryz.zeroValue147
  g1 := by kernel_rfl }
open Go.RowKit Go.Lib in
theorem Tryz.strings_Cut (s sep : ByteArray) (m : Int) (w : World) (hs : s.size < 4294967281) (hm : w.cell? ⟨1, 0, none⟩ = some (.int .i64 m)) :
    Calls Tryz.prog 37 #[.string s, .string sep] w fun e w' => e = .returned (.tuple #[.string ⟨(Lib.cut s.data.toList sep.data.toList).1.toArray⟩, .string ⟨(Lib.cut s.data.toList sep.data.toList).2.1.toArray⟩, .bool (Lib.cut s.data.toList sep.data.toList).2.2]) ∧ ∃ n, w' = w.drewN n := Any.strings_Cut Tryz.lays145 s sep m w hs hm
def Tryz.lays99_ren : Go.Shelf.Ren := ⟨fun | 99 => 82 | 206 => 76 | n => n, fun | 9 => 9 | 4 => 4 | 3 => 3 | n => n, fun | n => n⟩
theorem Tryz.lays99 : Go.Proofs.Lays.n99 Tryz.prog Tryz.lays99_ren := {
  mixed := by kernel_rfl
  f99 := Tryz.func82.trans (congrArg some (by kernel_rfl))
  f206 := Tryz.func76.trans (congrArg some (by kernel_rfl))
  t3 := Tryz.underlying3
  a3 := Tryz.isAgg3
  z3 := Tryz.sizeOf3
  v3 := Tryz.zeroValue3
  t4 := Tryz.underlying4
  a4 := Tryz.isAgg4
  z4 := Tryz.sizeOf4
  v4 := Tryz.zeroValue4
  t9 := Tryz.underlying9
  a9 := Tryz.isAgg9
  z9 := Tryz.sizeOf9
  v9 := Tryz.zeroValue9 }
open Go.RowKit Go.Lib in
theorem Tryz.strings_HasPrefix (s p : ByteArray) (w : World) :
    Calls Tryz.prog 82 #[.string s, .string p] w fun e w' => e = .returned (.bool (Lib.hasPrefix s.data.toList p.data.toList)) ∧ w' = w := Any.strings_HasPrefix Tryz.lays99 s p w
def Tryz.lays152_ren : Go.Shelf.Ren := ⟨fun | 152 => 87 | 137 => 41 | 119 => 97 | 224 => 90 | 225 => 89 | 217 => 63 | 266 => 81 | n => n, fun | 9 => 9 | 21 => 21 | 3 => 3 | 4 => 4 | 5 => 5 | 0 => 0 | 46 => 137 | n => n, fun | n => n⟩
theorem Tryz.lays152 : Go.Proofs.Lays.n152 Tryz.prog Tryz.lays152_ren := {
  mixed := by kernel_rfl
  f119 := Tryz.func97.trans (congrArg some (by kernel_rfl))
  f137 := Tryz.func41.trans (congrArg some (by kernel_rfl))
  f152 := Tryz.func87.trans (congrArg some (by kernel_rfl))
  f217 := Tryz.func63.trans (congrArg some (by kernel_rfl))
  f224 := Tryz.func90.trans (congrArg some (by kernel_rfl))
  f225 := Tryz.func89.trans (congrArg some (by kernel_rfl))
  f266 := Tryz.func81.trans (congrArg some (by kernel_rfl))
  t0 := Tryz.underlying0
  a0 := Tryz.isAgg0
  z0 := Tryz.sizeOf0
  v0 := Tryz.zeroValue0
  t3 := Tryz.underlying3
  a3 := Tryz.isAgg3
  z3 := Tryz.sizeOf3
  v3 := Tryz.zeroValue3
  t4 := Tryz.underlying4
  a4 := Tryz.isAgg4
  z4 := Tryz.sizeOf4
  v4 := Tryz.zeroValue4
  t5 := Tryz.underlying5
  a5 := Tryz.isAgg5
  z5 := Tryz.sizeOf5
  v5 := Tryz.zeroValue5
  t9 := Tryz.underlying9
  a9 := Tryz.isAgg9
  z9 := Tryz.sizeOf9
  v9 := Tryz.zeroValue9
  t21 := Tryz.underlying21
  a21 := Tryz.isAgg21
  z21 := Tryz.sizeOf21
  v21 := Tryz.zeroValue21
  t46 := Tryz.underlying137
  a46 := Tryz.isAgg137
  z46 := Tryz.sizeOf137
  v46 := Tryz.zeroValue137 }
open Go.RowKit Go.Lib in
theorem Tryz.strings_IndexRune_ascii (s : ByteArray) (r : Int) (w : World) (h0 : 0 ≤ r) (h1 : r < 128) :
    Calls Tryz.prog 87 #[.string s, .int .i32 r] w fun e w' => e = .returned (.int .i64 (Lib.indexByte s.data.toList r.toNat.toUInt8)) ∧ w' = w := Any.strings_IndexRune_ascii Tryz.lays152 s r w h0 h1
def Tryz.lays226_ren : Go.Shelf.Ren := ⟨fun | 226 => 103 | n => n, fun | 3 => 3 | 4 => 4 | n => n, fun | n => n⟩
theorem Tryz.lays226 : Go.Proofs.Lays.n226 Tryz.prog Tryz.lays226_ren := {
  mixed := by kernel_rfl
  f226 := Tryz.func103.trans (congrArg some (by kernel_rfl))
  t3 := Tryz.underlying3
  a3 := Tryz.isAgg3
  z3 := Tryz.sizeOf3
  v3 := Tryz.zeroValue3
  t4 := Tryz.underlying4
  a4 := Tryz.isAgg4
  z4 := Tryz.sizeOf4
  v4 := Tryz.zeroValue4 }
open Go.RowKit Go.Lib in
theorem Tryz.strings_shouldUseASCIISet (n : Int) (w : World) :
    Calls Tryz.prog 103 #[.int .i64 n] w fun e w' => e = .returned (.bool (decide (8 < n))) ∧ w' = w := Any.strings_shouldUseASCIISet Tryz.lays226 n w
end Go.Proofs
end
section
namespace Go.Proofs.YtpknhgejnfmijaaGreatDoor.X
open Go.RowKit Go.Proofs.YtpknhgejnfmijaaGreatDoorW.PrintWords
set_option linter.unusedVariables false
set_option linter.unusedSimpArgs false
def strings_Cut.f (a0 a1 : ByteArray) : Option (ByteArray × ByteArray × Bool) :=
  match a1.data.toList with
  | [c] => if 140737488351232 < a0.size then none else if Lib.indexByte a0.data.toList c < 0 then some (a0, ⟨#[]⟩, false) else some (a0.extract 0 (Lib.indexByte a0.data.toList c).toNat, a0.extract ((Lib.indexByte a0.data.toList c).toNat + 1) a0.size, true)
  | _ => none
theorem indexByte_lt (l : List UInt8) (c : UInt8) : Lib.indexByte l c < l.length := by
  induction l with
  | nil => simp [Lib.indexByte]
  | cons b l ih =>
    unfold Lib.indexByte
    split
    · simp
    · split
      · simp; omega
      · simp; omega
theorem one_byte (a : ByteArray) (c : UInt8) (h : a.data.toList = [c]) : a = ⟨#[c]⟩ := by
  obtain ⟨⟨l⟩⟩ := a
  simp at h
  subst h
  rfl
set_option maxHeartbeats 2000000 in
set_option maxRecDepth 100000 in
theorem slite_Cut (a0 : ByteArray) (c : UInt8) (w : World) (hz : a0.size ≤ 140737488351232) (i : Int) (hi : Lib.indexByte a0.data.toList c = i) :
    Calls Tryz.prog 58 #[.string a0, .string ⟨#[c]⟩] w fun e w' => e = .returned (.tuple #[.string (if i < 0 then a0 else a0.extract 0 i.toNat), .string (if i < 0 then ⟨#[]⟩ else a0.extract (i.toNat + 1) a0.size), .bool (decide (¬ i < 0))]) ∧ Drawn0 w w' := by
  have h1 := indexByte_lt a0.data.toList c
  have h2 := Lib.indexByte_ge a0.data.toList c
  rw [hi] at h1 h2
  have HI := Lib.hid (Tryz.stringslite_Index_one a0 c w)
  have HE := Lib.hid hi
  have hs : (i : Int) < (a0.size : Int) := by simpa using h1
  clear h1 hi
  by_cases h : i < 0
  · obtain rfl : i = -1 := by omega
    go_enter Tryz.func58, Tryz.ntmps58
    go_wp2_with (go_at_call 77; refine HI.out.mono ?_; rintro e w' ⟨rfl, rfl⟩; rw [HE.out])
    go_ret3
    exact ⟨rfl, Drawn0.refl _⟩
  · obtain ⟨n, rfl⟩ : ∃ n : Nat, i = n := ⟨i.toNat, by omega⟩
    have c1 : (0 : Int) ≤ (n : Int) := by omega
    have c2 : (n : Int) ≤ a0.size := by omega
    have c3 : (0 : Int) ≤ (n : Int) + 1 := by omega
    have c4 : (n : Int) + 1 ≤ a0.size := by omega
    have hw : IntKind.i64.wrap ((n : Int) + 1) = (n : Int) + 1 := IntWalk.i64_in _ (by omega)
    have hn : ((n : Int) + 1).toNat = n + 1 := by omega
    go_enter Tryz.func58, Tryz.ntmps58
    go_wp2_with (go_at_call 77; refine HI.out.mono ?_; rintro e w' ⟨rfl, rfl⟩; rw [HE.out])
    go_region
    all_goals
      go_wp2
      go_ret3
      refine ⟨?_, ⟨1, rfl⟩⟩
      simp [h]
theorem strings_Cut.calls (a0 a1 : ByteArray) (r1 r2 : ByteArray) (r3 : Bool) (w : World) (h : strings_Cut.f a0 a1 = some (r1, r2, r3)) :
    Calls Tryz.prog 37 #[.string a0, .string a1] w fun e w' => e = .returned (.tuple #[.string r1, .string r2, .bool r3]) ∧ Drawn0 w w' := by
  unfold strings_Cut.f at h
  split at h
  · rename_i c hc
    obtain rfl := one_byte a1 c hc
    by_cases hz : 140737488351232 < a0.size
    · rw [if_pos hz] at h
      cases h
    rw [if_neg hz] at h
    have HC := Lib.hid (slite_Cut a0 c w (by omega) _ rfl)
    have HR : Hid ((if Lib.indexByte a0.data.toList c < 0 then a0 else a0.extract 0 (Lib.indexByte a0.data.toList c).toNat) = r1 ∧ (if Lib.indexByte a0.data.toList c < 0 then ⟨#[]⟩ else a0.extract ((Lib.indexByte a0.data.toList c).toNat + 1) a0.size) = r2 ∧ decide (¬ Lib.indexByte a0.data.toList c < 0) = r3) := by
      show _ ∧ _ ∧ _
      split at h <;> rename_i hh <;> simp only [Option.some.injEq, Prod.mk.injEq] at h <;> obtain ⟨h1, h2, h3⟩ := h
      · rw [if_pos hh, if_pos hh, ← h3]
        exact ⟨h1, h2, by simp [hh]⟩
      · rw [if_neg hh, if_neg hh, ← h3]
        exact ⟨h1, h2, by simp [hh]⟩
    clear h hc
    generalize Lib.indexByte a0.data.toList c = i at HC HR
    obtain ⟨h1, h2, h3⟩ := HR.out
    have HC2 : Hid (Calls Tryz.prog 58 #[.string a0, .string ⟨#[c]⟩] w fun e w' => e = .returned (.tuple #[.string r1, .string r2, .bool r3]) ∧ Drawn0 w w') := by
      show Calls Tryz.prog 58 #[.string a0, .string ⟨#[c]⟩] w fun e w' => e = .returned (.tuple #[.string r1, .string r2, .bool r3]) ∧ Drawn0 w w'
      rw [← h1, ← h2, ← h3]
      exact HC.out
    clear h1 h2 h3 HR HC
    go_enter Tryz.func37, Tryz.ntmps37
    go_wp2_with (go_at_call 58; refine HC2.out.mono ?_; rintro e w' ⟨rfl, ⟨n, rfl⟩⟩)
    go_ret3
    exact ⟨rfl, ⟨n, rfl⟩⟩
  · cases h
end Go.Proofs.YtpknhgejnfmijaaGreatDoor.X
end
section
namespace Go.Proofs.YtpknhgejnfmijaaGreatDoor.MapS
open Go Go.RowKit Go.MapKept
open Go.ChangeMaps (setBlock)
variable {P : Program} {t k e : TypeId}
set_option linter.unusedVariables false
set_option linter.unusedSimpArgs false
def Strs (es : Array MapEntry) : Prop := ∀ x ∈ es.toList, IsKey .string x.key
def No (es : Array MapEntry) (s : ByteArray) : Prop := ∀ x ∈ es.toList, x.key ≠ .string s
def Has (es : Array MapEntry) (s : ByteArray) (v : Value) : Prop := (∃ x ∈ es.toList, x.key = .string s) ∧ ∀ x ∈ es.toList, x.key = .string s → x.val = v
theorem strs_nil : Strs #[] := by intro x hx; simp at hx
theorem no_nil (s : ByteArray) : No #[] s := by intro x hx; simp at hx
theorem strs_push {es : Array MapEntry} (h : Strs es) (s : ByteArray) (v : Value) (c : Nat) : Strs (es.push ⟨.string s, v, c⟩) := by
  intro x hx
  simp only [Array.toList_push, List.mem_append, List.mem_singleton] at hx
  rcases hx with hx | rfl
  · exact h x hx
  · trivial
theorem no_push {es : Array MapEntry} {s q : ByteArray} (h : No es q) (hne : q ≠ s) (v : Value) (c : Nat) : No (es.push ⟨.string s, v, c⟩) q := by
  intro x hx
  simp only [Array.toList_push, List.mem_append, List.mem_singleton] at hx
  rcases hx with hx | rfl
  · exact h x hx
  · exact fun e => hne (by cases e; rfl)
theorem has_push {es : Array MapEntry} {s q : ByteArray} {u : Value} (h : Has es q u) (hne : q ≠ s) (v : Value) (c : Nat) : Has (es.push ⟨.string s, v, c⟩) q u := by
  obtain ⟨⟨x, hx, hk⟩, h2⟩ := h
  refine ⟨⟨x, by simp [hx], hk⟩, ?_⟩
  intro y hy hy2
  simp only [Array.toList_push, List.mem_append, List.mem_singleton] at hy
  rcases hy with hy | rfl
  · exact h2 y hy hy2
  · exact absurd (by cases hy2; rfl) hne
theorem has_new {es : Array MapEntry} {s : ByteArray} (h : No es s) (v : Value) (c : Nat) : Has (es.push ⟨.string s, v, c⟩) s v := by
  refine ⟨⟨⟨.string s, v, c⟩, by simp, rfl⟩, ?_⟩
  intro y hy hy2
  simp only [Array.toList_push, List.mem_append, List.mem_singleton] at hy
  rcases hy with hy | rfl
  · exact absurd hy2 (h y hy)
  · rfl
theorem find_no (hk : P.underlying k = some .string) {es : Array MapEntry} (hs : Strs es) {s : ByteArray} (h : No es s) (w : World) : (Instr.findKey k (.string s) es.toList).run P w = .ok none w := by
  rcases findNow_spec (d := .string) (k := .string s) trivial es.toList 0 hs with ⟨h1, h2⟩ | ⟨j, e0, h1, h2, h3⟩
  · exact run_findKey hk h1
  · exact absurd h3 (h e0 (List.mem_of_getElem? h2))
theorem find_has (hk : P.underlying k = some .string) {es : Array MapEntry} (hs : Strs es) {s : ByteArray} {v : Value} (h : Has es s v) (w : World) : ∃ j, (Instr.findKey k (.string s) es.toList).run P w = .ok (some (j, v)) w := by
  rcases findNow_spec (d := .string) (k := .string s) trivial es.toList 0 hs with ⟨h1, h2⟩ | ⟨j, e0, h1, h2, h3⟩
  · obtain ⟨⟨x, hx, hx2⟩, _⟩ := h
    exact absurd hx2 (h2 x hx)
  · have := h.2 e0 (List.mem_of_getElem? h2) h3
    rw [this] at h1
    exact ⟨j, by simpa using run_findKey hk h1⟩
variable {w : World} {b clock : Nat} {es : Array MapEntry}
theorem run_lookup_no (ht : P.underlying t = some (.map k e)) (hk : P.underlying k = some .string) (hb : w.heap[b]? = some (.map es clock)) (hs : Strs es) {s : ByteArray} (h : No es s) {z : Value} (hz : (zeroValue e).run P w = .ok z w) (ok : Bool) :
    (Instr.lookup t (.map (some b)) (.string s) ok).run P w = .ok (if ok = true then .tuple #[z, .bool false] else z) w := by
  simp [Instr.lookup, run_underlying ht, MapKept.run_getObj_map hb, run_checkKey hk (d := .string) (k := .string s) trivial, find_no hk hs h, Result.andThen, hz]
theorem run_lookup_has (ht : P.underlying t = some (.map k e)) (hk : P.underlying k = some .string) (hb : w.heap[b]? = some (.map es clock)) (hs : Strs es) {s : ByteArray} {v : Value} (h : Has es s v) (ok : Bool) :
    (Instr.lookup t (.map (some b)) (.string s) ok).run P w = .ok (if ok = true then .tuple #[v, .bool true] else v) w := by
  obtain ⟨j, hj⟩ := find_has hk hs h w
  simp [Instr.lookup, run_underlying ht, MapKept.run_getObj_map hb, run_checkKey hk (d := .string) (k := .string s) trivial, hj, Result.andThen]
theorem run_update_no (ht : P.underlying t = some (.map k e)) (hk : P.underlying k = some .string) (hb : w.heap[b]? = some (.map es clock)) (hs : Strs es) {s : ByteArray} (h : No es s) (v : Value) :
    (Instr.mapUpdate t (.map (some b)) (.string s) v).run P w = .ok () (setBlock w b (.map (es.push ⟨.string s, v, clock⟩) (clock + 1))) := by
  simp [Instr.mapUpdate, run_underlying ht, MapKept.run_getObj_map hb, run_checkKey hk (d := .string) (k := .string s) trivial, find_no hk hs h, MapKept.run_setObj_map _ hb, Result.andThen, setBlock]
theorem heap_set (w : World) {b : Nat} (h : b < w.heap.size) (o : Obj) : (setBlock w b o).heap[b]? = some o := by
  simp [setBlock, h]
theorem heap_set_ne (w : World) {b c : Nat} (h : b ≠ c) (o : Obj) : (setBlock w b o).heap[c]? = w.heap[c]? := by
  simp [setBlock, Array.getElem?_setIfInBounds, h]
theorem size_set (w : World) (b : Nat) (o : Obj) : (setBlock w b o).heap.size = w.heap.size := by
  simp [setBlock]
theorem upd (ht : P.underlying t = some (.map k e)) (hk : P.underlying k = some .string) (hb : w.heap[b]? = some (.map es clock)) (hs : Strs es) {s : ByteArray} (h : No es s) (v : Value) :
    ∃ W, (Instr.mapUpdate t (.map (some b)) (.string s) v).run P w = .ok () W ∧ W.heap[b]? = some (.map (es.push ⟨.string s, v, clock⟩) (clock + 1)) ∧ Strs (es.push ⟨.string s, v, clock⟩) ∧
      (∀ B, B ≤ b → Below B w W) ∧ (∀ c, b ≠ c → W.heap[c]? = w.heap[c]?) ∧ W.heap.size = w.heap.size := by
  have hlt : b < w.heap.size := (Array.getElem?_eq_some_iff.1 hb).1
  refine ⟨_, run_update_no ht hk hb hs h v, heap_set w hlt _, strs_push hs s v clock, fun B hB => ⟨rfl, rfl, rfl, by rw [size_set]; exact Nat.le_refl _, fun c hc => heap_set_ne w (by omega) _⟩, fun c hc => heap_set_ne w hc _, size_set w b _⟩
end Go.Proofs.YtpknhgejnfmijaaGreatDoor.MapS
end
section
namespace Go.Proofs.YtpknhgejnfmijaaGreatDoor.E
open Go Go.Proofs.YtpknhgejnfmijaaGreatDoor.U
set_option linter.unusedVariables false
set_option linter.unusedSimpArgs false
def numF (b m : Nat) : Nat → Nat → List UInt8 → List UInt8 × Nat
  | _, _, [] => ([], 0)
  | n, i, c :: l => if i < m ∧ dig c < b then numF b m (n * b + dig c) (i + 1) l else if i = 0 then ([], 0) else if c = 59 then (put n, i) else ([], 0)
theorem dig_semi : dig 59 = 99 := by decide
theorem numF_cut (b m : Nat) (hb : b ≤ 16) : ∀ (l : List UInt8) (n i : Nat), i ≤ m → numF b m n i l = (match cut l with | none => ([], 0) | some h => if h.all (fun c => decide (dig c < b)) = true ∧ i + h.length ≤ m ∧ 0 < i + h.length then (put (num b n h), i + h.length) else ([], 0)) := by
  intro l
  induction l with
  | nil => intro n i _; rfl
  | cons c l ih =>
    intro n i hi
    simp only [numF]
    by_cases hc : c = 59
    · subst hc
      rw [if_neg (by rw [dig_semi]; omega), show cut (59 :: l) = some [] from rfl]
      by_cases h0 : i = 0
      · subst h0
        simp
      · rw [if_neg h0, if_pos rfl]
        have h1 : ([] : List UInt8).all (fun c => decide (dig c < b)) = true ∧ i + ([] : List UInt8).length ≤ m ∧ 0 < i + ([] : List UInt8).length := ⟨rfl, by simpa using hi, by simp; omega⟩
        simp only
        rw [if_pos h1]
        simp [num]
    · rw [show cut (c :: l) = (cut l).map (c :: ·) by simp [cut, hc]]
      by_cases hd : i < m ∧ dig c < b
      · rw [if_pos hd, ih (n * b + dig c) (i + 1) (by omega)]
        cases hl : cut l with
        | none => rfl
        | some h =>
          simp only [Option.map_some, List.all_cons, List.length_cons, decide_eq_true hd.2, Bool.true_and, num]
          have e : i + 1 + h.length = i + (h.length + 1) := by omega
          rw [e]
      · rw [if_neg hd]
        have hz : (if i = 0 then (([], 0) : List UInt8 × Nat) else if c = 59 then (put n, i) else ([], 0)) = ([], 0) := by
          rw [if_neg hc]
          split <;> rfl
        rw [hz]
        cases hl : cut l with
        | none => rfl
        | some h =>
          simp only [Option.map_some]
          rw [if_neg]
          rintro ⟨h1, h2, h3⟩
          simp only [List.all_cons, Bool.and_eq_true, decide_eq_true_eq, List.length_cons] at h1 h2
          exact hd ⟨by omega, h1.1⟩
theorem numF_numR (b m : Nat) (hb : b ≤ 16) (l : List UInt8) : numF b m 0 0 l = (match cut l with | none => ([], 0) | some h => (numR b m h, if numR b m h = [] ∧ ¬ (h.all (fun c => decide (dig c < b)) = true ∧ h.length ≤ m ∧ 0 < h.length) then 0 else h.length)) := by
  rw [numF_cut b m hb l 0 0 (by omega)]
  cases cut l with
  | none => rfl
  | some h =>
    simp only [Nat.zero_add]
    by_cases hc : h.all (fun c => decide (dig c < b)) = true ∧ h.length ≤ m ∧ 0 < h.length
    · rw [if_pos hc, if_neg (fun e => e.2 hc)]
      unfold numR
      rw [if_pos ⟨by intro e; rw [e] at hc; simp at hc, hc.2.1, hc.1⟩]
    · have hn : numR b m h = [] := by
        unfold numR
        rw [if_neg]
        rintro ⟨h1, h2, h3⟩
        exact hc ⟨h3, h2, List.length_pos_iff.mpr h1⟩
      rw [if_neg hc, hn, if_pos ⟨rfl, hc⟩]
theorem cut_split : ∀ (t nm : List UInt8), cut t = some nm → ∃ r, t = nm ++ 59 :: r := by
  intro t
  induction t with
  | nil => intro nm h; cases h
  | cons c t ih =>
    intro nm h
    simp only [cut] at h
    by_cases hc : c = 59
    · rw [if_pos hc] at h
      cases h
      exact ⟨t, by rw [hc]; rfl⟩
    · rw [if_neg hc] at h
      cases ht : cut t with
      | none => rw [ht] at h; cases h
      | some x =>
        rw [ht] at h
        cases h
        obtain ⟨r, hr⟩ := ih x ht
        exact ⟨r, by rw [hr]; rfl⟩
def beg (l p : List UInt8) : Bool := p.isPrefixOf l
theorem beg_iff (l p : List UInt8) : beg l p = true ↔ ∃ r, l = p ++ r := by
  unfold beg
  rw [List.isPrefixOf_iff_prefix]
  constructor
  · rintro ⟨r, h⟩; exact ⟨r, h.symm⟩
  · rintro ⟨r, h⟩; exact ⟨r, h.symm⟩
theorem ref_beg (l nm x : List UInt8) (hn : nameR nm = x) (hx : x ≠ []) (h59 : (59 : UInt8) ∉ nm) (h : beg l (38 :: (nm ++ [59])) = true) : refR l = (x, nm.length + 2) := by
  obtain ⟨r, rfl⟩ := (beg_iff _ _).mp h
  have e : (38 :: (nm ++ [59])) ++ r = 38 :: (nm ++ 59 :: r) := by simp
  rw [e]
  exact ref_known nm x r h59 hn hx
theorem cut_cons (c : UInt8) (t : List UInt8) (h : c ≠ 59) : cut (c :: t) = (cut t).map (c :: ·) := by simp [cut, h]
theorem ref_hex (t : List UInt8) : refR (38 :: 35 :: 120 :: t) = (if (numF 16 6 0 0 t).1 = [] then ([], 0) else ((numF 16 6 0 0 t).1, 3 + (numF 16 6 0 0 t).2 + 1)) := by
  rw [refR_amp, cut_cons 35 _ (by decide), cut_cons 120 _ (by decide), numF_numR 16 6 (by decide) t]
  cases cut t with
  | none => rfl
  | some h =>
    show (if numR 16 6 h = [] then (([], 0) : List UInt8 × Nat) else (numR 16 6 h, (35 :: 120 :: h).length + 2)) = if numR 16 6 h = [] then ([], 0) else (numR 16 6 h, 3 + (if numR 16 6 h = [] ∧ _ then 0 else h.length) + 1)
    by_cases e : numR 16 6 h = []
    · rw [if_pos e, if_pos e]
    · rw [if_neg e, if_neg e, if_neg (fun x => e x.1)]
      simp only [List.length_cons, Prod.mk.injEq, true_and]
      omega
theorem ref_dec (t : List UInt8) (hx : ∀ h, t ≠ 120 :: h) : refR (38 :: 35 :: t) = (if (numF 10 7 0 0 t).1 = [] then ([], 0) else ((numF 10 7 0 0 t).1, 2 + (numF 10 7 0 0 t).2 + 1)) := by
  rw [refR_amp, cut_cons 35 _ (by decide), numF_numR 10 7 (by decide) t]
  cases hc : cut t with
  | none => rfl
  | some h =>
    have hh : ∀ d, h ≠ 120 :: d := by
      rintro d rfl
      obtain ⟨r, hr⟩ := cut_split t _ hc
      exact hx (d ++ 59 :: r) (by rw [hr]; rfl)
    have hn : nameR (35 :: h) = numR 10 7 h := by
      unfold nameR
      split
      · rename_i d he; cases he; exact absurd rfl (hh d)
      · rename_i he; cases he; rfl
      · rename_i h1 h2; exact absurd rfl (h2 h)
    show (if nameR (35 :: h) = [] then (([], 0) : List UInt8 × Nat) else (nameR (35 :: h), (35 :: h).length + 2)) = if numR 10 7 h = [] then ([], 0) else (numR 10 7 h, 2 + (if numR 10 7 h = [] ∧ _ then 0 else h.length) + 1)
    rw [hn]
    by_cases e : numR 10 7 h = []
    · rw [if_pos e, if_pos e]
    · rw [if_neg e, if_neg e, if_neg (fun x => e x.1)]
      simp only [List.length_cons, Prod.mk.injEq, true_and]
      omega
theorem ref_rest (l : List UInt8) (h0 : beg l [38, 97, 109, 112, 59] = false) (h1 : beg l [38, 108, 116, 59] = false) (h2 : beg l [38, 103, 116, 59] = false) (h3 : beg l [38, 113, 117, 111, 116, 59] = false) (h4 : beg l [38, 97, 112, 111, 115, 59] = false)
    (h5 : beg l [38, 35] = false) : refR l = ([], 0) := by
  have nb : ∀ p, beg l p = false → ∀ r, l ≠ p ++ r := fun p h r e => by
    have := (beg_iff l p).mpr ⟨r, e⟩
    rw [this] at h
    cases h
  cases l with
  | nil => rfl
  | cons c t =>
    by_cases hc : c = 38
    · subst hc
      rw [refR_amp]
      cases hcut : cut t with
      | none => rfl
      | some nm =>
        obtain ⟨r, rfl⟩ := cut_split t nm hcut
        simp only
        have h35 : ∀ d, nm ≠ 35 :: d := by
          rintro d rfl
          exact nb _ h5 (d ++ 59 :: r) rfl
        have hn : nameR nm = word nm := by
          unfold nameR
          split
          · exact absurd rfl (h35 _)
          · exact absurd rfl (h35 _)
          · rfl
        have hw : word nm = [] := by
          unfold word
          rw [if_neg (by rintro rfl; exact nb _ h0 r rfl), if_neg (by rintro rfl; exact nb _ h1 r rfl), if_neg (by rintro rfl; exact nb _ h2 r rfl), if_neg (by rintro rfl; exact nb _ h3 r rfl), if_neg (by rintro rfl; exact nb _ h4 r rfl)]
        rw [hn, hw, if_pos rfl]
    · exact refR_other c t hc
end Go.Proofs.YtpknhgejnfmijaaGreatDoor.E
end
