/- A text of the claim, with what no other text of it needs taken out. -/
import Derived.Lib.DecodeN
namespace Go.Proofs.YtpknhgejnfmijaaDoor.U
open Go
set_option linter.unusedVariables false
set_option linter.unusedSimpArgs false
def isx (c : Nat) : Bool := c == 9 || c == 10 || c == 13 || (decide (32 ≤ c) && decide (c ≤ 55295)) || (decide (57344 ≤ c) && decide (c ≤ 65533)) || (decide (65536 ≤ c) && decide (c ≤ 1114111))
theorem isx_iff (c : Nat) : isx c = true ↔ (c = 9 ∨ c = 10 ∨ c = 13 ∨ (32 ≤ c ∧ c ≤ 55295) ∨ (57344 ≤ c ∧ c ≤ 65533) ∨ (65536 ≤ c ∧ c ≤ 1114111)) := by
  simp [isx, or_assoc]
def enc (c : Nat) : List UInt8 :=
  if c < 128 then [UInt8.ofNat c]
  else if c < 2048 then [UInt8.ofNat (192 + c / 64), UInt8.ofNat (128 + c % 64)]
  else if c < 65536 then [UInt8.ofNat (224 + c / 4096), UInt8.ofNat (128 + c / 64 % 64), UInt8.ofNat (128 + c % 64)]
  else [UInt8.ofNat (240 + c / 262144), UInt8.ofNat (128 + c / 4096 % 64), UInt8.ofNat (128 + c / 64 % 64), UInt8.ofNat (128 + c % 64)]
theorem encode_of (c : Nat) (h : isx c = true) : (Utf8.encode (c : Int)) = ⟨(enc c).toArray⟩ := by
  rw [isx_iff] at h
  have hv : Utf8.valid (c : Int) = true := by
    simp only [Utf8.valid, Bool.or_eq_true, Bool.and_eq_true, decide_eq_true_eq]
    omega
  simp only [Utf8.encode, hv, if_true, Int.toNat_natCast, enc]
  by_cases h1 : c < 128
  · simp [h1]
  · by_cases h2 : c < 2048
    · simp [h1, h2]
    · by_cases h3 : c < 65536
      · simp [h1, h2, h3]
      · simp [h1, h2, h3]
def dec (l : List UInt8) : Nat × Nat := Lib.decodeN l.length (l.getD 0 0).toNat (l.getD 1 0).toNat (l.getD 2 0).toNat (l.getD 3 0).toNat
theorem getD_lt (l : List UInt8) (i : Nat) : (l.getD i 0).toNat < 256 := UInt8.toNat_lt _
theorem get_bang (s : ByteArray) (i : Nat) : s.get! i = s.data.toList.getD i 0 := by
  show s.data[i]! = _
  by_cases h : i < s.data.size
  · rw [getElem!_pos s.data i h]
    rw [List.getD, Array.getElem?_toList, Array.getElem?_eq_getElem h]
    rfl
  · rw [getElem!_neg s.data i h, List.getD, Array.getElem?_toList, Array.getElem?_eq_none (by omega)]
    rfl
theorem decode_dec (s : ByteArray) (i : Nat) : Utf8.decode s i = dec (s.data.toList.drop i) := by
  rw [Lib.decode_at]
  simp only [dec, get_bang, List.getD, List.getElem?_drop, List.length_drop, Array.length_toList, Nat.add_zero]
  rfl
def nx (l : List UInt8) : Nat × Nat := if l = [] then (0, 0) else if isx (dec l).1 = true ∧ ¬ ((dec l).1 = 65533 ∧ (dec l).2 = 1) then dec l else (0, 0)
theorem enc_length (c : Nat) : (enc c).length = if c < 128 then 1 else if c < 2048 then 2 else if c < 65536 then 3 else 4 := by
  unfold enc
  repeat' split
  all_goals rfl
theorem ofNat_eq_iff (n : Nat) (b : UInt8) (h : n < 256) : UInt8.ofNat n = b ↔ b.toNat = n := by
  constructor
  · rintro rfl
    simp
    omega
  · intro e
    subst e
    simp
theorem dec_enc (c : Nat) (h : isx c = true) (t : List UInt8) : dec (enc c ++ t) = (c, (enc c).length) := by
  rw [isx_iff] at h
  unfold enc
  by_cases h1 : c < 128
  · have e1 : (UInt8.ofNat c).toNat = c := by simp; omega
    simp only [if_pos h1, dec, Lib.decodeN, List.getD, List.cons_append, List.getElem?_cons_zero, Option.getD_some, e1]
    rfl
  · rw [if_neg h1]
    by_cases h2 : c < 2048
    · have e1 : (UInt8.ofNat (192 + c / 64)).toNat = 192 + c / 64 := by simp; omega
      have e2 : (UInt8.ofNat (128 + c % 64)).toNat = 128 + c % 64 := by simp; omega
      simp only [if_pos h2, dec, Lib.decodeN, List.getD, List.cons_append, List.getElem?_cons_zero, List.getElem?_cons_succ, Option.getD_some, e1, e2, List.length_cons]
      rw [if_neg (by omega), if_pos (by omega), if_pos (by omega)]
      refine Prod.ext ?_ ?_
      · simp only; omega
      · simp
    · rw [if_neg h2]
      by_cases h3 : c < 65536
      · have e1 : (UInt8.ofNat (224 + c / 4096)).toNat = 224 + c / 4096 := by simp; omega
        have e2 : (UInt8.ofNat (128 + c / 64 % 64)).toNat = 128 + c / 64 % 64 := by simp; omega
        have e3 : (UInt8.ofNat (128 + c % 64)).toNat = 128 + c % 64 := by simp; omega
        simp only [if_pos h3, dec, Lib.decodeN, List.getD, List.cons_append, List.getElem?_cons_zero, List.getElem?_cons_succ, Option.getD_some, e1, e2, e3, List.length_cons]
        rw [if_neg (by omega), if_neg (by omega), if_pos (by omega), if_pos (by omega)]
        refine Prod.ext ?_ ?_
        · simp only; omega
        · simp
      · rw [if_neg h3]
        have e1 : (UInt8.ofNat (240 + c / 262144)).toNat = 240 + c / 262144 := by simp; omega
        have e2 : (UInt8.ofNat (128 + c / 4096 % 64)).toNat = 128 + c / 4096 % 64 := by simp; omega
        have e3 : (UInt8.ofNat (128 + c / 64 % 64)).toNat = 128 + c / 64 % 64 := by simp; omega
        have e4 : (UInt8.ofNat (128 + c % 64)).toNat = 128 + c % 64 := by simp; omega
        simp only [dec, Lib.decodeN, List.getD, List.cons_append, List.getElem?_cons_zero, List.getElem?_cons_succ, Option.getD_some, e1, e2, e3, e4, List.length_cons]
        rw [if_neg (by omega), if_neg (by omega), if_neg (by omega), if_pos (by omega), if_pos (by omega)]
        refine Prod.ext ?_ ?_
        · simp only; omega
        · simp
def number (l : List UInt8) (n : Nat) : Int :=
  if n = 1 then (l.getD 0 0).toNat
  else if n = 2 then ((l.getD 0 0).toNat - 192) * 64 + (l.getD 1 0).toNat - 128
  else if n = 3 then (((l.getD 0 0).toNat - 224) * 64 + (l.getD 1 0).toNat - 128) * 64 + (l.getD 2 0).toNat - 128
  else ((((l.getD 0 0).toNat - 240) * 64 + (l.getD 1 0).toNat - 128) * 64 + (l.getD 2 0).toNat - 128) * 64 + (l.getD 3 0).toNat - 128
theorem number_two (l : List UInt8) : number l 2 = ((l.getD 0 0).toNat - 192) * 64 + (l.getD 1 0).toNat - 128 := rfl
theorem number_three (l : List UInt8) : number l 3 = (((l.getD 0 0).toNat - 224) * 64 + (l.getD 1 0).toNat - 128) * 64 + (l.getD 2 0).toNat - 128 := rfl
theorem number_four (l : List UInt8) : number l 4 = ((((l.getD 0 0).toNat - 240) * 64 + (l.getD 1 0).toNat - 128) * 64 + (l.getD 2 0).toNat - 128) * 64 + (l.getD 3 0).toNat - 128 := rfl
theorem take_one (l : List UInt8) (h : 1 ≤ l.length) : l.take 1 = [l.getD 0 0] := by
  match l, h with
  | a :: t, _ => rfl
theorem take_two (l : List UInt8) (h : 2 ≤ l.length) : l.take 2 = [l.getD 0 0, l.getD 1 0] := by
  match l, h with
  | a :: b :: t, _ => rfl
theorem take_three (l : List UInt8) (h : 3 ≤ l.length) : l.take 3 = [l.getD 0 0, l.getD 1 0, l.getD 2 0] := by
  match l, h with
  | a :: b :: c :: t, _ => rfl
theorem take_four (l : List UInt8) (h : 4 ≤ l.length) : l.take 4 = [l.getD 0 0, l.getD 1 0, l.getD 2 0, l.getD 3 0] := by
  match l, h with
  | a :: b :: c :: d :: t, _ => rfl
theorem dec_good (l : List UInt8) (h0 : l ≠ []) (hx : isx (dec l).1 = true) (hne : ¬ ((dec l).1 = 65533 ∧ (dec l).2 = 1)) :
    enc (dec l).1 = l.take (dec l).2 ∧ (dec l).2 ≤ l.length ∧ 1 ≤ (dec l).2 ∧ (dec l).2 ≤ 4 ∧ number l (dec l).2 = ((dec l).1 : Int) := by
  rw [isx_iff] at hx
  have hl : 1 ≤ l.length := by
    cases l with
    | nil => exact absurd rfl h0
    | cons a t => simp
  have g0 := getD_lt l 0
  have g1 := getD_lt l 1
  have g2 := getD_lt l 2
  have g3 := getD_lt l 3
  unfold dec Lib.decodeN at hx hne ⊢
  by_cases h1 : (l.getD 0 0).toNat < 128
  · rw [if_pos h1] at hx hne ⊢
    refine ⟨?_, hl, by simp, by simp, by simp [number]⟩
    simp only [enc, if_pos h1, take_one l hl]
    simp
  · rw [if_neg h1] at hx hne ⊢
    by_cases h2 : (l.getD 0 0).toNat / 32 = 6 ∧ (1 < l.length ∧ (l.getD 1 0).toNat / 64 = 2)
    · rw [if_pos h2] at hx hne ⊢
      by_cases h3 : (l.getD 0 0).toNat % 32 * 64 + (l.getD 1 0).toNat % 64 ≥ 128
      · rw [if_pos h3] at hx hne ⊢
        refine ⟨?_, by simp only; omega, by simp, by simp, by rw [number_two]; simp only; omega⟩
        simp only [enc]
        rw [if_neg (by omega), if_pos (by omega), take_two l (by omega)]
        congr 1
        · rw [ofNat_eq_iff _ _ (by omega)]; omega
        · congr 1
          rw [ofNat_eq_iff _ _ (by omega)]; omega
      · rw [if_neg h3] at hne
        exact absurd ⟨rfl, rfl⟩ hne
    · rw [if_neg h2] at hx hne ⊢
      by_cases h3 : (l.getD 0 0).toNat / 16 = 14 ∧ (1 < l.length ∧ (l.getD 1 0).toNat / 64 = 2) ∧ (2 < l.length ∧ (l.getD 2 0).toNat / 64 = 2)
      · rw [if_pos h3] at hx hne ⊢
        split at hne
        · rename_i h4
          rw [if_pos h4] at hx ⊢
          refine ⟨?_, by simp only; omega, by simp, by simp, by rw [number_three]; simp only; omega⟩
          simp only [enc]
          rw [if_neg (by omega), if_neg (by omega), if_pos (by omega), take_three l (by omega)]
          congr 1
          · rw [ofNat_eq_iff _ _ (by omega)]; omega
          · congr 1
            · rw [ofNat_eq_iff _ _ (by omega)]; omega
            · congr 1
              rw [ofNat_eq_iff _ _ (by omega)]; omega
        · exact absurd ⟨rfl, rfl⟩ hne
      · rw [if_neg h3] at hx hne ⊢
        split at hne
        · rename_i h4
          rw [if_pos h4] at hx ⊢
          split at hne
          · rename_i h5
            rw [if_pos h5] at hx ⊢
            refine ⟨?_, by simp only; omega, by simp, by simp, by rw [number_four]; simp only; omega⟩
            simp only [enc]
            rw [if_neg (by omega), if_neg (by omega), if_neg (by omega), take_four l (by omega)]
            congr 1
            · rw [ofNat_eq_iff _ _ (by omega)]; omega
            · congr 1
              · rw [ofNat_eq_iff _ _ (by omega)]; omega
              · congr 1
                · rw [ofNat_eq_iff _ _ (by omega)]; omega
                · congr 1
                  rw [ofNat_eq_iff _ _ (by omega)]; omega
          · exact absurd ⟨rfl, rfl⟩ hne
        · exact absurd ⟨rfl, rfl⟩ hne
theorem enc_pos (c : Nat) : 1 ≤ (enc c).length := by
  rw [enc_length]
  repeat' split
  all_goals omega
theorem bad_not_there (l : List UInt8) (h : dec l = (65533, 1)) : l.take (enc 65533).length ≠ enc 65533 := by
  intro e
  have h2 := dec_enc 65533 (by decide) (l.drop (enc 65533).length)
  have h3 : enc 65533 ++ l.drop (enc 65533).length = l := by
    have := List.take_append_drop (enc 65533).length l
    rwa [e] at this
  rw [h3, h] at h2
  simp [enc] at h2
theorem step_iff (l : List UInt8) (h0 : l ≠ []) :
    (isx (dec l).1 = true ∧ l.take (enc (dec l).1).length = enc (dec l).1) ↔ (nx l).2 ≠ 0 := by
  unfold nx
  rw [if_neg h0]
  constructor
  · rintro ⟨hx, he⟩
    have hne : ¬ ((dec l).1 = 65533 ∧ (dec l).2 = 1) := by
      rintro ⟨e1, e2⟩
      have : dec l = (65533, 1) := Prod.ext e1 e2
      rw [e1] at he
      exact bad_not_there l this he
    rw [if_pos ⟨hx, hne⟩]
    have := (dec_good l h0 hx hne).2.2.1
    omega
  · intro h
    split at h
    · rename_i hh
      obtain ⟨e, hle, _⟩ := dec_good l h0 hh.1 hh.2
      refine ⟨hh.1, ?_⟩
      rw [e, List.length_take, Nat.min_eq_left hle]
    · exact absurd rfl h
theorem nx_good (l : List UInt8) (h : (nx l).2 ≠ 0) :
    l ≠ [] ∧ dec l = nx l ∧ isx (nx l).1 = true ∧ enc (nx l).1 = l.take (nx l).2 ∧ (nx l).2 = (enc (nx l).1).length ∧ (nx l).2 ≤ l.length ∧ 1 ≤ (nx l).2 ∧ (nx l).2 ≤ 4 ∧ number l (nx l).2 = ((nx l).1 : Int) := by
  unfold nx at h ⊢
  by_cases h0 : l = []
  · rw [if_pos h0] at h
    exact absurd rfl h
  · rw [if_neg h0] at h ⊢
    split at h
    · rename_i hh
      rw [if_pos hh]
      obtain ⟨e, hle, h1, h4, hn⟩ := dec_good l h0 hh.1 hh.2
      exact ⟨h0, rfl, hh.1, e, by rw [e, List.length_take, Nat.min_eq_left hle], hle, h1, h4, hn⟩
    · exact absurd rfl h
theorem nx_enc (c : Nat) (h : isx c = true) (t : List UInt8) : nx (enc c ++ t) = (c, (enc c).length) := by
  have hp := enc_pos c
  have hd := dec_enc c h t
  unfold nx
  rw [if_neg (by intro e; have := congrArg List.length e; simp at this; simp [this] at hp), hd]
  by_cases hc : c = 65533
  · subst hc
    rfl
  · rw [if_pos ⟨h, fun hh => hc hh.1⟩]
theorem nx_of_take (c : Nat) (h : isx c = true) (l : List UInt8) (e : l.take (enc c).length = enc c) : nx l = (c, (enc c).length) := by
  have h2 := nx_enc c h (l.drop (enc c).length)
  have h3 : enc c ++ l.drop (enc c).length = l := by
    have := List.take_append_drop (enc c).length l
    rwa [e] at this
  rwa [h3] at h2
end Go.Proofs.YtpknhgejnfmijaaDoor.U
