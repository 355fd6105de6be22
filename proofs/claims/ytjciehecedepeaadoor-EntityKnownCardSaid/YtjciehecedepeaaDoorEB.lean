/- A text of the claim, with what no other text of it needs taken out. -/
import Derived.Test.YtjciehecedepeaaDoorEA
namespace Go.Proofs.YtjciehecedepeaaDoor.E
open Go Go.Proofs.YtjciehecedepeaaDoor.U
set_option linter.unusedVariables false
set_option linter.unusedSimpArgs false
def numF (b m : Nat) : Nat → Nat → List UInt8 → List UInt8 × Nat
  | _, _, [] => ([], 0)
  | n, i, c :: l => if i < m ∧ dig c < b then numF b m (n * b + dig c) (i + 1) l else if i = 0 then ([], 0) else if c = 59 then (put n, i) else ([], 0)
theorem dig_semi : dig 59 = 99 := by decide
theorem numF_cut (b m : Nat) (hb : b ≤ 16) : ∀ (l : List UInt8) (n i : Nat), i ≤ m → numF b m n i l = (match cut l with | none => ([], 0) | some h => if h.all (fun c => decide (dig c < b)) = true ∧ i + h.length ≤ m ∧ 0 < i + h.length then (put (num b n h), i + h.length) else ([], 0)) := by
  intro l
  induction l with
  | nil => intro n i _; rfl
  | cons c l ih =>
    intro n i hi
    simp only [numF]
    by_cases hc : c = 59
    · subst hc
      rw [if_neg (by rw [dig_semi]; omega), show cut (59 :: l) = some [] from rfl]
      by_cases h0 : i = 0
      · subst h0
        simp
      · rw [if_neg h0, if_pos rfl]
        have h1 : ([] : List UInt8).all (fun c => decide (dig c < b)) = true ∧ i + ([] : List UInt8).length ≤ m ∧ 0 < i + ([] : List UInt8).length := ⟨rfl, by simpa using hi, by simp; omega⟩
        simp only
        rw [if_pos h1]
        simp [num]
    · rw [show cut (c :: l) = (cut l).map (c :: ·) by simp [cut, hc]]
      by_cases hd : i < m ∧ dig c < b
      · rw [if_pos hd, ih (n * b + dig c) (i + 1) (by omega)]
        cases hl : cut l with
        | none => rfl
        | some h =>
          simp only [Option.map_some, List.all_cons, List.length_cons, decide_eq_true hd.2, Bool.true_and, num]
          have e : i + 1 + h.length = i + (h.length + 1) := by omega
          rw [e]
      · rw [if_neg hd]
        have hz : (if i = 0 then (([], 0) : List UInt8 × Nat) else if c = 59 then (put n, i) else ([], 0)) = ([], 0) := by
          rw [if_neg hc]
          split <;> rfl
        rw [hz]
        cases hl : cut l with
        | none => rfl
        | some h =>
          simp only [Option.map_some]
          rw [if_neg]
          rintro ⟨h1, h2, h3⟩
          simp only [List.all_cons, Bool.and_eq_true, decide_eq_true_eq, List.length_cons] at h1 h2
          exact hd ⟨by omega, h1.1⟩
theorem numF_numR (b m : Nat) (hb : b ≤ 16) (l : List UInt8) : numF b m 0 0 l = (match cut l with | none => ([], 0) | some h => (numR b m h, if numR b m h = [] ∧ ¬ (h.all (fun c => decide (dig c < b)) = true ∧ h.length ≤ m ∧ 0 < h.length) then 0 else h.length)) := by
  rw [numF_cut b m hb l 0 0 (by omega)]
  cases cut l with
  | none => rfl
  | some h =>
    simp only [Nat.zero_add]
    by_cases hc : h.all (fun c => decide (dig c < b)) = true ∧ h.length ≤ m ∧ 0 < h.length
    · rw [if_pos hc, if_neg (fun e => e.2 hc)]
      unfold numR
      rw [if_pos ⟨by intro e; rw [e] at hc; simp at hc, hc.2.1, hc.1⟩]
    · have hn : numR b m h = [] := by
        unfold numR
        rw [if_neg]
        rintro ⟨h1, h2, h3⟩
        exact hc ⟨h3, h2, List.length_pos_iff.mpr h1⟩
      rw [if_neg hc, hn, if_pos ⟨rfl, hc⟩]
theorem cut_split : ∀ (t nm : List UInt8), cut t = some nm → ∃ r, t = nm ++ 59 :: r := by
  intro t
  induction t with
  | nil => intro nm h; cases h
  | cons c t ih =>
    intro nm h
    simp only [cut] at h
    by_cases hc : c = 59
    · rw [if_pos hc] at h
      cases h
      exact ⟨t, by rw [hc]; rfl⟩
    · rw [if_neg hc] at h
      cases ht : cut t with
      | none => rw [ht] at h; cases h
      | some x =>
        rw [ht] at h
        cases h
        obtain ⟨r, hr⟩ := ih x ht
        exact ⟨r, by rw [hr]; rfl⟩
def beg (l p : List UInt8) : Bool := p.isPrefixOf l
theorem beg_iff (l p : List UInt8) : beg l p = true ↔ ∃ r, l = p ++ r := by
  unfold beg
  rw [List.isPrefixOf_iff_prefix]
  constructor
  · rintro ⟨r, h⟩; exact ⟨r, h.symm⟩
  · rintro ⟨r, h⟩; exact ⟨r, h.symm⟩
theorem ref_beg (l nm x : List UInt8) (hn : nameR nm = x) (hx : x ≠ []) (h59 : (59 : UInt8) ∉ nm) (h : beg l (38 :: (nm ++ [59])) = true) : refR l = (x, nm.length + 2) := by
  obtain ⟨r, rfl⟩ := (beg_iff _ _).mp h
  have e : (38 :: (nm ++ [59])) ++ r = 38 :: (nm ++ 59 :: r) := by simp
  rw [e]
  exact ref_known nm x r h59 hn hx
theorem cut_cons (c : UInt8) (t : List UInt8) (h : c ≠ 59) : cut (c :: t) = (cut t).map (c :: ·) := by simp [cut, h]
theorem ref_hex (t : List UInt8) : refR (38 :: 35 :: 120 :: t) = (if (numF 16 6 0 0 t).1 = [] then ([], 0) else ((numF 16 6 0 0 t).1, 3 + (numF 16 6 0 0 t).2 + 1)) := by
  rw [refR_amp, cut_cons 35 _ (by decide), cut_cons 120 _ (by decide), numF_numR 16 6 (by decide) t]
  cases cut t with
  | none => rfl
  | some h =>
    show (if numR 16 6 h = [] then (([], 0) : List UInt8 × Nat) else (numR 16 6 h, (35 :: 120 :: h).length + 2)) = if numR 16 6 h = [] then ([], 0) else (numR 16 6 h, 3 + (if numR 16 6 h = [] ∧ _ then 0 else h.length) + 1)
    by_cases e : numR 16 6 h = []
    · rw [if_pos e, if_pos e]
    · rw [if_neg e, if_neg e, if_neg (fun x => e x.1)]
      simp only [List.length_cons, Prod.mk.injEq, true_and]
      omega
theorem ref_dec (t : List UInt8) (hx : ∀ h, t ≠ 120 :: h) : refR (38 :: 35 :: t) = (if (numF 10 7 0 0 t).1 = [] then ([], 0) else ((numF 10 7 0 0 t).1, 2 + (numF 10 7 0 0 t).2 + 1)) := by
  rw [refR_amp, cut_cons 35 _ (by decide), numF_numR 10 7 (by decide) t]
  cases hc : cut t with
  | none => rfl
  | some h =>
    have hh : ∀ d, h ≠ 120 :: d := by
      rintro d rfl
      obtain ⟨r, hr⟩ := cut_split t _ hc
      exact hx (d ++ 59 :: r) (by rw [hr]; rfl)
    have hn : nameR (35 :: h) = numR 10 7 h := by
      unfold nameR
      split
      · rename_i d he; cases he; exact absurd rfl (hh d)
      · rename_i he; cases he; rfl
      · rename_i h1 h2; exact absurd rfl (h2 h)
    show (if nameR (35 :: h) = [] then (([], 0) : List UInt8 × Nat) else (nameR (35 :: h), (35 :: h).length + 2)) = if numR 10 7 h = [] then ([], 0) else (numR 10 7 h, 2 + (if numR 10 7 h = [] ∧ _ then 0 else h.length) + 1)
    rw [hn]
    by_cases e : numR 10 7 h = []
    · rw [if_pos e, if_pos e]
    · rw [if_neg e, if_neg e, if_neg (fun x => e x.1)]
      simp only [List.length_cons, Prod.mk.injEq, true_and]
      omega
theorem ref_rest (l : List UInt8) (h0 : beg l [38, 97, 109, 112, 59] = false) (h1 : beg l [38, 108, 116, 59] = false) (h2 : beg l [38, 103, 116, 59] = false) (h3 : beg l [38, 113, 117, 111, 116, 59] = false) (h4 : beg l [38, 97, 112, 111, 115, 59] = false)
    (h5 : beg l [38, 35] = false) : refR l = ([], 0) := by
  have nb : ∀ p, beg l p = false → ∀ r, l ≠ p ++ r := fun p h r e => by
    have := (beg_iff l p).mpr ⟨r, e⟩
    rw [this] at h
    cases h
  cases l with
  | nil => rfl
  | cons c t =>
    by_cases hc : c = 38
    · subst hc
      rw [refR_amp]
      cases hcut : cut t with
      | none => rfl
      | some nm =>
        obtain ⟨r, rfl⟩ := cut_split t nm hcut
        simp only
        have h35 : ∀ d, nm ≠ 35 :: d := by
          rintro d rfl
          exact nb _ h5 (d ++ 59 :: r) rfl
        have hn : nameR nm = word nm := by
          unfold nameR
          split
          · exact absurd rfl (h35 _)
          · exact absurd rfl (h35 _)
          · rfl
        have hw : word nm = [] := by
          unfold word
          rw [if_neg (by rintro rfl; exact nb _ h0 r rfl), if_neg (by rintro rfl; exact nb _ h1 r rfl), if_neg (by rintro rfl; exact nb _ h2 r rfl), if_neg (by rintro rfl; exact nb _ h3 r rfl), if_neg (by rintro rfl; exact nb _ h4 r rfl)]
        rw [hn, hw, if_pos rfl]
    · exact refR_other c t hc
end Go.Proofs.YtjciehecedepeaaDoor.E
