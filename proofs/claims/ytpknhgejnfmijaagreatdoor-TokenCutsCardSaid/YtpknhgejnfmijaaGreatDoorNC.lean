/- A text of the claim, with what no other text of it needs taken out. -/
import Derived.Test.YtpknhgejnfmijaaGreatDoorNA
import Derived.Lib.Bytealg
namespace Go.Proofs.YtpknhgejnfmijaaGreatDoor.M
open Go Go.RowKit
set_option linter.unusedVariables false
set_option linter.unusedSimpArgs false
def plainL (l : List UInt8) : Bool := decide (0 < lenL l) && decide (lenL l = l.length)
theorem takeWhile_all (p : UInt8 → Bool) : ∀ t : List UInt8, (t.takeWhile p).length = t.length ↔ t.all p = true := by
  intro t
  induction t with
  | nil => simp
  | cons b t ih =>
    rw [List.takeWhile_cons, List.all_cons]
    by_cases h : p b = true
    · simp only [h, if_true, List.length_cons, Bool.true_and]
      rw [← ih]
      omega
    · simp [h]
theorem takeWhile_take (p : UInt8 → Bool) : ∀ (t : List UInt8) (m : Nat), m ≤ t.length → ((t.take m).all p = true ↔ m ≤ (t.takeWhile p).length) := by
  intro t
  induction t with
  | nil => intro m hm; simp at hm; simp [hm]
  | cons b t ih =>
    intro m hm
    cases m with
    | zero => simp
    | succ m =>
      rw [List.take_succ_cons, List.all_cons, List.takeWhile_cons]
      by_cases h : p b = true
      · simp only [h, if_true, List.length_cons, Bool.true_and]
        rw [ih m (by simpa using hm)]
        omega
      · simp [h]
theorem takeWhile_mem (p : UInt8 → Bool) : ∀ (t : List UInt8) (i : Nat) (h : i < t.length), i < (t.takeWhile p).length → p (t[i]) = true := by
  intro t
  induction t with
  | nil => intro i h; simp at h
  | cons b t ih =>
    intro i h hi
    rw [List.takeWhile_cons] at hi
    by_cases hb : p b = true
    · rw [if_pos hb, List.length_cons] at hi
      cases i with
      | zero => exact hb
      | succ i => exact ih i (by simpa using h) (by omega)
    · rw [if_neg hb] at hi
      simp at hi
theorem lenL_cons (b : UInt8) (t : List UInt8) : lenL (b :: t) = if isF b = true then 1 + (t.takeWhile isM).length else 0 := rfl
theorem plain_cons (b : UInt8) (t : List UInt8) : plainL (b :: t) = (isF b && t.all isM) := by
  rw [Bool.eq_iff_iff]
  unfold plainL
  rw [lenL_cons]
  by_cases h : isF b = true
  · rw [if_pos h]
    simp only [h, Bool.true_and, Bool.and_eq_true, decide_eq_true_eq, List.length_cons]
    rw [← takeWhile_all]
    omega
  · simp [h]
theorem plain_nil : plainL [] = false := rfl
theorem plain_all (l : List UInt8) (h : plainL l = true) : l.all isM = true := by
  cases l with
  | nil => rfl
  | cons b t =>
    rw [plain_cons, Bool.and_eq_true] at h
    rw [List.all_cons, isF_isM b h.1, h.2]
    rfl
theorem plain_take (l : List UInt8) (n : Nat) (hn : n ≤ l.length) : plainL (l.take n) = true ↔ 1 ≤ n ∧ n ≤ lenL l := by
  cases n with
  | zero => simp [plain_nil]
  | succ n =>
    cases l with
    | nil => simp at hn
    | cons b t =>
      rw [List.take_succ_cons, plain_cons, Bool.and_eq_true, takeWhile_take isM t n (by simpa using hn), lenL_cons]
      by_cases h : isF b = true
      · rw [if_pos h]
        simp only [h, true_and]
        omega
      · simp [h]
theorem lenL_mem (l : List UInt8) (i : Nat) (h : i < l.length) (hi : i < lenL l) : isM (l[i]) = true := by
  cases l with
  | nil => simp at h
  | cons b t =>
    rw [lenL_cons] at hi
    by_cases hb : isF b = true
    · rw [if_pos hb] at hi
      cases i with
      | zero => exact isF_isM b hb
      | succ i => exact takeWhile_mem isM t i (by simpa using h) (by omega)
    · rw [if_neg hb] at hi
      omega
theorem colon_not : isM 58 = false := by decide
theorem idx_cases (c : UInt8) : ∀ l : List UInt8, (Lib.indexByte l c = -1 ∧ c ∉ l) ∨ ∃ p q, l = p ++ c :: q ∧ c ∉ p ∧ Lib.indexByte l c = (p.length : Int) := by
  intro l
  induction l with
  | nil => exact .inl ⟨rfl, by simp⟩
  | cons b l ih =>
    unfold Lib.indexByte
    by_cases h : (b == c) = true
    · have : b = c := by simpa using h
      subst this
      exact .inr ⟨[], l, rfl, by simp, by rw [if_pos h]; rfl⟩
    · have hb : ¬ c = b := fun e => h (by simp [e])
      rw [if_neg h]
      rcases ih with ⟨h1, h2⟩ | ⟨p, q, h1, h2, h3⟩
      · refine .inl ⟨?_, by simp [hb, h2]⟩
        rw [h1]
        rfl
      · refine .inr ⟨b :: p, q, by rw [h1]; rfl, by simp [hb, h2], ?_⟩
        rw [h3, if_neg (by simp <;> omega)]
        simp
theorem idx_at (c : UInt8) (p q : List UInt8) (h : c ∉ p) : Lib.indexByte (p ++ c :: q) c = (p.length : Int) := by
  induction p with
  | nil => simp [Lib.indexByte]
  | cons b p ih =>
    have h1 : ¬ (b == c) = true := by
      intro e
      have : b = c := by simpa using e
      exact h (by simp [this])
    rw [List.cons_append]
    unfold Lib.indexByte
    rw [if_neg h1, ih (fun e => h (by simp [e])), if_neg (by simp <;> omega)]
    simp
theorem idx_none (c : UInt8) (l : List UInt8) (h : c ∉ l) : Lib.indexByte l c = -1 := by
  rcases idx_cases c l with h1 | ⟨p, q, h1, _⟩
  · exact h1.1
  · exact absurd (by rw [h1]; simp) h
theorem all_no_colon (l : List UInt8) (h : l.all isM = true) : (58 : UInt8) ∉ l := by
  intro hm
  have := List.all_eq_true.mp h 58 hm
  rw [colon_not] at this
  cases this
def splitS (l : List UInt8) : List UInt8 × List UInt8 × Bool :=
  if 64 < l.length then ([], [], false)
  else if Lib.indexByte l 58 < 0 then (if plainL l = true then ([], l, true) else ([], [], false))
  else if (plainL (l.take (Lib.indexByte l 58).toNat) && plainL (l.drop ((Lib.indexByte l 58).toNat + 1))) = true then (l.take (Lib.indexByte l 58).toNat, l.drop ((Lib.indexByte l 58).toNat + 1), true) else ([], [], false)
theorem split_long (l : List UInt8) (h : 64 < l.length) : splitS l = ([], [], false) := by
  unfold splitS
  rw [if_pos h]
theorem split_none (l : List UInt8) (h : l.length ≤ 64) (hc : (58 : UInt8) ∉ l) : splitS l = if plainL l = true then ([], l, true) else ([], [], false) := by
  unfold splitS
  rw [if_neg (by omega), idx_none 58 l hc, if_pos (by decide)]
theorem split_at (p q : List UInt8) (h : p.length + 1 + q.length ≤ 64) (hc : (58 : UInt8) ∉ p) : splitS (p ++ 58 :: q) = if (plainL p && plainL q) = true then (p, q, true) else ([], [], false) := by
  unfold splitS
  have e1 : (p ++ 58 :: q).take p.length = p := by simp
  have e2 : (p ++ 58 :: q).drop (p.length + 1) = q := by rw [List.drop_append]; simp
  rw [if_neg (by simp; omega), idx_at 58 p q hc, if_neg (by omega), Int.toNat_natCast, e1, e2]
def okL (l : List UInt8) : Bool := (splitS l).2.2
theorem ok_cases (l : List UInt8) (h : okL l = true) : l.length ≤ 64 ∧ ((plainL l = true ∧ (58 : UInt8) ∉ l ∧ splitS l = ([], l, true)) ∨ ∃ p q, l = p ++ 58 :: q ∧ plainL p = true ∧ plainL q = true ∧ (58 : UInt8) ∉ p ∧ splitS l = (p, q, true)) := by
  unfold okL at h
  by_cases hl : 64 < l.length
  · rw [split_long l hl] at h
    cases h
  · refine ⟨by omega, ?_⟩
    rcases idx_cases 58 l with ⟨_, hc⟩ | ⟨p, q, rfl, hc, _⟩
    · have e := split_none l (by omega) hc
      by_cases hp : plainL l = true
      · rw [if_pos hp] at e
        exact .inl ⟨hp, hc, e⟩
      · rw [e, if_neg hp] at h
        cases h
    · have e := split_at p q (by simp at hl; omega) hc
      by_cases hp : (plainL p && plainL q) = true
      · rw [if_pos hp] at e
        rw [Bool.and_eq_true] at hp
        exact .inr ⟨p, q, rfl, hp.1, hp.2, hc, e⟩
      · rw [e, if_neg hp] at h
        cases h
theorem ok_plain (l : List UInt8) (hl : l.length ≤ 64) (h : plainL l = true) : okL l = true := by
  unfold okL
  rw [split_none l hl (all_no_colon l (plain_all l h)), if_pos h]
theorem ok_pair (p q : List UInt8) (hl : p.length + 1 + q.length ≤ 64) (h1 : plainL p = true) (h2 : plainL q = true) : splitS (p ++ 58 :: q) = (p, q, true) := by
  rw [split_at p q hl (all_no_colon p (plain_all p h1)), h1, h2]
  rfl
theorem ok_take (l : List UInt8) (h64 : l.length ≤ 64) (n : Nat) (hn : n ≤ l.length) :
    okL (l.take n) = true ↔ (1 ≤ n ∧ n ≤ lenL l) ∨ (0 < lenL l ∧ lenL l < l.length ∧ l.getD (lenL l) 0 = 58 ∧ lenL l + 2 ≤ n ∧ n ≤ lenL l + 1 + lenL (l.drop (lenL l + 1))) := by
  have htl : (l.take n).length = n := by rw [List.length_take]; omega
  constructor
  · intro h
    obtain ⟨_, h⟩ := ok_cases _ h
    rcases h with ⟨hp, _, _⟩ | ⟨p, q, hpq, hp, hq, _, _⟩
    · exact .inl ((plain_take l n hn).mp hp)
    · right
      have hlen : p.length + 1 + q.length = n := by
        have := congrArg List.length hpq
        rw [htl, List.length_append, List.length_cons] at this
        omega
      have hl : l = p ++ 58 :: (q ++ l.drop n) := by
        conv => lhs; rw [← List.take_append_drop n l, hpq]
        simp
      clear h htl hpq
      generalize l.drop n = r at hl
      subst hl
      have hpt : (p ++ 58 :: (q ++ r)).take p.length = p := by simp
      have hll : (p ++ 58 :: (q ++ r)).length = p.length + 1 + q.length + r.length := by simp; omega
      have h1 := (plain_take (p ++ 58 :: (q ++ r)) p.length (by omega)).mp (by rw [hpt]; exact hp)
      have hat : (p ++ 58 :: (q ++ r))[p.length]'(by omega) = 58 := by simp
      have hL : lenL (p ++ 58 :: (q ++ r)) = p.length := by
        by_cases hlt : p.length < lenL (p ++ 58 :: (q ++ r))
        · have := lenL_mem _ p.length (by omega) hlt
          rw [hat, colon_not] at this
          cases this
        · omega
      have hd : (p ++ 58 :: (q ++ r)).drop (p.length + 1) = q ++ r := by rw [List.drop_append]; simp
      have hqt : ((p ++ 58 :: (q ++ r)).drop (p.length + 1)).take q.length = q := by rw [hd]; simp
      have h2 := (plain_take ((p ++ 58 :: (q ++ r)).drop (p.length + 1)) q.length (by rw [hd]; simp)).mp (by rw [hqt]; exact hq)
      rw [hL]
      refine ⟨by omega, by omega, ?_, by omega, by omega⟩
      rw [List.getD, List.getElem?_eq_getElem (by omega), Option.getD_some, hat]
  · rintro (h | ⟨h0, hlt, hat, h2, h3⟩)
    · exact ok_plain _ (by omega) ((plain_take l n hn).mpr h)
    · have hat' : l[lenL l]'hlt = 58 := by rwa [List.getD, List.getElem?_eq_getElem hlt, Option.getD_some] at hat
      have hsp : l.take n = l.take (lenL l) ++ 58 :: (l.drop (lenL l + 1)).take (n - (lenL l + 1)) := by
        have e1 : l = l.take (lenL l) ++ 58 :: l.drop (lenL l + 1) := by
          conv => lhs; rw [← List.take_append_drop (lenL l) l, List.drop_eq_getElem_cons hlt, hat']
        have hk : (l.take (lenL l)).length = lenL l := by rw [List.length_take]; omega
        conv => lhs; rw [e1]
        rw [List.take_append, hk, List.take_of_length_le (by omega)]
        obtain ⟨m, hm⟩ : ∃ m, n - lenL l = m + 1 := ⟨n - lenL l - 1, by omega⟩
        rw [hm, List.take_succ_cons, show n - (lenL l + 1) = m by omega]
      have hp : plainL (l.take (lenL l)) = true := (plain_take l _ (by omega)).mpr ⟨h0, Nat.le_refl _⟩
      have hle := lenL_le (l.drop (lenL l + 1))
      have hq : plainL ((l.drop (lenL l + 1)).take (n - (lenL l + 1))) = true := (plain_take _ _ (by omega)).mpr ⟨by omega, by omega⟩
      unfold okL
      rw [hsp, ok_pair _ _ (by rw [List.length_take, List.length_take]; omega) hp hq]
theorem begin_max (l : List UInt8) : beginL l ≤ 64 ∧ beginL l ≤ l.length ∧ (0 < beginL l → okL (l.take (beginL l)) = true) ∧ ∀ n, beginL l < n → n ≤ l.length → n ≤ 64 → okL (l.take n) = false := by
  have ht : ∀ n, n ≤ 64 → l.take n = (l.take 64).take n := fun n hn => by rw [List.take_take, Nat.min_eq_left hn]
  have hl : (l.take 64).length ≤ 64 := by rw [List.length_take]; omega
  have hl2 : (l.take 64).length ≤ l.length := by rw [List.length_take]; omega
  have hl3 : ∀ n, n ≤ l.length → n ≤ 64 → n ≤ (l.take 64).length := fun n a b => by rw [List.length_take]; omega
  have key : ∀ n, n ≤ 64 → n ≤ l.length → (okL (l.take n) = true ↔ (1 ≤ n ∧ n ≤ lenL (l.take 64)) ∨ (0 < lenL (l.take 64) ∧ lenL (l.take 64) < (l.take 64).length ∧ (l.take 64).getD (lenL (l.take 64)) 0 = 58 ∧ lenL (l.take 64) + 2 ≤ n ∧ n ≤ lenL (l.take 64) + 1 + lenL ((l.take 64).drop (lenL (l.take 64) + 1)))) := fun n h h2 => by rw [ht n h]; exact ok_take (l.take 64) hl n (hl3 n h2 h)
  have hle := lenL_le (l.take 64)
  have hle2 := lenL_le ((l.take 64).drop (lenL (l.take 64) + 1))
  rw [List.length_drop] at hle2
  have nf : ∀ b : Bool, ¬ b = true → b = false := fun b hb => Bool.eq_false_iff.mpr hb
  unfold beginL
  generalize l.take 64 = x at *
  by_cases h1 : lenL x = 0 ∨ x.length ≤ lenL x ∨ x.getD (lenL x) 0 ≠ 58
  · rw [if_pos h1]
    refine ⟨by omega, by omega, fun h0 => (key _ (by omega) (by omega)).mpr (.inl ⟨h0, Nat.le_refl _⟩), fun n hn h2 h3 => nf _ (fun ho => ?_)⟩
    rcases (key n h3 h2).mp ho with h | ⟨a, b, c, d, e⟩
    · omega
    · rcases h1 with h1 | h1 | h1
      · omega
      · omega
      · exact h1 c
  · rw [if_neg h1]
    have h2 : ¬ lenL x = 0 ∧ ¬ x.length ≤ lenL x ∧ x.getD (lenL x) 0 = 58 := by
      refine ⟨fun e => h1 (.inl e), fun e => h1 (.inr (.inl e)), ?_⟩
      by_cases e : x.getD (lenL x) 0 = 58
      · exact e
      · exact absurd (.inr (.inr e)) h1
    by_cases h3 : 0 < lenL (x.drop (lenL x + 1))
    · rw [if_pos h3]
      refine ⟨by omega, by omega, fun h0 => (key _ (by omega) (by omega)).mpr (.inr ⟨by omega, by omega, h2.2.2, by omega, Nat.le_refl _⟩), fun n hn h4 h5 => nf _ (fun ho => ?_)⟩
      rcases (key n h5 h4).mp ho with h | ⟨a, b, c, d, e⟩ <;> omega
    · rw [if_neg h3]
      refine ⟨by omega, by omega, fun h0 => (key _ (by omega) (by omega)).mpr (.inl ⟨h0, Nat.le_refl _⟩), fun n hn h4 h5 => nf _ (fun ho => ?_)⟩
      rcases (key n h5 h4).mp ho with h | ⟨a, b, c, d, e⟩ <;> omega
end Go.Proofs.YtpknhgejnfmijaaGreatDoor.M
