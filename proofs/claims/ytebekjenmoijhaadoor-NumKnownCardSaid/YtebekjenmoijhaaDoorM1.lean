/- A text of the claim, with what no other text of it needs taken out. -/
import Derived.Test.YtebekjenmoijhaaDoorWWords
namespace Go.Proofs.YtebekjenmoijhaaDoor.M
open Go.RowKit Go.Proofs.YtebekjenmoijhaaDoorW.PrintWords
set_option linter.unusedVariables false
set_option linter.unusedSimpArgs false
theorem wrap_id {n : Int} (h1 : -9223372036854775808 ≤ n) (h2 : n ≤ 9223372036854775807) : wrap64 n = n := by unfold wrap64; omega
def D (l : List Int) : Prop := ∀ d ∈ l, 0 ≤ d ∧ d ≤ 9
def val : List Int → Int
  | [] => 0
  | d :: l => d + 10 * val l
def dg (n : Nat) : List Int := if h : n = 0 then [] else ((n % 10 : Nat) : Int) :: dg (n / 10)
termination_by n
decreasing_by omega
theorem D.nil : D [] := fun _ h => by cases h
theorem D.cons {d : Int} {l : List Int} (h0 : 0 ≤ d) (h1 : d ≤ 9) (h : D l) : D (d :: l) := fun x hx => by
  rcases List.mem_cons.mp hx with rfl | hx
  · exact ⟨h0, h1⟩
  · exact h x hx
theorem D.tail {d : Int} {l : List Int} (h : D (d :: l)) : D l := fun x hx => h x (List.mem_cons_of_mem _ hx)
theorem D.head {d : Int} {l : List Int} (h : D (d :: l)) : 0 ≤ d ∧ d ≤ 9 := h d (List.mem_cons_self ..)
theorem D.append {l m : List Int} (h : D l) (k : D m) : D (l ++ m) := fun x hx => by
  rcases List.mem_append.mp hx with hx | hx
  · exact h x hx
  · exact k x hx
theorem D.left {l m : List Int} (h : D (l ++ m)) : D l := fun x hx => h x (List.mem_append_left _ hx)
theorem D.take {l : List Int} (h : D l) (n : Nat) : D (l.take n) := fun x hx => h x (List.mem_of_mem_take hx)
theorem D.drop {l : List Int} (h : D l) (n : Nat) : D (l.drop n) := fun x hx => h x (List.mem_of_mem_drop hx)
theorem D.zeros (n : Nat) : D (List.replicate n 0) := fun x hx => by
  obtain ⟨_, rfl⟩ := List.mem_replicate.mp hx
  decide
theorem D.rd {l : List Int} (h : D l) (i : Int) : 0 ≤ rd l i ∧ rd l i ≤ 9 := by
  unfold Go.Proofs.YtebekjenmoijhaaDoorW.PrintWords.rd List.getD
  by_cases hi : i.toNat < l.length
  · rw [List.getElem?_eq_getElem hi]
    exact h _ (List.getElem_mem hi)
  · rw [List.getElem?_eq_none (by omega)]
    decide
theorem val_append (l m : List Int) : val (l ++ m) = val l + 10 ^ l.length * val m := by
  induction l with
  | nil => simp [val]
  | cons d l ih =>
    simp only [List.cons_append, val, List.length_cons, ih, Int.pow_succ]
    rw [Int.mul_add, Int.mul_assoc, Int.mul_comm 10 (10 ^ l.length * val m), Int.mul_assoc, Int.mul_comm (val m) 10]
    omega
theorem val_nonneg {l : List Int} (h : D l) : 0 ≤ val l := by
  induction l with
  | nil => exact Int.le_refl _
  | cons d l ih =>
    have := ih h.tail
    have := h.head
    simp only [val]
    omega
theorem val_lt {l : List Int} (h : D l) : val l < 10 ^ l.length := by
  induction l with
  | nil => decide
  | cons d l ih =>
    have := ih h.tail
    have := h.head
    simp only [val, List.length_cons, Int.pow_succ]
    omega
theorem dg_zero : dg 0 = [] := by rw [dg]; rfl
theorem dg_pos {n : Nat} (h : n ≠ 0) : dg n = ((n % 10 : Nat) : Int) :: dg (n / 10) := by rw [dg, dif_neg h]
theorem dg_D (n : Nat) : D (dg n) := by
  induction n using Nat.strongRecOn with
  | _ n ih =>
    by_cases h : n = 0
    · subst h; rw [dg_zero]; exact D.nil
    · rw [dg_pos h]
      exact D.cons (by omega) (by omega) (ih _ (by omega))
theorem dg_val (n : Nat) : val (dg n) = n := by
  induction n using Nat.strongRecOn with
  | _ n ih =>
    by_cases h : n = 0
    · subst h; rw [dg_zero]; rfl
    · rw [dg_pos h]
      simp only [val]
      rw [ih _ (by omega)]
      omega
theorem dg_length_le : ∀ (k n : Nat), n < 10 ^ k → (dg n).length ≤ k
  | 0, n, h => by
    obtain rfl : n = 0 := by simpa using h
    rw [dg_zero]; exact Nat.le_refl _
  | k + 1, n, h => by
    by_cases h0 : n = 0
    · subst h0; rw [dg_zero]; exact Nat.zero_le _
    · rw [dg_pos h0, List.length_cons]
      have := dg_length_le k (n / 10) (by rw [Nat.pow_succ] at h; omega)
      omega
theorem dg_uniq {l : List Int} (h : D l) (hl : ∀ m, l ≠ m ++ [0]) : l = dg (val l).toNat := by
  induction l with
  | nil => rw [show (val []).toNat = 0 from rfl, dg_zero]
  | cons d l ih =>
    have hd := h.head
    have hv := val_nonneg h.tail
    have ht : ∀ m, l ≠ m ++ [0] := fun m e => hl (d :: m) (by rw [e]; rfl)
    have e := ih h.tail ht
    have hne : val (d :: l) ≠ 0 := by
      simp only [val]
      intro h0
      have hd0 : d = 0 := by omega
      have hl0 : val l = 0 := by omega
      rw [hl0] at e
      rw [show (0 : Int).toNat = 0 from rfl, dg_zero] at e
      exact hl [] (by rw [e, hd0]; rfl)
    rw [dg_pos (by simp only [val] at hne ⊢; omega)]
    have h1 : (((val (d :: l)).toNat % 10 : Nat) : Int) = d := by simp only [val]; omega
    have h2 : (val (d :: l)).toNat / 10 = (val l).toNat := by simp only [val]; omega
    rw [h1, h2, ← e]
theorem rd_nat (l : List Int) (i : Nat) : rd l (i : Int) = l.getD i 0 := rfl
theorem rd_lt {l : List Int} {i : Nat} (h : i < l.length) : rd l (i : Int) = l[i] := by
  rw [rd_nat, List.getD, List.getElem?_eq_getElem h]; rfl
theorem rd_ge {l : List Int} {i : Nat} (h : l.length ≤ i) : rd l (i : Int) = 0 := by
  rw [rd_nat, List.getD, List.getElem?_eq_none h]; rfl
theorem val_take_drop (l : List Int) (i : Nat) (h : i ≤ l.length) : val l = val (l.take i) + 10 ^ i * val (l.drop i) := by
  conv => lhs; rw [← List.take_append_drop i l]
  rw [val_append, List.length_take, Nat.min_eq_left h]
theorem val_take_succ (l : List Int) (i : Nat) : val (l.take (i + 1)) = val (l.take i) + 10 ^ i * rd l (i : Int) := by
  by_cases h : i < l.length
  · rw [List.take_succ_eq_append_getElem h, val_append, List.length_take, Nat.min_eq_left (Nat.le_of_lt h), rd_lt h]
    simp [val]
  · rw [rd_ge (by omega), List.take_of_length_le (by omega), List.take_of_length_le (by omega)]
    simp
theorem val_drop (l : List Int) (i : Nat) : val (l.drop i) = rd l (i : Int) + 10 * val (l.drop (i + 1)) := by
  by_cases h : i < l.length
  · rw [List.drop_eq_getElem_cons h, rd_lt h]
    rfl
  · rw [rd_ge (by omega), List.drop_of_length_le (by omega), List.drop_of_length_le (by omega)]
    rfl
theorem pow10_pos (n : Nat) : (0 : Int) < 10 ^ n := Int.pow_pos (by decide)
end Go.Proofs.YtebekjenmoijhaaDoor.M
