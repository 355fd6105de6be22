/- A text of the claim, with what no other text of it needs taken out. -/
import Derived.Test.YtebekjenmoijhaaDoorWWords
namespace Go.Proofs.YtebekjenmoijhaaDoor.M
open Go.RowKit Go.Proofs.YtebekjenmoijhaaDoorW.PrintWords
set_option linter.unusedVariables false
set_option linter.unusedSimpArgs false
theorem wrap_id {n : Int} (h1 : -9223372036854775808 ≤ n) (h2 : n ≤ 9223372036854775807) : wrap64 n = n := by unfold wrap64; omega
def D (l : List Int) : Prop := ∀ d ∈ l, 0 ≤ d ∧ d ≤ 9
def dg (n : Nat) : List Int := if h : n = 0 then [] else ((n % 10 : Nat) : Int) :: dg (n / 10)
termination_by n
decreasing_by omega
theorem D.nil : D [] := fun _ h => by cases h
theorem D.cons {d : Int} {l : List Int} (h0 : 0 ≤ d) (h1 : d ≤ 9) (h : D l) : D (d :: l) := fun x hx => by
  rcases List.mem_cons.mp hx with rfl | hx
  · exact ⟨h0, h1⟩
  · exact h x hx
theorem D.tail {d : Int} {l : List Int} (h : D (d :: l)) : D l := fun x hx => h x (List.mem_cons_of_mem _ hx)
theorem D.take {l : List Int} (h : D l) (n : Nat) : D (l.take n) := fun x hx => h x (List.mem_of_mem_take hx)
theorem D.drop {l : List Int} (h : D l) (n : Nat) : D (l.drop n) := fun x hx => h x (List.mem_of_mem_drop hx)
theorem D.rd {l : List Int} (h : D l) (i : Int) : 0 ≤ rd l i ∧ rd l i ≤ 9 := by
  unfold Go.Proofs.YtebekjenmoijhaaDoorW.PrintWords.rd List.getD
  by_cases hi : i.toNat < l.length
  · rw [List.getElem?_eq_getElem hi]
    exact h _ (List.getElem_mem hi)
  · rw [List.getElem?_eq_none (by omega)]
    decide
theorem dg_zero : dg 0 = [] := by rw [dg]; rfl
theorem dg_pos {n : Nat} (h : n ≠ 0) : dg n = ((n % 10 : Nat) : Int) :: dg (n / 10) := by rw [dg, dif_neg h]
theorem dg_D (n : Nat) : D (dg n) := by
  induction n using Nat.strongRecOn with
  | _ n ih =>
    by_cases h : n = 0
    · subst h; rw [dg_zero]; exact D.nil
    · rw [dg_pos h]
      exact D.cons (by omega) (by omega) (ih _ (by omega))
theorem dg_length_le : ∀ (k n : Nat), n < 10 ^ k → (dg n).length ≤ k
  | 0, n, h => by
    obtain rfl : n = 0 := by simpa using h
    rw [dg_zero]; exact Nat.le_refl _
  | k + 1, n, h => by
    by_cases h0 : n = 0
    · subst h0; rw [dg_zero]; exact Nat.zero_le _
    · rw [dg_pos h0, List.length_cons]
      have := dg_length_le k (n / 10) (by rw [Nat.pow_succ] at h; omega)
      omega
end Go.Proofs.YtebekjenmoijhaaDoor.M
