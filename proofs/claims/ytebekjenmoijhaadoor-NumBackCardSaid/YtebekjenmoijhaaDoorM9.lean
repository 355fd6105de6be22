/- A text of the claim, with what no other text of it needs taken out. -/
import Derived.Test.YtebekjenmoijhaaDoorM8
namespace Go.Proofs.YtebekjenmoijhaaDoor.M
open Go Go.RowKit Go.Proofs.YtebekjenmoijhaaDoorW.PrintWords Go.Proofs.YtebekjenmoijhaaDoorW.PrintMore Go.Proofs.YtebekjenmoijhaaDoor.PM Go.Proofs.YtebekjenmoijhaaDoor.PL
set_option linter.unusedVariables false
set_option linter.unusedSimpArgs false
def ch (d : Int) : UInt8 := UInt8.ofNat (48 + d.toNat)
def putR (l : List Int) (b : Bool) : List UInt8 := if l = [] then [48] else if b = true then 45 :: (l.map ch).reverse else (l.map ch).reverse
theorem dec_dg (u : Nat) (h : u ≠ 0) : Lib.decDigits u = ((dg u).map ch).reverse := by
  induction u using Nat.strongRecOn with
  | _ u ih =>
    by_cases h1 : u < 10
    · rw [Lib.decDigits, dif_pos h1, dg_pos h, show u / 10 = 0 by omega, dg_zero, Nat.mod_eq_of_lt h1]
      simp [ch]
    · rw [Lib.decDigits, dif_neg h1, dg_pos h, ih _ (by omega) (by omega), List.map_cons, List.reverse_cons]
      congr 1
theorem itoa_put (a : Int) : Lib.itoa a = putR (dg a.natAbs) (decide (a < 0)) := by
  unfold Lib.itoa putR
  by_cases h0 : a = 0
  · subst h0
    rw [if_neg (by decide), if_pos (by rw [show (0 : Int).natAbs = 0 from rfl, dg_zero])]
    rw [show (0 : Int).toNat = 0 from rfl, Lib.decDigits, dif_pos (by decide)]
    rfl
  · have hn : a.natAbs ≠ 0 := by omega
    rw [if_neg (show ¬ dg a.natAbs = [] by rw [dg_pos hn]; simp)]
    by_cases h : a < 0
    · rw [if_pos h, decide_eq_true h, if_pos rfl, dec_dg _ hn]
    · rw [if_neg h, decide_eq_false h, if_neg (by decide), show a.toNat = a.natAbs by omega, dec_dg _ hn]
theorem Put_eq {a : Int} (ha : I a) : num_Put.f a = some ⟨(Lib.itoa a).toArray⟩ := by
  unfold I at ha
  unfold num_Put.f X.strconv_FormatInt.f
  rw [if_pos ⟨ha.1, ha.2, rfl⟩]
  rfl
end Go.Proofs.YtebekjenmoijhaaDoor.M
