/- A text of the claim, with what no other text of it needs taken out. -/
import Derived.Test.YtebekjenmoijhaaDoorM3
import Derived.Test.YtebekjenmoijhaaDoorPM6
namespace Go.Proofs.YtebekjenmoijhaaDoor.M
open Go Go.RowKit Go.Proofs.YtebekjenmoijhaaDoorW.PrintWords Go.Proofs.YtebekjenmoijhaaDoorW.PrintMore Go.Proofs.YtebekjenmoijhaaDoor.PM
set_option linter.unusedVariables false
set_option linter.unusedSimpArgs false
theorem val_zeros (i : Nat) (l : List Int) : val (List.replicate i 0 ++ l) = 10 ^ i * val l := by
  rw [val_append, List.length_replicate]
  have : val (List.replicate i 0) = 0 := by
    induction i with
    | zero => rfl
    | succ i ih => simp only [List.replicate_succ, val, ih]; rfl
  rw [this]
  omega
theorem row_ev {n S i : Nat} (hn : n ≤ 10 ^ 100) (hS : S ≤ 10 ^ 100) (hi : i ≤ 100) : Ev (fun k => hopscotchref06_add.f k (dg S) (List.replicate i 0 ++ dg n)) (dg (S + 10 ^ i * n)) := by
  have z1 := dg_len hn
  have z2 := dg_len hS
  have := add_dg (dg_D S) (D.append (D.zeros i) (dg_D n)) (by omega) (by rw [List.length_append, List.length_replicate]; omega)
  rw [val_zeros, dg_val, dg_val] at this
  rw [show ((S : Int) + 10 ^ i * (n : Int)).toNat = S + 10 ^ i * n by
    have e : ((S : Int) + 10 ^ i * (n : Int)) = ((S + 10 ^ i * n : Nat) : Int) := by simp
    rw [e, Int.toNat_natCast]] at this
  exact this
theorem times_loop (n : Nat) (l : List Int) (hl : D l) (zl : l.length ≤ 20) (hn : n ≤ 10 ^ 20) (sa sb : Bool) (V : Nat) (hV : (V : Int) = val l) (hVb : V ≤ 10 ^ 20) :
    ∀ (j i : Nat), i + j = l.length → 0 < j → ∀ (d : Nat) (S v : Nat), (d : Int) ≤ rd l (i : Int) → (v : Int) = val (l.take i) + 10 ^ i * (rd l (i : Int) - (d : Int)) → S = n * v →
      Ev (fun k => hopscotchref06_Times.l1 k (dg S) (i : Int) (rd l (i : Int) - (d : Int)) (dg n) sa l sb) (dg (n * V), (sa != sb)) := by
  intro j
  induction j with
  | zero => intro i hi h0; omega
  | succ j ihj =>
    intro i hi _ d
    have hrd := hl.rd (i : Int)
    induction d with
    | zero =>
      intro S v hd hv hS
      have hend : Ev (fun k => hopscotchref06_Times.l0 k (dg S) ((i + 1 : Nat) : Int) (dg n) sa l sb) (dg (n * V), (sa != sb)) := by
        by_cases h : i + 1 < l.length
        · have hr1 := hl.rd ((i + 1 : Nat) : Int)
          obtain ⟨q, hq⟩ : ∃ q : Nat, (q : Int) = rd l ((i + 1 : Nat) : Int) := ⟨_, Int.toNat_of_nonneg hr1.1⟩
          have h1 := ihj (i + 1) (by omega) (by omega) q S v (by omega) (by rw [val_take_succ]; rw [hv]; simp [hq]) hS
          refine Ev.step (fun k => ?_) h1
          simp only [hopscotchref06_Times.l0]
          rw [if_pos (by omega), hq, Int.sub_self]
        · have : i + 1 = l.length := by omega
          have hvV : v = V := by
            have e := val_take_succ l i
            rw [List.take_of_length_le (by omega)] at e
            have : (v : Int) = V := by rw [hV, e, hv]; simp
            exact_mod_cast this
          subst hvV
          subst hS
          have hb : n * v ≤ 10 ^ 20 * 10 ^ 20 := Nat.mul_le_mul hn hVb
          refine Ev.step (f := fun k => (hopscotchref06_trim.f k (dg (n * v))).bind fun t => some (t, (sa != sb))) (fun k => ?_) ?_
          · simp only [hopscotchref06_Times.l0]
            rw [if_neg (by omega)]
          · have z := dg_len (n := n * v) (by omega)
            have := trim_dg (l := dg (n * v)) (by omega) (dg_D _)
            rw [dg_val, Int.toNat_natCast] at this
            exact Ev.bind this (Ev.now _)
      refine Ev.step (fun k => ?_) hend
      simp only [hopscotchref06_Times.l1]
      rw [if_pos (by omega), if_pos (by omega), if_neg (by omega), wrap_id (by omega) (by omega)]
      rfl
    | succ d ihd =>
      intro S v hd hv hS
      have hp := pow10_pos i
      have hvb : (v : Int) ≤ 10 ^ (i + 1) := by
        have b := val_lt (hl.take i)
        rw [List.length_take, Nat.min_eq_left (by omega)] at b
        have := Int.mul_le_mul_of_nonneg_left (show rd l (i : Int) - ((d + 1 : Nat) : Int) ≤ 9 by omega) (Int.le_of_lt hp)
        rw [Int.pow_succ]
        omega
      have hvb2 : v ≤ 10 ^ 21 := by
        have h1 : v ≤ 10 ^ (i + 1) := by exact_mod_cast hvb
        exact Nat.le_trans h1 (Nat.pow_le_pow_right (by decide) (by omega))
      have hSb : S ≤ 10 ^ 20 * 10 ^ 21 := by rw [hS]; exact Nat.mul_le_mul hn hvb2
      have z1 := dg_len (n := n) (by omega)
      have hrow := row_ev (n := n) (S := S) (i := i) (by omega) (by omega) (by omega)
      refine Ev.step (f := fun k => (hopscotchref06_add.f k (dg S) (List.replicate i 0 ++ dg n)).bind fun t => hopscotchref06_Times.l1 k t (i : Int) (rd l (i : Int) - (d : Int)) (dg n) sa l sb) (fun k => ?_) ?_
      · simp only [hopscotchref06_Times.l1]
        rw [if_pos (by omega), if_pos (by omega), if_pos (by omega), if_pos (by omega), Option.bind_some, if_pos (by rw [List.length_replicate]; omega), wrap_id (by omega) (by omega)]
        rw [Int.toNat_natCast, show rd l (i : Int) - ((d + 1 : Nat) : Int) + 1 = rd l (i : Int) - (d : Int) by omega]
      · refine Ev.bind hrow (ihd (S + 10 ^ i * n) (v + 10 ^ i) (by omega) ?_ ?_)
        · rw [show rd l (i : Int) - (d : Int) = rd l (i : Int) - ((d + 1 : Nat) : Int) + 1 by omega, Int.mul_add, Int.mul_one]
          push_cast at hv ⊢
          omega
        · rw [hS, Nat.mul_add, Nat.mul_comm n (10 ^ i)]
theorem times_ev {n m : Nat} (hn : n ≤ 9223372036854775808) (hm : m ≤ 9223372036854775808) (sa sb : Bool) : Ev (fun k => hopscotchref06_Times.f k (dg n) sa (dg m) sb) (dg (n * m), (sa != sb)) := by
  have z : (dg m).length ≤ 20 := dg_length_le 20 m (by omega)
  by_cases h : (dg m).length = 0
  · have h0 : m = 0 := by
      have := val_lt (dg_D m)
      rw [dg_val, h] at this
      simp at this
      omega
    subst h0
    refine Ev.step (f := fun k => (hopscotchref06_trim.f k []).bind fun t => some (t, (sa != sb))) (fun k => ?_) ?_
    · show hopscotchref06_Times.l0 (k + 1) [] 0 (dg n) sa (dg 0) sb = _
      simp only [hopscotchref06_Times.l0]
      rw [if_neg (by omega)]
    · rw [Nat.mul_zero]
      exact Ev.bind (by have := trim_dg (l := []) (by simp) D.nil; simpa [val] using this) (Ev.now _)
  · have hrd := (dg_D m).rd ((0 : Nat) : Int)
    obtain ⟨q, hq⟩ : ∃ q : Nat, (q : Int) = rd (dg m) ((0 : Nat) : Int) := ⟨_, Int.toNat_of_nonneg hrd.1⟩
    have h1 := times_loop n (dg m) (dg_D m) z (by omega) sa sb m (dg_val m).symm (by omega) (dg m).length 0 (by omega) (by omega) q 0 0 (by omega) (by simp [val, hq]) rfl
    rw [hq, Int.sub_self] at h1
    refine Ev.step (fun k => ?_) h1
    show hopscotchref06_Times.l0 (k + 1) [] 0 (dg n) sa (dg m) sb = _
    simp only [hopscotchref06_Times.l0]
    rw [if_pos (by omega), dg_zero]
    rfl
theorem sg_mul (a b : Int) : sg ((a.natAbs * b.natAbs : Nat) : Int) (decide (a < 0) != decide (b < 0)) = a * b := by
  rw [Int.natCast_mul]
  by_cases h : a < 0 <;> by_cases h' : b < 0
  · rw [show (a.natAbs : Int) = -a by omega, show (b.natAbs : Int) = -b by omega, decide_eq_true h, decide_eq_true h']
    simp [sg, Int.neg_mul, Int.mul_neg]
  · rw [show (a.natAbs : Int) = -a by omega, show (b.natAbs : Int) = b by omega, decide_eq_true h, decide_eq_false h']
    simp [sg, Int.neg_mul, Int.mul_neg]
  · rw [show (a.natAbs : Int) = a by omega, show (b.natAbs : Int) = -b by omega, decide_eq_false h, decide_eq_true h']
    simp [sg, Int.neg_mul, Int.mul_neg]
  · rw [show (a.natAbs : Int) = a by omega, show (b.natAbs : Int) = b by omega, decide_eq_false h, decide_eq_false h']
    simp [sg, Int.neg_mul, Int.mul_neg]
theorem refMul_ev {a b : Int} (ha : I a) (hb : I b) : Ev (fun k => hopscotchref06_Mul.f k a b) (toldR (a * b)) := by
  unfold I at ha hb
  rw [← sg_mul]
  have hb' : a.natAbs * b.natAbs ≤ 9223372036854775808 * 9223372036854775808 := Nat.mul_le_mul (by omega) (by omega)
  exact Ev.bind (of_ev ha.1 ha.2) (Ev.bind (of_ev hb.1 hb.2) (Ev.bind (times_ev (by omega) (by omega) _ _) (Ev.bind (told_dg _ _ (by omega)) (Ev.now _))))
end Go.Proofs.YtebekjenmoijhaaDoor.M
