/- A text of the claim, with what no other text of it needs taken out. -/
import Derived.Test.YtebekjenmoijhaaDoorM2
import Derived.Test.YtebekjenmoijhaaDoorPM3
import Derived.Test.YtebekjenmoijhaaDoorPM6
namespace Go.Proofs.YtebekjenmoijhaaDoor.M
open Go Go.RowKit Go.Proofs.YtebekjenmoijhaaDoorW.PrintWords Go.Proofs.YtebekjenmoijhaaDoorW.PrintMore Go.Proofs.YtebekjenmoijhaaDoor.PM
set_option linter.unusedVariables false
set_option linter.unusedSimpArgs false
theorem dg_length_mono {n m : Nat} (h : n ≤ m) : (dg n).length ≤ (dg m).length := by
  refine dg_length_le _ _ (Nat.lt_of_le_of_lt h ?_)
  have := val_lt (dg_D m)
  rw [dg_val] at this
  exact_mod_cast this
theorem less_loop (l m : List Int) (hl : D l) (hm : D m) (hlm : l.length = m.length) (zl : l.length ≤ 1000) :
    ∀ (j : Nat), j ≤ l.length → val (l.drop j) = val (m.drop j) → Ev (fun k => hopscotchref06_less.l0 k l m ((j : Int) - 1)) (decide (val l < val m)) := by
  intro j
  induction j with
  | zero =>
    intro _ hv
    rw [List.drop_zero, List.drop_zero] at hv
    refine Ev.step (f := fun _ => some false) (fun k => ?_) ?_
    · simp only [hopscotchref06_less.l0]
      rw [if_neg (by omega)]
    · rw [decide_eq_false (by omega)]
      exact Ev.now _
  | succ j ih =>
    intro hj hv
    have e1 := val_drop l j
    have e2 := val_drop m j
    by_cases h : rd l (j : Int) = rd m (j : Int)
    · refine Ev.step (fun k => ?_) (ih (by omega) (by omega))
      simp only [hopscotchref06_less.l0]
      rw [if_pos (by omega), if_pos (by omega), if_pos (by omega), if_pos (by omega)]
      rw [show ((j + 1 : Nat) : Int) - 1 = (j : Int) by omega, if_pos h, wrap_id (by omega) (by omega)]
    · refine Ev.step (f := fun _ => some (decide (rd l (j : Int) < rd m (j : Int)))) (fun k => ?_) ?_
      · simp only [hopscotchref06_less.l0]
        rw [if_pos (by omega), if_pos (by omega), if_pos (by omega), if_pos (by omega)]
        rw [show ((j + 1 : Nat) : Int) - 1 = (j : Int) by omega, if_neg h]
      · have t1 := val_take_drop l j (by omega)
        have t2 := val_take_drop m j (by omega)
        have b1 := val_lt (hl.take j)
        have b2 := val_lt (hm.take j)
        have c1 := val_nonneg (hl.take j)
        have c2 := val_nonneg (hm.take j)
        rw [List.length_take, Nat.min_eq_left (by omega)] at b1 b2
        rw [e1, hv, Int.mul_add] at t1
        rw [e2, Int.mul_add] at t2
        have hp := pow10_pos j
        have key : decide (val l < val m) = decide (rd l (j : Int) < rd m (j : Int)) := by
          apply decide_eq_decide.mpr
          rcases Int.lt_or_gt_of_ne h with h | h
          · have := Int.mul_le_mul_of_nonneg_left (show rd l (j : Int) + 1 ≤ rd m (j : Int) by omega) (Int.le_of_lt hp)
            rw [Int.mul_add, Int.mul_one] at this
            omega
          · have := Int.mul_le_mul_of_nonneg_left (show rd m (j : Int) + 1 ≤ rd l (j : Int) by omega) (Int.le_of_lt hp)
            rw [Int.mul_add, Int.mul_one] at this
            omega
        rw [key]
        exact Ev.now _
theorem less_ev {n m : Nat} (hn : n ≤ 10 ^ 100) (hm : m ≤ 10 ^ 100) : Ev (fun k => hopscotchref06_less.f k (dg n) (dg m)) (decide (n < m)) := by
  have z1 := dg_len hn
  have z2 := dg_len hm
  by_cases h : (dg n).length = (dg m).length
  · have := less_loop (dg n) (dg m) (dg_D n) (dg_D m) h (by omega) (dg n).length (Nat.le_refl _) (by rw [List.drop_of_length_le (Nat.le_refl _), List.drop_of_length_le (by omega)])
    rw [dg_val, dg_val] at this
    rw [show decide (n < m) = decide ((n : Int) < (m : Int)) from decide_eq_decide.mpr (by omega)]
    refine Ev.congr (fun k => ?_) this
    unfold hopscotchref06_less.f
    rw [if_pos (by omega), wrap_id (by omega) (by omega)]
  · refine Ev.congr (f := fun _ => some (decide (n < m))) (fun k => ?_) (Ev.now _)
    unfold hopscotchref06_less.f
    rw [if_neg (by omega)]
    congr 1
    apply decide_eq_decide.mpr
    by_cases h2 : n < m
    · have := dg_length_mono (Nat.le_of_lt h2)
      exact ⟨fun _ => h2, fun _ => by omega⟩
    · have := dg_length_mono (show m ≤ n by omega)
      exact ⟨fun h3 => by omega, fun h3 => absurd h3 h2⟩
theorem take_loop (l m : List Int) (hl : D l) (hm : D m) (zl : l.length ≤ 500) (hlm : m.length ≤ l.length) (hv : val m ≤ val l) :
    ∀ (f i : Nat) (o : List Int) (c : Nat), i + f = l.length → c ≤ 1 → o.length = i → D o →
      val o = val (l.take i) - val (m.take i) + 10 ^ i * (c : Int) → Ev (fun k => hopscotchref06_take.l0 k l m o (c : Int) (i : Int)) (dg (val l - val m).toNat) := by
  intro f
  induction f with
  | zero =>
    intro i o c hf hc ho hD hw
    rw [List.take_of_length_le (by omega), List.take_of_length_le (by omega)] at hw
    have hb := val_lt hD
    rw [ho] at hb
    have hp := pow10_pos i
    obtain rfl : c = 0 := by
      rcases Nat.eq_zero_or_pos c with h | h
      · exact h
      · obtain rfl : c = 1 := by omega
        simp at hw
        omega
    have e : val o = val l - val m := by simpa using hw
    refine Ev.step (f := fun k => (hopscotchref06_trim.f k o).bind fun t => some t) (fun k => ?_) ?_
    · simp only [hopscotchref06_take.l0]
      rw [if_neg (by omega)]
    · rw [← e]
      exact Ev.bind (trim_dg (by omega) hD) (Ev.now _)
  | succ f ih =>
    intro i o c hf hc ho hD hw
    have rl := hl.rd (i : Int)
    have rm := hm.rd (i : Int)
    have key : ∀ (d : Int) (c' : Nat), d = rd l (i : Int) - rd m (i : Int) - (c : Int) + 10 * (c' : Int) → 0 ≤ d → d ≤ 9 → c' ≤ 1 → Ev (fun k => hopscotchref06_take.l0 k l m (o ++ [d]) (c' : Int) ((i + 1 : Nat) : Int)) (dg (val l - val m).toNat) := by
      intro d c' hd h0 h9 hc'
      refine ih (i + 1) _ c' (by omega) hc' (by simp [ho]) (hD.append (D.cons h0 h9 D.nil)) ?_
      rw [val_take_succ, val_take_succ, val_append, ho, Int.pow_succ, hw]
      have e2 := congrArg (fun x => (10 : Int) ^ i * x) hd
      simp only [Int.mul_add, Int.mul_sub] at e2
      simp only [val, Int.mul_zero, Int.add_zero, Int.mul_assoc]
      generalize (10 : Int) ^ i * d = A at *
      generalize (10 : Int) ^ i * (10 * (c' : Int)) = B at *
      generalize (10 : Int) ^ i * (c : Int) = C at *
      generalize (10 : Int) ^ i * rd l (i : Int) = E at *
      generalize (10 : Int) ^ i * rd m (i : Int) = F at *
      omega
    by_cases h : rd l (i : Int) - rd m (i : Int) - (c : Int) < 0
    · refine Ev.step (fun k => ?_) (key (rd l (i : Int) - rd m (i : Int) - (c : Int) + 10) 1 (by omega) (by omega) (by omega) (by omega))
      simp only [hopscotchref06_take.l0]
      rw [if_pos (by omega), if_pos (by omega), digit_eq, Option.bind_some]
      rw [wrap_id (n := rd l (i : Int) - rd m (i : Int)) (by omega) (by omega), wrap_id (n := rd l (i : Int) - rd m (i : Int) - (c : Int)) (by omega) (by omega), if_pos h, if_pos (by omega)]
      rw [wrap_id (n := rd l (i : Int) - rd m (i : Int) - (c : Int) + 10) (by omega) (by omega), wrap_id (n := (i : Int) + 1) (by omega) (by omega)]
      rfl
    · refine Ev.step (fun k => ?_) (key (rd l (i : Int) - rd m (i : Int) - (c : Int)) 0 (by omega) (by omega) (by omega) (by omega))
      simp only [hopscotchref06_take.l0]
      rw [if_pos (by omega), if_pos (by omega), digit_eq, Option.bind_some]
      rw [wrap_id (n := rd l (i : Int) - rd m (i : Int)) (by omega) (by omega), wrap_id (n := rd l (i : Int) - rd m (i : Int) - (c : Int)) (by omega) (by omega), if_neg h, if_pos (by omega)]
      rw [wrap_id (n := (i : Int) + 1) (by omega) (by omega)]
      rfl
theorem take_ev {n m : Nat} (hn : n ≤ 10 ^ 100) (h : m ≤ n) : Ev (fun k => hopscotchref06_take.f k (dg n) (dg m)) (dg (n - m)) := by
  have z := dg_len hn
  have := take_loop (dg n) (dg m) (dg_D n) (dg_D m) (by omega) (dg_length_mono h) (by rw [dg_val, dg_val]; omega) (dg n).length 0 [] 0 (by omega) (by omega) rfl D.nil (by simp [val])
  rw [dg_val, dg_val, show ((n : Int) - (m : Int)).toNat = n - m by omega] at this
  exact this
theorem add_ev {n m : Nat} (hn : n ≤ 10 ^ 100) (hm : m ≤ 10 ^ 100) : Ev (fun k => hopscotchref06_add.f k (dg n) (dg m)) (dg (n + m)) := by
  have z1 := dg_len hn
  have z2 := dg_len hm
  have := add_dg (dg_D n) (dg_D m) (by omega) (by omega)
  rw [dg_val, dg_val, show ((n : Int) + (m : Int)).toNat = n + m by omega] at this
  exact this
theorem plus_ev {n m : Nat} (hn : n ≤ 10 ^ 100) (hm : m ≤ 10 ^ 100) (s t : Bool) : ∃ r b, r ≤ n + m ∧ sg (r : Int) b = sg (n : Int) s + sg (m : Int) t ∧ Ev (fun k => hopscotchref06_Plus.f k (dg n) s (dg m) t) (dg r, b) := by
  by_cases h : s = t
  · subst h
    refine ⟨n + m, s, Nat.le_refl _, by unfold sg; split <;> omega, ?_⟩
    refine Ev.congr (f := fun k => (hopscotchref06_add.f k (dg n) (dg m)).bind fun x => some (x, s)) (fun k => ?_) (Ev.bind (add_ev hn hm) (Ev.now _))
    unfold hopscotchref06_Plus.f
    rw [if_pos (by simp)]
  · by_cases h2 : n < m
    · refine ⟨m - n, t, by omega, ?_, ?_⟩
      · cases s <;> cases t <;> simp_all [sg] <;> omega
      · refine Ev.congr (f := fun k => (hopscotchref06_less.f k (dg n) (dg m)).bind fun x => if x = true then ((hopscotchref06_take.f k (dg m) (dg n)).bind fun y => some (y, t)) else ((hopscotchref06_take.f k (dg n) (dg m)).bind fun y => some (y, s))) (fun k => ?_) ?_
        · unfold hopscotchref06_Plus.f
          rw [if_neg (by simpa using h)]
        · refine Ev.bind (less_ev hn hm) ?_
          rw [decide_eq_true h2]
          exact Ev.bind (take_ev hm (by omega)) (Ev.now _)
    · refine ⟨n - m, s, by omega, ?_, ?_⟩
      · cases s <;> cases t <;> simp_all [sg] <;> omega
      · refine Ev.congr (f := fun k => (hopscotchref06_less.f k (dg n) (dg m)).bind fun x => if x = true then ((hopscotchref06_take.f k (dg m) (dg n)).bind fun y => some (y, t)) else ((hopscotchref06_take.f k (dg n) (dg m)).bind fun y => some (y, s))) (fun k => ?_) ?_
        · unfold hopscotchref06_Plus.f
          rw [if_neg (by simpa using h)]
        · refine Ev.bind (less_ev hn hm) ?_
          rw [decide_eq_false h2]
          exact Ev.bind (take_ev hn (by omega)) (Ev.now _)
def I (a : Int) : Prop := -9223372036854775808 ≤ a ∧ a ≤ 9223372036854775807
theorem told_dg (r : Nat) (b : Bool) (hr : r ≤ 10 ^ 100) : Ev (fun k => hopscotchref06_told.f k (dg r) b) (toldR (sg (r : Int) b)) := by
  have := told_ev (dg_D r) (by have := dg_len hr; omega) b
  rwa [dg_val] at this
theorem refAdd_ev {a b : Int} (ha : I a) (hb : I b) : Ev (fun k => hopscotchref06_Add.f k a b) (toldR (a + b)) := by
  unfold I at ha hb
  obtain ⟨r, s, hr, e, hp⟩ := plus_ev (n := a.natAbs) (m := b.natAbs) (by omega) (by omega) (decide (a < 0)) (decide (b < 0))
  rw [sg_abs, sg_abs] at e
  rw [← e]
  refine Ev.bind (of_ev ha.1 ha.2) (Ev.bind (of_ev hb.1 hb.2) (Ev.bind hp (Ev.bind (told_dg r s (by omega)) (Ev.now _))))
theorem refSub_ev {a b : Int} (ha : I a) (hb : I b) : Ev (fun k => hopscotchref06_Sub.f k a b) (toldR (a - b)) := by
  unfold I at ha hb
  obtain ⟨r, s, hr, e, hp⟩ := plus_ev (n := a.natAbs) (m := b.natAbs) (by omega) (by omega) (decide (a < 0)) (!decide (b < 0))
  rw [sg_abs, show sg (b.natAbs : Int) (!decide (b < 0)) = -b by unfold sg; by_cases h : b < 0 <;> simp [h] <;> omega] at e
  rw [show a - b = a + -b by omega, ← e]
  refine Ev.bind (of_ev ha.1 ha.2) (Ev.bind (of_ev hb.1 hb.2) (Ev.bind (Ev.now _) (Ev.bind hp (Ev.bind (told_dg r s (by omega)) (Ev.now _)))))
end Go.Proofs.YtebekjenmoijhaaDoor.M
