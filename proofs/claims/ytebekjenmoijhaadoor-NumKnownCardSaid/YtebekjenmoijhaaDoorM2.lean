/- A text of the claim, with what no other text of it needs taken out. -/
import Derived.Test.YtebekjenmoijhaaDoorM1
import Derived.Test.YtebekjenmoijhaaDoorPM2
namespace Go.Proofs.YtebekjenmoijhaaDoor.M
open Go Go.RowKit Go.Proofs.YtebekjenmoijhaaDoorW.PrintWords Go.Proofs.YtebekjenmoijhaaDoorW.PrintMore Go.Proofs.YtebekjenmoijhaaDoor.PM
set_option linter.unusedVariables false
set_option linter.unusedSimpArgs false
theorem tdiv10 {x : Int} (h : 0 ≤ x) : x.tdiv 10 = x / 10 := Int.tdiv_eq_ediv_of_nonneg h
theorem tmod10 {x : Int} (h : 0 ≤ x) : x.tmod 10 = x % 10 := Int.tmod_eq_emod_of_nonneg h
theorem tdiv10n {x : Int} (h : 0 ≤ x) : (-x).tdiv 10 = -(x / 10) := by rw [Int.neg_tdiv, tdiv10 h]
theorem tmod10n {x : Int} (h : 0 ≤ x) : (-x).tmod 10 = -(x % 10) := by rw [Int.neg_tmod, tmod10 h]
theorem trim_last (m : List Int) (d : Int) (hz : m.length ≤ 1000) (k : Nat) : hopscotchref06_trim.l0 (k + 1) (m ++ [d]) = if d = 0 then hopscotchref06_trim.l0 k m else some (m ++ [d]) := by
  have e : wrap64 (((m ++ [d]).length : Int) - 1) = (m.length : Int) := by
    rw [List.length_append, List.length_singleton, wrap_id (by omega) (by omega)]
    omega
  have r : rd (m ++ [d]) (m.length : Int) = d := by
    rw [rd_lt (by simp)]
    exact List.getElem_concat_length rfl _
  simp only [hopscotchref06_trim.l0]
  rw [if_pos (by simp only [List.length_append, List.length_singleton]; omega), e, if_pos (by omega), if_pos (by simp only [List.length_append, List.length_singleton]; omega), r]
  by_cases h : d = 0
  · rw [if_pos h, if_pos h, if_pos (by simp only [List.length_append, List.length_singleton]; omega)]
    simp
  · rw [if_neg h, if_neg h]
theorem trim_ev : ∀ (n : Nat) (l : List Int), l.length = n → n ≤ 1000 → D l → Ev (fun k => hopscotchref06_trim.f k l) (dg (val l).toNat)
  | 0, l, hn, _, _ => by
    obtain rfl : l = [] := List.length_eq_zero_iff.mp hn
    refine Ev.step (f := fun _ => some []) (fun k => ?_) ?_
    · show hopscotchref06_trim.l0 (k + 1) [] = _
      simp [hopscotchref06_trim.l0]
    · rw [show (val []).toNat = 0 from rfl, dg_zero]
      exact Ev.now _
  | n + 1, l, hn, hz, hD => by
    obtain ⟨m, d, rfl⟩ : ∃ m d, l = m ++ [d] := by
      have h : l ≠ [] := by intro h; rw [h] at hn; cases hn
      exact ⟨l.dropLast, l.getLast h, (List.dropLast_concat_getLast h).symm⟩
    have hm : m.length = n := by simpa using hn
    by_cases h : d = 0
    · subst h
      refine Ev.step (f := fun k => hopscotchref06_trim.f k m) (fun k => ?_) ?_
      · show hopscotchref06_trim.l0 (k + 1) (m ++ [0]) = _
        rw [trim_last m 0 (by omega) k, if_pos rfl]
        rfl
      · have := trim_ev n m hm (by omega) hD.left
        rw [val_append]
        simpa [val] using this
    · refine Ev.step (f := fun k => some (m ++ [d])) (fun k => ?_) ?_
      · show hopscotchref06_trim.l0 (k + 1) (m ++ [d]) = _
        rw [trim_last m d (by omega) k, if_neg h]
      · rw [← dg_uniq hD]
        · exact Ev.now _
        · intro m' e
          have := (List.append_inj' e rfl).2
          simp at this
          exact h this
theorem trim_dg {l : List Int} (hz : l.length ≤ 1000) (hD : D l) : Ev (fun k => hopscotchref06_trim.f k l) (dg (val l).toNat) := trim_ev l.length l rfl hz hD
theorem digit_eq (l : List Int) (i : Nat) : hopscotchref06_digit.f l (i : Int) = some (rd l (i : Int)) := by
  unfold hopscotchref06_digit.f
  by_cases h : i < l.length
  · rw [if_pos (by omega), if_pos (by omega)]
  · rw [if_neg (by omega), rd_ge (by omega)]
theorem mx_max (a b : Nat) : mx (a : Int) (b : Int) = ((max a b : Nat) : Int) := by
  unfold mx
  split <;> omega
theorem add_loop (l m : List Int) (hl : D l) (hm : D m) (zl : l.length ≤ 500) (zm : m.length ≤ 500) :
    ∀ (f i : Nat) (o : List Int) (c : Nat), 2 * (max l.length m.length - i) + c ≤ f → c ≤ 1 → i + c ≤ max l.length m.length + 1 → o.length = i → D o →
      val o + 10 ^ i * (c : Int) = val (l.take i) + val (m.take i) → Ev (fun k => hopscotchref06_add.l0 k l m o (c : Int) (i : Int)) (dg (val l + val m).toNat) := by
  intro f
  induction f with
  | zero =>
    intro i o c hf hc hi ho hD hv
    obtain rfl : c = 0 := by omega
    have hend : max l.length m.length ≤ i := by omega
    refine Ev.step (f := fun k => hopscotchref06_add.j1 k l m o ((0 : Nat) : Int) (i : Int) false) (fun k => ?_) ?_
    · simp only [hopscotchref06_add.l0]
      rw [mx_max, if_neg (by omega)]
      rfl
    · refine Ev.step (f := fun k => (hopscotchref06_trim.f k o).bind fun t => some t) (fun k => ?_) ?_
      · simp only [hopscotchref06_add.j1]
        rfl
      · rw [List.take_of_length_le (by omega), List.take_of_length_le (by omega)] at hv
        have e : val o = val l + val m := by simpa using hv
        rw [← e]
        exact Ev.bind (trim_dg (by omega) hD) (Ev.now _)
  | succ f ih =>
    intro i o c hf hc hi ho hD hv
    by_cases hend : max l.length m.length ≤ i ∧ c = 0
    · obtain ⟨hend, rfl⟩ := hend
      refine Ev.step (f := fun k => hopscotchref06_add.j1 k l m o ((0 : Nat) : Int) (i : Int) false) (fun k => ?_) ?_
      · simp only [hopscotchref06_add.l0]
        rw [mx_max, if_neg (by omega)]
        rfl
      · refine Ev.step (f := fun k => (hopscotchref06_trim.f k o).bind fun t => some t) (fun k => ?_) ?_
        · simp only [hopscotchref06_add.j1]
          rfl
        · rw [List.take_of_length_le (by omega), List.take_of_length_le (by omega)] at hv
          have e : val o = val l + val m := by simpa using hv
          rw [← e]
          exact Ev.bind (trim_dg (by omega) hD) (Ev.now _)
    · have rl := hl.rd (i : Int)
      have rm := hm.rd (i : Int)
      obtain ⟨n, hn⟩ : ∃ n : Nat, (n : Int) = rd l (i : Int) + rd m (i : Int) + (c : Int) := ⟨(rd l (i : Int) + rd m (i : Int) + (c : Int)).toNat, by omega⟩
      refine Ev.step (f := fun k => hopscotchref06_add.j1 k l m o (c : Int) (i : Int) true) (fun k => ?_) ?_
      · simp only [hopscotchref06_add.l0]
        rw [mx_max]
        by_cases h : i < max l.length m.length
        · rw [if_pos (by omega)]
        · rw [if_neg (by omega)]
          rw [decide_eq_true (show (c : Int) > 0 by omega)]
      · refine Ev.step (f := fun k => hopscotchref06_add.l0 k l m (o ++ [((n % 10 : Nat) : Int)]) ((n / 10 : Nat) : Int) ((i + 1 : Nat) : Int)) (fun k => ?_) ?_
        · simp only [hopscotchref06_add.j1, if_true]
          rw [digit_eq, digit_eq, Option.bind_some, Option.bind_some, if_pos (by omega)]
          rw [wrap_id (n := rd l (i : Int) + rd m (i : Int)) (by omega) (by omega), ← hn, wrap_id (n := (n : Int)) (by omega) (by omega), tdiv10 (by omega), tmod10 (by omega), wrap_id (n := (n : Int) / 10) (by omega) (by omega), wrap_id (n := (i : Int) + 1) (by omega) (by omega)]
          rfl
        · refine ih (i + 1) _ (n / 10) ?_ (by omega) ?_ (by simp [ho]) (hD.append (D.cons (by omega) (by omega) D.nil)) ?_
          · by_cases h : i < max l.length m.length
            · omega
            · rw [rd_ge (by omega), rd_ge (by omega)] at hn
              omega
          · by_cases h : i < max l.length m.length
            · omega
            · rw [rd_ge (by omega), rd_ge (by omega)] at hn
              omega
          · rw [val_take_succ, val_take_succ, val_append, ho, Int.pow_succ]
            have e : ((n % 10 : Nat) : Int) + 10 * ((n / 10 : Nat) : Int) = rd l (i : Int) + rd m (i : Int) + (c : Int) := by omega
            have e2 := congrArg (fun x => (10 : Int) ^ i * x) e
            simp only [Int.mul_add] at e2
            simp only [val, Int.mul_zero, Int.add_zero, Int.mul_assoc]
            generalize (10 : Int) ^ i * ((n % 10 : Nat) : Int) = A at *
            generalize (10 : Int) ^ i * (10 * ((n / 10 : Nat) : Int)) = B at *
            omega
theorem add_dg {l m : List Int} (hl : D l) (hm : D m) (zl : l.length ≤ 500) (zm : m.length ≤ 500) : Ev (fun k => hopscotchref06_add.f k l m) (dg (val l + val m).toNat) :=
  add_loop l m hl hm zl zm _ 0 [] 0 (Nat.le_refl _) (by omega) (by omega) rfl D.nil (by simp [val])
def fitsR (v : Int) (below : Bool) : Int × Bool := if v ≤ 9223372036854775808 then (if below = true ∨ v = 0 then (-v, true) else if v = 9223372036854775808 then (0, false) else (v, true)) else (0, false)
theorem fits_loop (l : List Int) (hl : D l) (zl : l.length ≤ 1000) (below : Bool) :
    ∀ (j : Nat), j ≤ l.length → val (l.drop j) ≤ 9223372036854775808 → Ev (fun k => hopscotchref06_Fits.l0 k (-(val (l.drop j))) ((j : Int) - 1) l below) (fitsR (val l) below) := by
  intro j
  induction j with
  | zero =>
    intro _ hv
    rw [List.drop_zero] at *
    have h0 := val_nonneg hl
    refine Ev.step (f := fun k => hopscotchref06_Fits.j1 k (-(val l)) (below || decide (val l = 0))) (fun k => ?_) ?_
    · simp only [hopscotchref06_Fits.l0]
      rw [if_neg (by omega)]
      cases below
      · rw [if_neg (by decide)]
        by_cases h : val l = 0
        · rw [h]; rfl
        · rw [decide_eq_false h, show ((-val l == 0) = false) from by simpa using h]; rfl
      · rfl
    · refine Ev.step (f := fun _ => some (fitsR (val l) below)) (fun k => ?_) (Ev.now _)
      simp only [hopscotchref06_Fits.j1, fitsR, Bool.or_eq_true, decide_eq_true_eq]
      rw [if_pos hv]
      by_cases h : below = true ∨ val l = 0
      · rw [if_pos h, if_pos h]
      · rw [if_neg h, if_neg h]
        by_cases h2 : val l = 9223372036854775808
        · rw [if_pos (by omega), if_pos h2]
        · rw [if_neg (by omega), if_neg h2, wrap_id (by omega) (by omega)]
          simp
  | succ j ih =>
    intro hj hv
    have h0 := val_nonneg (hl.drop (j + 1))
    have hd := hl.rd (j : Int)
    have e := val_drop l j
    have hb := val_take_drop l j (by omega)
    have hv0 := val_nonneg (hl.take j)
    have hvd := val_nonneg (hl.drop j)
    have hp := pow10_pos j
    have hw : wrap64 ((wrap64 (-9223372036854775808 + rd l (j : Int))).tdiv 10) = -((9223372036854775808 - rd l (j : Int)) / 10) := by
      rw [wrap_id (n := -9223372036854775808 + rd l (j : Int)) (by omega) (by omega)]
      rw [show -9223372036854775808 + rd l (j : Int) = -(9223372036854775808 - rd l (j : Int)) by omega, tdiv10n (by omega), wrap_id (by omega) (by omega)]
    by_cases h : val (l.drop j) ≤ 9223372036854775808
    · refine Ev.step (f := fun k => hopscotchref06_Fits.l0 k (-(val (l.drop j))) ((j : Int) - 1) l below) (fun k => ?_) (ih (by omega) h)
      simp only [hopscotchref06_Fits.l0]
      rw [if_pos (by omega), if_pos (by omega), if_pos (by omega)]
      rw [show ((j + 1 : Nat) : Int) - 1 = (j : Int) by omega, hw, if_neg (by omega)]
      rw [wrap_id (n := 10 * -val (l.drop (j + 1))) (by omega) (by omega), wrap_id (by omega) (by omega), wrap_id (by omega) (by omega)]
      rw [show 10 * -val (l.drop (j + 1)) - rd l (j : Int) = -val (l.drop j) by omega]
    · refine Ev.step (f := fun k => some (fitsR (val l) below)) (fun k => ?_) (Ev.now _)
      simp only [hopscotchref06_Fits.l0]
      rw [if_pos (by omega), if_pos (by omega), if_pos (by omega)]
      rw [show ((j + 1 : Nat) : Int) - 1 = (j : Int) by omega, hw, if_pos (by omega)]
      have : val (l.drop j) ≤ 10 ^ j * val (l.drop j) := by
        have := Int.mul_le_mul_of_nonneg_right (show (1 : Int) ≤ 10 ^ j by omega) hvd
        rwa [Int.one_mul] at this
      unfold fitsR
      rw [if_neg (by omega)]
theorem fits_ev {l : List Int} (hl : D l) (zl : l.length ≤ 1000) (below : Bool) : Ev (fun k => hopscotchref06_Fits.f k l below) (fitsR (val l) below) := by
  have := fits_loop l hl zl below l.length (Nat.le_refl _) (by rw [List.drop_of_length_le (Nat.le_refl _)]; decide)
  rw [List.drop_of_length_le (Nat.le_refl _)] at this
  refine Ev.congr (fun k => ?_) this
  unfold hopscotchref06_Fits.f
  rw [wrap_id (by omega) (by omega)]
  rfl
def toldR (x : Int) : Int × Int := if -9223372036854775808 ≤ x ∧ x ≤ 9223372036854775807 then (x, 0) else (0, 60)
def sg (v : Int) (below : Bool) : Int := if below = true then -v else v
theorem told_ev {l : List Int} (hl : D l) (zl : l.length ≤ 1000) (below : Bool) : Ev (fun k => hopscotchref06_told.f k l below) (toldR (sg (val l) below)) := by
  refine Ev.bind (fits_ev hl zl below) ?_
  refine Ev.congr (f := fun _ => some (toldR (sg (val l) below))) (fun k => ?_) (Ev.now _)
  have h0 := val_nonneg hl
  unfold fitsR toldR sg
  cases below
  · simp only [Bool.false_eq_true, false_or, if_false]
    by_cases h1 : val l ≤ 9223372036854775808
    · by_cases h2 : val l = 0
      · rw [h2]; decide
      · by_cases h3 : val l = 9223372036854775808
        · rw [h3]; decide
        · simp only [if_pos h1, if_neg h2, if_neg h3, if_true]
          rw [if_pos (by omega)]
    · simp only [if_neg h1]
      rw [if_neg (by decide), if_neg (by omega)]
  · simp only [true_or, if_true]
    by_cases h1 : val l ≤ 9223372036854775808
    · simp only [if_pos h1, if_true]
      rw [if_pos (by omega)]
    · simp only [if_neg h1]
      rw [if_neg (by decide), if_neg (by omega)]
theorem of_loop (b : Bool) : ∀ (j n : Nat) (o : List Int), n < 10 ^ j → n ≤ 9223372036854775808 → o.length + j ≤ 1000 → Ev (fun k => hopscotchref06_Of.l0 k (sg (n : Int) b) o b) (o ++ dg n, b)
  | 0, n, o, hn, _, _ => by
    obtain rfl : n = 0 := by simpa using hn
    refine Ev.step (f := fun _ => some (o ++ dg 0, b)) (fun k => ?_) (Ev.now _)
    simp only [hopscotchref06_Of.l0]
    rw [if_pos (by unfold sg; split <;> rfl), dg_zero, List.append_nil]
  | j + 1, n, o, hn, hm, ho => by
    by_cases h : n = 0
    · subst h
      refine Ev.step (f := fun _ => some (o ++ dg 0, b)) (fun k => ?_) (Ev.now _)
      simp only [hopscotchref06_Of.l0]
      rw [if_pos (by unfold sg; split <;> rfl), dg_zero, List.append_nil]
    · have := of_loop b j (n / 10) (o ++ [((n % 10 : Nat) : Int)]) (by rw [Nat.pow_succ] at hn; omega) (by omega) (by simp; omega)
      rw [dg_pos h, show o ++ ((n % 10 : Nat) : Int) :: dg (n / 10) = o ++ [((n % 10 : Nat) : Int)] ++ dg (n / 10) by simp]
      refine Ev.step (fun k => ?_) this
      simp only [hopscotchref06_Of.l0]
      rw [if_neg (by unfold sg; split <;> omega), if_pos (by omega)]
      have h1 : wrap64 ((sg (n : Int) b).tdiv 10) = sg ((n / 10 : Nat) : Int) b := by
        unfold sg
        split
        · rw [tdiv10n (by omega), wrap_id (by omega) (by omega)]; omega
        · rw [tdiv10 (by omega), wrap_id (by omega) (by omega)]; omega
      have h2 : mx ((sg (n : Int) b).tmod 10) (wrap64 (-((sg (n : Int) b).tmod 10))) = ((n % 10 : Nat) : Int) := by
        unfold sg mx
        split
        · rw [tmod10n (by omega), wrap_id (by omega) (by omega)]; split <;> omega
        · rw [tmod10 (by omega), wrap_id (by omega) (by omega)]; split <;> omega
      rw [h1, h2]
theorem of_ev {a : Int} (h1 : -9223372036854775808 ≤ a) (h2 : a ≤ 9223372036854775807) : Ev (fun k => hopscotchref06_Of.f k a) (dg a.natAbs, decide (a < 0)) := by
  have := of_loop (decide (a < 0)) 20 a.natAbs [] (by omega) (by omega) (by simp)
  refine Ev.congr (fun k => ?_) this
  unfold hopscotchref06_Of.f
  rw [show sg (a.natAbs : Int) (decide (a < 0)) = a by unfold sg; split <;> simp_all <;> omega]
theorem dg_len {n : Nat} (h : n ≤ 10 ^ 100) : (dg n).length ≤ 101 := dg_length_le 101 n (Nat.lt_of_le_of_lt h (by decide))
theorem sg_abs (a : Int) : sg (a.natAbs : Int) (decide (a < 0)) = a := by unfold sg; split <;> simp_all <;> omega
end Go.Proofs.YtebekjenmoijhaaDoor.M
