/- A text of the claim, with what no other text of it needs taken out. -/
import Derived.Test.YtebekjenmoijhaaDoorM4
import Derived.Test.YtebekjenmoijhaaDoorPM7
import Derived.Test.YtebekjenmoijhaaDoorPM6
namespace Go.Proofs.YtebekjenmoijhaaDoor.M
open Go Go.RowKit Go.Proofs.YtebekjenmoijhaaDoorW.PrintWords Go.Proofs.YtebekjenmoijhaaDoorW.PrintMore Go.Proofs.YtebekjenmoijhaaDoor.PM
set_option linter.unusedVariables false
set_option linter.unusedSimpArgs false
theorem refNeg_ev {a : Int} (ha : I a) : Ev (fun k => hopscotchref06_Neg.f k a) (toldR (-a)) := by
  unfold I at ha
  have e : sg (a.natAbs : Int) (!decide (a < 0)) = -a := by unfold sg; by_cases h : a < 0 <;> simp [h] <;> omega
  rw [← e]
  exact Ev.bind (of_ev ha.1 ha.2) (Ev.bind (Ev.now _) (Ev.bind (told_dg _ _ (by omega)) (Ev.now _)))
theorem set_mid (i : Nat) (c : Int) (q : List Int) (x : Int) : (List.replicate i 0 ++ c :: q).set i x = List.replicate i 0 ++ x :: q := by
  rw [List.set_append_right _ _ (by simp)]
  simp
theorem rd_mid (i : Nat) (c : Int) (q : List Int) : rd (List.replicate i 0 ++ c :: q) (i : Int) = c := by
  rw [rd_nat, List.getD, List.getElem?_append_right (by simp)]
  simp
theorem parts_loop (l : List Int) (hl : D l) (zl : l.length ≤ 100) (V m : Nat) (hV : (V : Int) = val l) (hm0 : 0 < m) (hm : m ≤ 10 ^ 30) :
    ∀ (i : Nat), i ≤ l.length → ∀ (q : List Int) (vq R : Nat), D q → (vq : Int) = val q → q.length + i = l.length → ((vq * m + R : Nat) : Int) = val (l.drop i) → R < m →
      Ev (fun k => hopscotchref06_parts.l0 k l (dg m) (List.replicate i 0 ++ q) (dg R) ((i : Int) - 1)) (dg (V / m), dg (V % m)) := by
  intro i
  induction i with
  | zero =>
    intro _ q vq R hq hvq hlen hval hR
    rw [List.drop_zero, ← hV] at hval
    have hv : vq * m + R = V := by exact_mod_cast hval
    have e1 : V / m = vq := by
      rw [← hv, Nat.mul_comm, Nat.mul_add_div hm0, Nat.div_eq_of_lt hR]; rfl
    have e2 : V % m = R := by
      rw [← hv, Nat.mul_comm, Nat.mul_add_mod, Nat.mod_eq_of_lt hR]
    rw [e1, e2]
    refine Ev.step (f := fun k => (hopscotchref06_trim.f k q).bind fun t => some (t, dg R)) (fun k => ?_) ?_
    · simp only [hopscotchref06_parts.l0]
      rw [if_neg (by omega)]
      rfl
    · have := trim_dg (l := q) (by omega) hq
      rw [← hvq, Int.toNat_natCast] at this
      exact Ev.bind this (Ev.now _)
  | succ i ih =>
    intro hi q vq R hq hvq hlen hval hR
    have hrd := hl.rd (i : Int)
    obtain ⟨a, ha⟩ : ∃ a : Nat, (a : Int) = rd l (i : Int) := ⟨_, Int.toNat_of_nonneg hrd.1⟩
    have turns : ∀ (t c : Nat) (R' : Nat), c + t = 10 → R' < t * m → (((c + 10 * vq) * m + R' : Nat) : Int) = val (l.drop i) →
        Ev (fun k => hopscotchref06_parts.l1 k l (dg m) (List.replicate i 0 ++ (c : Int) :: q) (dg R') (i : Int)) (dg (V / m), dg (V % m)) := by
      intro t
      induction t with
      | zero => intro c R' _ h; simp at h
      | succ t iht =>
        intro c R' hc hR' hval'
        have hRb : R' ≤ 10 ^ 100 := by
          have : (t + 1) * m ≤ 10 * 10 ^ 30 := Nat.mul_le_mul (by omega) hm
          omega
        refine Ev.step (f := fun k => (hopscotchref06_less.f k (dg R') (dg m)).bind fun t316 =>
          if t316 = true then hopscotchref06_parts.l0 k l (dg m) (List.replicate i 0 ++ (c : Int) :: q) (dg R') (wrap64 ((i : Int) - 1))
          else (hopscotchref06_take.f k (dg R') (dg m)).bind fun t317 => if 0 ≤ (i : Int) then if (i : Int) < ((List.replicate i (0 : Int) ++ (c : Int) :: q).length : Int) then
            hopscotchref06_parts.l1 k l (dg m) ((List.replicate i 0 ++ (c : Int) :: q).set (i : Int).toNat (wrap64 (rd (List.replicate i 0 ++ (c : Int) :: q) (i : Int) + 1))) t317 (i : Int) else none else none)
          (fun k => by simp only [hopscotchref06_parts.l1]) ?_
        refine Ev.bind (less_ev hRb (by omega)) ?_
        by_cases h : R' < m
        · refine Ev.congr (fun k => ?_) (ih (by omega) ((c : Int) :: q) (c + 10 * vq) R' (D.cons (by omega) (by omega) hq) (by simp only [val]; omega) (by simp only [List.length_cons]; omega) hval' h)
          simp only [decide_eq_true h, if_true]
          rw [wrap_id (by omega) (by omega)]
        · have hmR : m ≤ R' := by omega
          have hc9 : c ≤ 9 := by omega
          refine Ev.congr (f := fun k => (hopscotchref06_take.f k (dg R') (dg m)).bind fun t317 => hopscotchref06_parts.l1 k l (dg m) (List.replicate i 0 ++ ((c + 1 : Nat) : Int) :: q) t317 (i : Int)) (fun k => ?_) (Ev.bind (take_ev hRb hmR) (iht (c + 1) (R' - m) (by omega) ?_ ?_))
          · simp only [decide_eq_false h, Bool.false_eq_true, if_false]
            rw [rd_mid, Int.toNat_natCast, set_mid, wrap_id (by omega) (by omega)]
            simp only [if_pos (show (0 : Int) ≤ (i : Int) by omega), if_pos (show (i : Int) < ((List.replicate i (0 : Int) ++ (c : Int) :: q).length : Int) by simp only [List.length_append, List.length_replicate, List.length_cons]; omega)]
            rfl
          · rw [Nat.succ_mul] at hR'
            omega
          · rw [← hval']
            congr 1
            have : (c + 1 + 10 * vq) * m = (c + 10 * vq) * m + m := by rw [show c + 1 + 10 * vq = (c + 10 * vq) + 1 by omega, Nat.succ_mul]
            omega
    have hy : D (rd l (i : Int) :: dg R) := D.cons hrd.1 hrd.2 (dg_D R)
    have z := dg_len (n := R) (by omega)
    have ht := trim_dg (l := rd l (i : Int) :: dg R) (by simp only [List.length_cons]; omega) hy
    rw [show (val (rd l (i : Int) :: dg R)).toNat = a + 10 * R by simp only [val, dg_val]; omega] at ht
    refine Ev.step (f := fun k => (hopscotchref06_trim.f k (rd l (i : Int) :: dg R)).bind fun x => hopscotchref06_parts.l1 k l (dg m) (List.replicate i 0 ++ ((0 : Nat) : Int) :: q) x (i : Int)) (fun k => ?_) ?_
    · simp only [hopscotchref06_parts.l0]
      rw [if_pos (by omega), if_pos (by omega), if_pos (by omega), show ((i + 1 : Nat) : Int) - 1 = (i : Int) by omega]
      rw [Option.bind_some, if_pos (by simp only [List.length_singleton]; omega)]
      rw [List.replicate_succ', List.append_assoc]
      rfl
    · refine Ev.bind ht (turns 10 0 (a + 10 * R) (by omega) (by omega) ?_)
      have e := val_drop l i
      rw [← ha, ← hval] at e
      rw [e]
      push_cast
      rw [Int.zero_add, Int.mul_add, Int.mul_assoc]
      omega
theorem parts_ev {n m : Nat} (hn : n ≤ 9223372036854775808) (hm : m ≤ 9223372036854775808) (hm0 : 0 < m) : Ev (fun k => hopscotchref06_parts.f k (dg n) (dg m)) (dg (n / m), dg (n % m)) := by
  have z : (dg n).length ≤ 20 := dg_length_le 20 n (by omega)
  have := parts_loop (dg n) (dg_D n) (by omega) n m (dg_val n).symm hm0 (by omega) (dg n).length (Nat.le_refl _) [] 0 0 D.nil rfl (by simp) (by rw [List.drop_of_length_le (Nat.le_refl _)]; simp [val]) hm0
  refine Ev.congr (fun k => ?_) this
  unfold hopscotchref06_parts.f
  rw [if_pos (by omega), if_pos (by rw [Int.toNat_natCast]; omega), Int.toNat_natCast, wrap_id (by omega) (by omega), List.append_nil, dg_zero]
theorem sg_div (a b : Int) : sg ((a.natAbs / b.natAbs : Nat) : Int) (decide (a < 0) != decide (b < 0)) = a.tdiv b := by
  by_cases h : a < 0 <;> by_cases h' : b < 0
  · rw [decide_eq_true h, decide_eq_true h']
    obtain ⟨n, rfl⟩ : ∃ n : Nat, a = -(n : Int) := ⟨a.natAbs, by omega⟩
    obtain ⟨m, rfl⟩ : ∃ m : Nat, b = -(m : Int) := ⟨b.natAbs, by omega⟩
    simp [sg, Int.neg_tdiv, Int.tdiv_neg, Int.ofNat_tdiv]
  · rw [decide_eq_true h, decide_eq_false h']
    obtain ⟨n, rfl⟩ : ∃ n : Nat, a = -(n : Int) := ⟨a.natAbs, by omega⟩
    obtain ⟨m, rfl⟩ : ∃ m : Nat, b = (m : Int) := ⟨b.natAbs, by omega⟩
    simp [sg, Int.neg_tdiv, Int.tdiv_neg, Int.ofNat_tdiv]
  · rw [decide_eq_false h, decide_eq_true h']
    obtain ⟨n, rfl⟩ : ∃ n : Nat, a = (n : Int) := ⟨a.natAbs, by omega⟩
    obtain ⟨m, rfl⟩ : ∃ m : Nat, b = -(m : Int) := ⟨b.natAbs, by omega⟩
    simp [sg, Int.neg_tdiv, Int.tdiv_neg, Int.ofNat_tdiv]
  · rw [decide_eq_false h, decide_eq_false h']
    obtain ⟨n, rfl⟩ : ∃ n : Nat, a = (n : Int) := ⟨a.natAbs, by omega⟩
    obtain ⟨m, rfl⟩ : ∃ m : Nat, b = (m : Int) := ⟨b.natAbs, by omega⟩
    simp [sg, Int.neg_tdiv, Int.tdiv_neg, Int.ofNat_tdiv]
theorem sg_mod (a b : Int) : sg ((a.natAbs % b.natAbs : Nat) : Int) (decide (a < 0)) = a.tmod b := by
  obtain ⟨m, hm⟩ : ∃ m : Nat, m = b.natAbs := ⟨_, rfl⟩
  have hb : a.tmod b = a.tmod (m : Int) := by
    rcases Int.natAbs_eq b with h | h
    · rw [hm, ← h]
    · rw [hm]; conv => lhs; rw [h, Int.tmod_neg]
  rw [hb, ← hm]
  by_cases h : a < 0
  · rw [decide_eq_true h]
    obtain ⟨n, rfl⟩ : ∃ n : Nat, a = -(n : Int) := ⟨a.natAbs, by omega⟩
    simp only [sg, if_true, Int.neg_tmod, Int.natAbs_neg, Int.natAbs_natCast, Int.ofNat_tmod]
  · rw [decide_eq_false h]
    obtain ⟨n, rfl⟩ : ∃ n : Nat, a = (n : Int) := ⟨a.natAbs, by omega⟩
    simp only [sg, Bool.false_eq_true, if_false, Int.natAbs_natCast, Int.ofNat_tmod]
def divR (a b : Int) : Int × Int := if b = 0 then (0, 61) else toldR (a.tdiv b)
def modR (a b : Int) : Int × Int := if b = 0 then (0, 61) else toldR (a.tmod b)
theorem refDiv_ev {a b : Int} (ha : I a) (hb : I b) : Ev (fun k => hopscotchref06_Div.f k a b) (divR a b) := by
  unfold I at ha hb
  unfold divR hopscotchref06_Div.f
  by_cases h : b = 0
  · simp only [if_pos h]; exact Ev.now _
  · simp only [if_neg h]
    rw [← sg_div]
    have hd : a.natAbs / b.natAbs ≤ 9223372036854775808 := Nat.le_trans (Nat.div_le_self _ _) (by omega)
    exact Ev.bind (of_ev ha.1 ha.2) (Ev.bind (of_ev hb.1 hb.2) (Ev.bind (parts_ev (by omega) (by omega) (by omega)) (Ev.bind (told_dg _ _ (by omega)) (Ev.now _))))
theorem refMod_ev {a b : Int} (ha : I a) (hb : I b) : Ev (fun k => hopscotchref06_Mod.f k a b) (modR a b) := by
  unfold I at ha hb
  unfold modR hopscotchref06_Mod.f
  by_cases h : b = 0
  · simp only [if_pos h]; exact Ev.now _
  · simp only [if_neg h]
    rw [← sg_mod]
    have hd : a.natAbs % b.natAbs ≤ 9223372036854775808 := Nat.le_trans (Nat.mod_le _ _) (by omega)
    exact Ev.bind (of_ev ha.1 ha.2) (Ev.bind (of_ev hb.1 hb.2) (Ev.bind (parts_ev (by omega) (by omega) (by omega)) (Ev.bind (told_dg _ _ (by omega)) (Ev.now _))))
end Go.Proofs.YtebekjenmoijhaaDoor.M
