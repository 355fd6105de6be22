/- A text of the claim, with what no other text of it needs taken out. -/
import Derived.Test.YtebekjenmoijhaaDoorM6
import Derived.Test.YtebekjenmoijhaaDoorPM4
namespace Go.Proofs.YtebekjenmoijhaaDoor.M
open Go Go.RowKit Go.Proofs.YtebekjenmoijhaaDoorW.PrintWords Go.Proofs.YtebekjenmoijhaaDoorW.PrintMore Go.Proofs.YtebekjenmoijhaaDoor.PM
set_option linter.unusedVariables false
set_option linter.unusedSimpArgs false
theorem works_40 : hopscotchlaw06_works.f 40 = some true := by decide +kernel
theorem works_ev : Ev (fun k => hopscotchlaw06_works.f k) true := Ev.of hopscotchlaw06_works.mono works_40
theorem works_some : Ev (fun k => (hopscotchlaw06_works.f k).bind fun t => some t) true := Ev.bind works_ev (Ev.now _)
theorem same_ev {f : Nat → Option (Int × Int)} {g : Nat → Option (Int × Int)} {n : Nat → Option Bool} {r : Int × Int} (hf : Ev f r) (hg : Ev g r) (hn : Ev n true) :
    Ev (fun k => (f k).bind fun p => (g k).bind fun q => if p.1 = q.1 then (if p.2 = q.2 then n k else some false) else some false) true := by
  refine Ev.bind hf (Ev.bind hg ?_)
  simp only [if_true]
  exact hn
theorem law_NumReckons (a b : Int) (ha : I a) (hb : I b) : Ev (fun k => hopscotchlaw06_NumReckons.f k a b) true := by
  have w : ∀ i : Nat, i < 10 → wrap64 ((i : Int) + 1) = ((i + 1 : Nat) : Int) := fun i hi => by rw [wrap_id (by omega) (by omega)]; rfl
  have s6 : Ev (fun k => hopscotchlaw06_NumReckons.l0 k a b ((6 : Nat) : Int)) true := by
    refine Ev.step (fun k => ?_) works_some
    simp only [hopscotchlaw06_NumReckons.l0]
    rw [if_neg (by omega)]
  have s5 : Ev (fun k => hopscotchlaw06_NumReckons.l0 k a b ((5 : Nat) : Int)) true := by
    refine Ev.step (fun k => ?_) (same_ev (f := fun _ => num_Neg.f a) (by rw [Neg_eq ha]; exact Ev.now _) (refNeg_ev ha) s6)
    simp only [hopscotchlaw06_NumReckons.l0]
    rw [if_pos (by omega), if_neg (by omega), if_neg (by omega), if_neg (by omega), if_neg (by omega), if_neg (by omega), w 5 (by omega)]
  have s4 : Ev (fun k => hopscotchlaw06_NumReckons.l0 k a b ((4 : Nat) : Int)) true := by
    refine Ev.step (fun k => ?_) (same_ev (Mod_ev ha hb) (refMod_ev ha hb) s5)
    simp only [hopscotchlaw06_NumReckons.l0]
    rw [if_pos (by omega), if_neg (by omega), if_neg (by omega), if_neg (by omega), if_neg (by omega), if_pos (by omega), w 4 (by omega)]
  have s3 : Ev (fun k => hopscotchlaw06_NumReckons.l0 k a b ((3 : Nat) : Int)) true := by
    refine Ev.step (fun k => ?_) (same_ev (Div_ev ha hb) (refDiv_ev ha hb) s4)
    simp only [hopscotchlaw06_NumReckons.l0]
    rw [if_pos (by omega), if_neg (by omega), if_neg (by omega), if_neg (by omega), if_pos (by omega), w 3 (by omega)]
  have s2 : Ev (fun k => hopscotchlaw06_NumReckons.l0 k a b ((2 : Nat) : Int)) true := by
    refine Ev.step (fun k => ?_) (same_ev (Mul_ev ha hb) (refMul_ev ha hb) s3)
    simp only [hopscotchlaw06_NumReckons.l0]
    rw [if_pos (by omega), if_neg (by omega), if_neg (by omega), if_pos (by omega), w 2 (by omega)]
  have s1 : Ev (fun k => hopscotchlaw06_NumReckons.l0 k a b ((1 : Nat) : Int)) true := by
    refine Ev.step (fun k => ?_) (same_ev (f := fun _ => num_Sub.f a b) (by rw [Sub_eq ha hb]; exact Ev.now _) (refSub_ev ha hb) s2)
    simp only [hopscotchlaw06_NumReckons.l0]
    rw [if_pos (by omega), if_neg (by omega), if_pos (by omega), w 1 (by omega)]
  refine Ev.step (fun k => ?_) (same_ev (f := fun _ => num_Add.f a b) (by rw [Add_eq ha hb]; exact Ev.now _) (refAdd_ev ha hb) s1)
  show hopscotchlaw06_NumReckons.l0 (k + 1) a b 0 = _
  simp only [hopscotchlaw06_NumReckons.l0]
  rw [if_pos (by omega), if_pos trivial, show wrap64 (0 + 1) = ((1 : Nat) : Int) from w 0 (by omega)]
def sumR : Int → List Int → Int × Int
  | n, [] => (n, 0)
  | n, x :: l => if (toldR (n + x)).2 = 0 then sumR (toldR (n + x)).1 l else (0, (toldR (n + x)).2)
theorem sum_loop (l : List Int) (hl : ∀ x ∈ l, I x) (zl : l.length ≤ 1000) : ∀ (j i : Nat) (n : Int), i + j = l.length → I n →
    Ev (fun k => num_Sum.l0 k n l (l.length : Int) (i : Int)) (sumR n (l.drop i)) ∧ Ev (fun k => hopscotchref06_Sum.l0 k l n (i : Int)) (sumR n (l.drop i)) := by
  intro j
  induction j with
  | zero =>
    intro i n hi hn
    rw [List.drop_of_length_le (by omega)]
    constructor
    · refine Ev.step (f := fun _ => some (n, 0)) (fun k => ?_) (Ev.now _)
      simp only [num_Sum.l0]
      rw [if_neg (by omega)]
    · refine Ev.step (f := fun _ => some (n, 0)) (fun k => ?_) (Ev.now _)
      simp only [hopscotchref06_Sum.l0]
      rw [if_neg (by omega)]
  | succ j ih =>
    intro i n hi hn
    have hlt : i < l.length := by omega
    have hx : I (rd l (i : Int)) := by rw [rd_lt hlt]; exact hl _ (List.getElem_mem hlt)
    obtain ⟨h1, h2⟩ := ih (i + 1) (toldR (n + rd l (i : Int))).1 (by omega) (toldR_I _)
    rw [List.drop_eq_getElem_cons hlt, ← rd_lt hlt]
    simp only [sumR]
    constructor
    · refine Ev.step (f := fun k => (num_Add.f n (rd l (i : Int))).bind fun p => if p.2 = 0 then num_Sum.l0 k p.1 l (l.length : Int) ((i + 1 : Nat) : Int) else some (0, p.2)) (fun k => ?_) ?_
      · simp only [num_Sum.l0]
        rw [if_pos (by omega), if_pos (by omega), if_pos (by omega), wrap_id (by omega) (by omega)]
        rfl
      · rw [Add_eq hn hx]
        simp only [Option.bind_some]
        by_cases h : (toldR (n + rd l (i : Int))).2 = 0
        · simp only [if_pos h]; exact h1
        · simp only [if_neg h]; exact Ev.now _
    · refine Ev.step (f := fun k => (hopscotchref06_Add.f k n (rd l (i : Int))).bind fun p => if p.2 = 0 then hopscotchref06_Sum.l0 k l p.1 ((i + 1 : Nat) : Int) else some (0, p.2)) (fun k => ?_) ?_
      · simp only [hopscotchref06_Sum.l0]
        rw [if_pos (by omega), if_pos (by omega), wrap_id (by omega) (by omega)]
        rfl
      · refine Ev.bind (refAdd_ev hn hx) ?_
        by_cases h : (toldR (n + rd l (i : Int))).2 = 0
        · simp only [if_pos h]; exact h2
        · simp only [if_neg h]; exact Ev.now _
theorem sums_loop (l : List Int) (zl : l.length ≤ 50) (n e : Int) : ∀ (j i : Nat), i + j = l.length →
    Ev (fun k => hopscotchlaw06_NumSums.l0 k l l n e n e (i : Int)) true := by
  intro j
  induction j with
  | zero =>
    intro i hi
    refine Ev.step (fun k => ?_) works_some
    simp only [hopscotchlaw06_NumSums.l0]
    rw [if_neg (by omega), if_pos trivial, if_pos trivial]
  | succ j ih =>
    intro i hi
    refine Ev.step (fun k => ?_) (ih (i + 1) (by omega))
    simp only [hopscotchlaw06_NumSums.l0]
    rw [if_pos (by omega), if_pos (by omega), if_pos (by omega), if_pos trivial, wrap_id (by omega) (by omega)]
    rfl
theorem law_NumSums (l : List Int) (hl : ∀ x ∈ l, I x) : Ev (fun k => hopscotchlaw06_NumSums.f k l) true := by
  unfold hopscotchlaw06_NumSums.f
  by_cases h : (l.length : Int) > 50
  · simp only [if_pos h]; exact works_some
  · simp only [if_neg h]
    simp only [if_pos (show ([] : List Int).length + l.length < 17592186044416 by simp only [List.length_nil]; omega), List.nil_append, Option.bind_some]
    obtain ⟨h1, h2⟩ := sum_loop l hl (by omega) l.length 0 0 (by omega) (by unfold I; omega)
    refine Ev.bind h1 (Ev.bind h2 ?_)
    exact sums_loop l (by omega) _ _ l.length 0 (by omega)
end Go.Proofs.YtebekjenmoijhaaDoor.M
