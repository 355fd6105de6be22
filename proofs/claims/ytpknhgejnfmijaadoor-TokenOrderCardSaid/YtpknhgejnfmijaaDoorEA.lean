/- A text of the claim, with what no other text of it needs taken out. -/
import Derived.Test.YtpknhgejnfmijaaDoorUR
namespace Go.Proofs.YtpknhgejnfmijaaDoor.E
open Go Go.Proofs.YtpknhgejnfmijaaDoor.U
set_option linter.unusedVariables false
set_option linter.unusedSimpArgs false
def dig (c : UInt8) : Nat := if 48 ≤ c.toNat ∧ c.toNat ≤ 57 then c.toNat - 48 else if 97 ≤ c.toNat ∧ c.toNat ≤ 102 then c.toNat - 87 else if 65 ≤ c.toNat ∧ c.toNat ≤ 70 then c.toNat - 55 else 99
def put (n : Nat) : List UInt8 := if isx n = true then enc n else []
def num (b : Nat) (n : Nat) : List UInt8 → Nat
  | [] => n
  | c :: l => num b (n * b + dig c) l
def numR (b most : Nat) (l : List UInt8) : List UInt8 := if l ≠ [] ∧ l.length ≤ most ∧ l.all (fun c => decide (dig c < b)) = true then put (num b 0 l) else []
def cut : List UInt8 → Option (List UInt8)
  | [] => none
  | c :: l => if c = 59 then some [] else (cut l).map (c :: ·)
def word (t : List UInt8) : List UInt8 := if t = [97, 109, 112] then [38] else if t = [108, 116] then [60] else if t = [103, 116] then [62] else if t = [113, 117, 111, 116] then [34] else if t = [97, 112, 111, 115] then [39] else []
def nameR (t : List UInt8) : List UInt8 :=
  match t with
  | 35 :: 120 :: h => numR 16 6 h
  | 35 :: d => numR 10 7 d
  | _ => word t
def refR : List UInt8 → List UInt8 × Nat
  | [] => ([], 0)
  | c :: t => if c = 38 then (match cut t with | none => ([], 0) | some nm => if nameR nm = [] then ([], 0) else (nameR nm, nm.length + 2)) else ([], 0)
def stepR (l : List UInt8) : List UInt8 × Nat × Nat :=
  if (refR l).2 ≠ 0 then ((refR l).1, (refR l).2, 0) else if l.head? = some 38 then ([], 0, 30) else if (nx l).2 = 0 then ([], 0, 10) else (l.take (nx l).2, (nx l).2, 0)
def decF : Nat → List UInt8 → List UInt8 × Nat × Nat
  | 0, _ => ([], 0, 0)
  | k + 1, l => if l = [] then ([], 0, 0) else if (stepR l).2.2 ≠ 0 then ([], 0, (stepR l).2.2) else
      ((stepR l).1 ++ (decF k (l.drop (stepR l).2.1)).1, (stepR l).2.1 + (decF k (l.drop (stepR l).2.1)).2.1, (decF k (l.drop (stepR l).2.1)).2.2)
def D (l : List UInt8) : List UInt8 × Nat × Nat := decF l.length l
theorem cut_length : ∀ (t nm : List UInt8), cut t = some nm → nm.length + 1 ≤ t.length := by
  intro t
  induction t with
  | nil => intro nm h; cases h
  | cons c t ih =>
    intro nm h
    simp only [cut] at h
    by_cases hc : c = 59
    · rw [if_pos hc] at h
      cases h
      simp
    · rw [if_neg hc] at h
      cases ht : cut t with
      | none => rw [ht] at h; cases h
      | some x =>
        rw [ht] at h
        cases h
        have := ih x ht
        simp
        omega
theorem refR_amp (t : List UInt8) : refR (38 :: t) = (match cut t with | none => ([], 0) | some nm => if nameR nm = [] then ([], 0) else (nameR nm, nm.length + 2)) := by
  simp [refR]
theorem refR_other (c : UInt8) (t : List UInt8) (h : c ≠ 38) : refR (c :: t) = ([], 0) := by
  simp [refR, h]
theorem refR_le (l : List UInt8) : (refR l).2 ≤ l.length := by
  cases l with
  | nil => simp [refR]
  | cons c t =>
    simp only [refR]
    by_cases h : c = 38
    · rw [if_pos h]
      cases hc : cut t with
      | none => simp
      | some nm =>
        simp only
        have := cut_length t nm hc
        split
        · simp
        · simp; omega
    · rw [if_neg h]
      simp
theorem nx_append (a b : List UInt8) (h : (nx a).2 ≠ 0) : nx (a ++ b) = nx a := by
  obtain ⟨h0, _, hx, he, h5, h6, h7, _⟩ := nx_good a h
  have := nx_of_take (nx a).1 hx (a ++ b) (by rw [← h5, List.take_append_of_le_length h6, he])
  rw [this]
  exact Prod.ext rfl h5.symm
theorem stepR_le (l : List UInt8) : (stepR l).2.1 ≤ l.length := by
  unfold stepR
  have h1 := refR_le l
  split
  · exact h1
  · split
    · simp
    · split
      · simp
      · rename_i h
        exact (nx_good l h).2.2.2.2.2.1
theorem stepR_pos (l : List UInt8) (h : (stepR l).2.2 = 0) : 1 ≤ (stepR l).2.1 := by
  unfold stepR at h ⊢
  by_cases h1 : (refR l).2 ≠ 0
  · rw [if_pos h1]
    simp only
    omega
  · rw [if_neg h1] at h ⊢
    by_cases h2 : l.head? = some 38
    · rw [if_pos h2] at h
      simp at h
    · rw [if_neg h2] at h ⊢
      by_cases h3 : (nx l).2 = 0
      · rw [if_pos h3] at h
        simp at h
      · rw [if_neg h3]
        simp only
        omega
theorem decF_more : ∀ (n : Nat) (l : List UInt8), l.length ≤ n → ∀ k, l.length ≤ k → decF k l = decF n l := by
  intro n
  induction n with
  | zero =>
    intro l hl k hk
    have : l = [] := List.length_eq_zero_iff.mp (by omega)
    subst this
    cases k <;> simp [decF]
  | succ n ih =>
    intro l hl k hk
    cases k with
    | zero =>
      have : l = [] := List.length_eq_zero_iff.mp (by omega)
      subst this
      simp [decF]
    | succ k =>
      simp only [decF]
      by_cases h0 : l = []
      · rw [if_pos h0, if_pos h0]
      · rw [if_neg h0, if_neg h0]
        by_cases h1 : (stepR l).2.2 ≠ 0
        · rw [if_pos h1, if_pos h1]
        · have hp := stepR_pos l (by omega)
          have hle := stepR_le l
          rw [if_neg h1, if_neg h1, ih (l.drop (stepR l).2.1) (by rw [List.length_drop]; omega) k (by rw [List.length_drop]; omega)]
theorem D_nil : D [] = ([], 0, 0) := rfl
theorem D_bad (l : List UInt8) (h0 : l ≠ []) (h : (stepR l).2.2 ≠ 0) : D l = ([], 0, (stepR l).2.2) := by
  unfold D
  obtain ⟨n, hn⟩ : ∃ n, l.length = n + 1 := ⟨l.length - 1, by have := List.length_pos_iff.mpr h0; omega⟩
  rw [hn]
  simp only [decF]
  rw [if_neg h0, if_pos h]
theorem D_go (l : List UInt8) (h0 : l ≠ []) (h : (stepR l).2.2 = 0) :
    D l = ((stepR l).1 ++ (D (l.drop (stepR l).2.1)).1, (stepR l).2.1 + (D (l.drop (stepR l).2.1)).2.1, (D (l.drop (stepR l).2.1)).2.2) := by
  have hp := stepR_pos l h
  have hle := stepR_le l
  obtain ⟨n, hn⟩ : ∃ n, l.length = n + 1 := ⟨l.length - 1, by have := List.length_pos_iff.mpr h0; omega⟩
  have hm := decF_more (l.drop (stepR l).2.1).length (l.drop (stepR l).2.1) (Nat.le_refl _) n (by rw [List.length_drop]; omega)
  show decF l.length l = _
  rw [hn]
  simp only [decF]
  rw [if_neg h0, if_neg (by omega), hm]
  rfl
theorem D_le : ∀ (n : Nat) (l : List UInt8), l.length ≤ n → (D l).2.1 ≤ l.length ∧ ((D l).2.2 = 0 → (D l).2.1 = l.length) ∧ ((D l).2.2 = 0 ∨ (D l).2.2 = 10 ∨ (D l).2.2 = 30) := by
  intro n
  induction n with
  | zero =>
    intro l hl
    have : l = [] := List.length_eq_zero_iff.mp (by omega)
    subst this
    simp [D_nil]
  | succ n ih =>
    intro l hl
    by_cases h0 : l = []
    · subst h0; simp [D_nil]
    · by_cases h : (stepR l).2.2 = 0
      · have hp := stepR_pos l h
        have hle := stepR_le l
        rw [D_go l h0 h]
        have := ih (l.drop (stepR l).2.1) (by rw [List.length_drop]; omega)
        rw [List.length_drop] at this
        simp only
        refine ⟨by omega, fun e => ?_, this.2.2⟩
        have := this.2.1 e
        omega
      · rw [D_bad l h0 h]
        refine ⟨by simp, fun e => absurd e h, ?_⟩
        simp only
        unfold stepR at h ⊢
        split at h
        · exact absurd rfl h
        · rename_i h1
          rw [if_neg h1]
          split at h
          · rename_i h2; rw [if_pos h2]; simp
          · rename_i h2
            rw [if_neg h2]
            split at h
            · rename_i h3; rw [if_pos h3]; simp
            · exact absurd rfl h
def Ok (l : List UInt8) : Prop := (R l).2 = l.length
theorem R_append : ∀ (n : Nat) (a b : List UInt8), a.length ≤ n → Ok a → R (a ++ b) = ((R a).1 + (R b).1, (R a).2 + (R b).2) := by
  intro n
  induction n with
  | zero =>
    intro a b ha _
    have : a = [] := List.length_eq_zero_iff.mp (by omega)
    subst this
    simp [R_nil]
  | succ n ih =>
    intro a b ha hr
    unfold Ok at hr
    by_cases h : (nx a).2 = 0
    · rw [R_stop a h] at hr
      have : a = [] := List.length_eq_zero_iff.mp hr.symm
      subst this
      simp [R_nil]
    · obtain ⟨h0, _, hx, he, h5, h6, h7, _⟩ := nx_good a h
      have hn := nx_append a b h
      have hd : (a ++ b).drop (nx a).2 = a.drop (nx a).2 ++ b := List.drop_append_of_le_length h6
      rw [R_go a h] at hr ⊢
      have := ih (a.drop (nx a).2) b (by rw [List.length_drop]; omega) (by unfold Ok; rw [List.length_drop]; simp only at hr; omega)
      rw [R_go (a ++ b) (by rw [hn]; exact h), hn, hd, this]
      refine Prod.ext ?_ ?_
      · simp only; omega
      · simp only; omega
theorem Ok.append {a b : List UInt8} (ha : Ok a) (hb : Ok b) : Ok (a ++ b) := by
  have := R_append a.length a b (Nat.le_refl _) ha
  unfold Ok at *
  rw [this, List.length_append]
  simp only
  omega
theorem Ok.nil : Ok [] := rfl
end Go.Proofs.YtpknhgejnfmijaaDoor.E
