/- A text of the claim, with what no other text of it needs taken out. -/
import Derived.Test.YtjciehecedepeaaDoorUR
namespace Go.Proofs.YtjciehecedepeaaDoor.E
open Go Go.Proofs.YtjciehecedepeaaDoor.U
set_option linter.unusedVariables false
set_option linter.unusedSimpArgs false
def dig (c : UInt8) : Nat := if 48 ≤ c.toNat ∧ c.toNat ≤ 57 then c.toNat - 48 else if 97 ≤ c.toNat ∧ c.toNat ≤ 102 then c.toNat - 87 else if 65 ≤ c.toNat ∧ c.toNat ≤ 70 then c.toNat - 55 else 99
def put (n : Nat) : List UInt8 := if isx n = true then enc n else []
def num (b : Nat) (n : Nat) : List UInt8 → Nat
  | [] => n
  | c :: l => num b (n * b + dig c) l
def numR (b most : Nat) (l : List UInt8) : List UInt8 := if l ≠ [] ∧ l.length ≤ most ∧ l.all (fun c => decide (dig c < b)) = true then put (num b 0 l) else []
def cut : List UInt8 → Option (List UInt8)
  | [] => none
  | c :: l => if c = 59 then some [] else (cut l).map (c :: ·)
def word (t : List UInt8) : List UInt8 := if t = [97, 109, 112] then [38] else if t = [108, 116] then [60] else if t = [103, 116] then [62] else if t = [113, 117, 111, 116] then [34] else if t = [97, 112, 111, 115] then [39] else []
def nameR (t : List UInt8) : List UInt8 :=
  match t with
  | 35 :: 120 :: h => numR 16 6 h
  | 35 :: d => numR 10 7 d
  | _ => word t
def refR : List UInt8 → List UInt8 × Nat
  | [] => ([], 0)
  | c :: t => if c = 38 then (match cut t with | none => ([], 0) | some nm => if nameR nm = [] then ([], 0) else (nameR nm, nm.length + 2)) else ([], 0)
def stepR (l : List UInt8) : List UInt8 × Nat × Nat :=
  if (refR l).2 ≠ 0 then ((refR l).1, (refR l).2, 0) else if l.head? = some 38 then ([], 0, 30) else if (nx l).2 = 0 then ([], 0, 10) else (l.take (nx l).2, (nx l).2, 0)
def decF : Nat → List UInt8 → List UInt8 × Nat × Nat
  | 0, _ => ([], 0, 0)
  | k + 1, l => if l = [] then ([], 0, 0) else if (stepR l).2.2 ≠ 0 then ([], 0, (stepR l).2.2) else
      ((stepR l).1 ++ (decF k (l.drop (stepR l).2.1)).1, (stepR l).2.1 + (decF k (l.drop (stepR l).2.1)).2.1, (decF k (l.drop (stepR l).2.1)).2.2)
def D (l : List UInt8) : List UInt8 × Nat × Nat := decF l.length l
def encC (attr : Bool) (c : UInt8) : List UInt8 :=
  if c = 38 then [38, 97, 109, 112, 59] else if c = 60 then [38, 108, 116, 59] else if c = 62 then [38, 103, 116, 59] else if c = 13 then [38, 35, 49, 51, 59]
  else if c = 34 ∧ attr = true then [38, 113, 117, 111, 116, 59] else if c = 9 ∧ attr = true then [38, 35, 57, 59] else if c = 10 ∧ attr = true then [38, 35, 49, 48, 59] else [c]
def enR (attr : Bool) (l : List UInt8) : List UInt8 := l.flatMap (encC attr)
theorem cut_length : ∀ (t nm : List UInt8), cut t = some nm → nm.length + 1 ≤ t.length := by
  intro t
  induction t with
  | nil => intro nm h; cases h
  | cons c t ih =>
    intro nm h
    simp only [cut] at h
    by_cases hc : c = 59
    · rw [if_pos hc] at h
      cases h
      simp
    · rw [if_neg hc] at h
      cases ht : cut t with
      | none => rw [ht] at h; cases h
      | some x =>
        rw [ht] at h
        cases h
        have := ih x ht
        simp
        omega
theorem refR_amp (t : List UInt8) : refR (38 :: t) = (match cut t with | none => ([], 0) | some nm => if nameR nm = [] then ([], 0) else (nameR nm, nm.length + 2)) := by
  simp [refR]
theorem refR_other (c : UInt8) (t : List UInt8) (h : c ≠ 38) : refR (c :: t) = ([], 0) := by
  simp [refR, h]
theorem refR_le (l : List UInt8) : (refR l).2 ≤ l.length := by
  cases l with
  | nil => simp [refR]
  | cons c t =>
    simp only [refR]
    by_cases h : c = 38
    · rw [if_pos h]
      cases hc : cut t with
      | none => simp
      | some nm =>
        simp only
        have := cut_length t nm hc
        split
        · simp
        · simp; omega
    · rw [if_neg h]
      simp
theorem stepR_le (l : List UInt8) : (stepR l).2.1 ≤ l.length := by
  unfold stepR
  have h1 := refR_le l
  split
  · exact h1
  · split
    · simp
    · split
      · simp
      · rename_i h
        exact (nx_good l h).2.2.2.2.2.1
theorem stepR_pos (l : List UInt8) (h : (stepR l).2.2 = 0) : 1 ≤ (stepR l).2.1 := by
  unfold stepR at h ⊢
  by_cases h1 : (refR l).2 ≠ 0
  · rw [if_pos h1]
    simp only
    omega
  · rw [if_neg h1] at h ⊢
    by_cases h2 : l.head? = some 38
    · rw [if_pos h2] at h
      simp at h
    · rw [if_neg h2] at h ⊢
      by_cases h3 : (nx l).2 = 0
      · rw [if_pos h3] at h
        simp at h
      · rw [if_neg h3]
        simp only
        omega
theorem decF_more : ∀ (n : Nat) (l : List UInt8), l.length ≤ n → ∀ k, l.length ≤ k → decF k l = decF n l := by
  intro n
  induction n with
  | zero =>
    intro l hl k hk
    have : l = [] := List.length_eq_zero_iff.mp (by omega)
    subst this
    cases k <;> simp [decF]
  | succ n ih =>
    intro l hl k hk
    cases k with
    | zero =>
      have : l = [] := List.length_eq_zero_iff.mp (by omega)
      subst this
      simp [decF]
    | succ k =>
      simp only [decF]
      by_cases h0 : l = []
      · rw [if_pos h0, if_pos h0]
      · rw [if_neg h0, if_neg h0]
        by_cases h1 : (stepR l).2.2 ≠ 0
        · rw [if_pos h1, if_pos h1]
        · have hp := stepR_pos l (by omega)
          have hle := stepR_le l
          rw [if_neg h1, if_neg h1, ih (l.drop (stepR l).2.1) (by rw [List.length_drop]; omega) k (by rw [List.length_drop]; omega)]
theorem D_nil : D [] = ([], 0, 0) := rfl
theorem D_bad (l : List UInt8) (h0 : l ≠ []) (h : (stepR l).2.2 ≠ 0) : D l = ([], 0, (stepR l).2.2) := by
  unfold D
  obtain ⟨n, hn⟩ : ∃ n, l.length = n + 1 := ⟨l.length - 1, by have := List.length_pos_iff.mpr h0; omega⟩
  rw [hn]
  simp only [decF]
  rw [if_neg h0, if_pos h]
theorem D_go (l : List UInt8) (h0 : l ≠ []) (h : (stepR l).2.2 = 0) :
    D l = ((stepR l).1 ++ (D (l.drop (stepR l).2.1)).1, (stepR l).2.1 + (D (l.drop (stepR l).2.1)).2.1, (D (l.drop (stepR l).2.1)).2.2) := by
  have hp := stepR_pos l h
  have hle := stepR_le l
  obtain ⟨n, hn⟩ : ∃ n, l.length = n + 1 := ⟨l.length - 1, by have := List.length_pos_iff.mpr h0; omega⟩
  have hm := decF_more (l.drop (stepR l).2.1).length (l.drop (stepR l).2.1) (Nat.le_refl _) n (by rw [List.length_drop]; omega)
  show decF l.length l = _
  rw [hn]
  simp only [decF]
  rw [if_neg h0, if_neg (by omega), hm]
  rfl
def Ok (l : List UInt8) : Prop := (R l).2 = l.length
theorem Ok.nil : Ok [] := rfl
theorem enR_append (attr : Bool) (a b : List UInt8) : enR attr (a ++ b) = enR attr a ++ enR attr b := by simp [enR]
theorem enR_cons (attr : Bool) (c : UInt8) (l : List UInt8) : enR attr (c :: l) = encC attr c ++ enR attr l := by simp [enR]
theorem cut_known (a b : List UInt8) (h : (59 : UInt8) ∉ a) : cut (a ++ 59 :: b) = some a := by
  induction a with
  | nil => simp [cut]
  | cons c a ih =>
    show cut (c :: (a ++ 59 :: b)) = _
    simp only [cut]
    rw [if_neg (fun e => h (by rw [e]; simp)), ih (fun hx => h (by simp [hx]))]
    rfl
theorem ref_known (nm : List UInt8) (x : List UInt8) (b : List UInt8) (h : (59 : UInt8) ∉ nm) (hn : nameR nm = x) (hx : x ≠ []) : refR (38 :: (nm ++ 59 :: b)) = (x, nm.length + 2) := by
  rw [refR_amp, cut_known nm b h]
  simp only
  rw [hn, if_neg hx]
end Go.Proofs.YtjciehecedepeaaDoor.E
