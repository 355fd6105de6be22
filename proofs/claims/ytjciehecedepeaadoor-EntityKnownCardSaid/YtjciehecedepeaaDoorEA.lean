/- A text of the claim, with what no other text of it needs taken out. -/
import Derived.Test.YtjciehecedepeaaDoorUR
namespace Go.Proofs.YtjciehecedepeaaDoor.E
open Go Go.Proofs.YtjciehecedepeaaDoor.U
set_option linter.unusedVariables false
set_option linter.unusedSimpArgs false
def dig (c : UInt8) : Nat := if 48 ≤ c.toNat ∧ c.toNat ≤ 57 then c.toNat - 48 else if 97 ≤ c.toNat ∧ c.toNat ≤ 102 then c.toNat - 87 else if 65 ≤ c.toNat ∧ c.toNat ≤ 70 then c.toNat - 55 else 99
def put (n : Nat) : List UInt8 := if isx n = true then enc n else []
def num (b : Nat) (n : Nat) : List UInt8 → Nat
  | [] => n
  | c :: l => num b (n * b + dig c) l
def numR (b most : Nat) (l : List UInt8) : List UInt8 := if l ≠ [] ∧ l.length ≤ most ∧ l.all (fun c => decide (dig c < b)) = true then put (num b 0 l) else []
def cut : List UInt8 → Option (List UInt8)
  | [] => none
  | c :: l => if c = 59 then some [] else (cut l).map (c :: ·)
def word (t : List UInt8) : List UInt8 := if t = [97, 109, 112] then [38] else if t = [108, 116] then [60] else if t = [103, 116] then [62] else if t = [113, 117, 111, 116] then [34] else if t = [97, 112, 111, 115] then [39] else []
def nameR (t : List UInt8) : List UInt8 :=
  match t with
  | 35 :: 120 :: h => numR 16 6 h
  | 35 :: d => numR 10 7 d
  | _ => word t
def refR : List UInt8 → List UInt8 × Nat
  | [] => ([], 0)
  | c :: t => if c = 38 then (match cut t with | none => ([], 0) | some nm => if nameR nm = [] then ([], 0) else (nameR nm, nm.length + 2)) else ([], 0)
def stepR (l : List UInt8) : List UInt8 × Nat × Nat :=
  if (refR l).2 ≠ 0 then ((refR l).1, (refR l).2, 0) else if l.head? = some 38 then ([], 0, 30) else if (nx l).2 = 0 then ([], 0, 10) else (l.take (nx l).2, (nx l).2, 0)
def decF : Nat → List UInt8 → List UInt8 × Nat × Nat
  | 0, _ => ([], 0, 0)
  | k + 1, l => if l = [] then ([], 0, 0) else if (stepR l).2.2 ≠ 0 then ([], 0, (stepR l).2.2) else
      ((stepR l).1 ++ (decF k (l.drop (stepR l).2.1)).1, (stepR l).2.1 + (decF k (l.drop (stepR l).2.1)).2.1, (decF k (l.drop (stepR l).2.1)).2.2)
def D (l : List UInt8) : List UInt8 × Nat × Nat := decF l.length l
def encC (attr : Bool) (c : UInt8) : List UInt8 :=
  if c = 38 then [38, 97, 109, 112, 59] else if c = 60 then [38, 108, 116, 59] else if c = 62 then [38, 103, 116, 59] else if c = 13 then [38, 35, 49, 51, 59]
  else if c = 34 ∧ attr = true then [38, 113, 117, 111, 116, 59] else if c = 9 ∧ attr = true then [38, 35, 57, 59] else if c = 10 ∧ attr = true then [38, 35, 49, 48, 59] else [c]
def enR (attr : Bool) (l : List UInt8) : List UInt8 := l.flatMap (encC attr)
theorem cut_append : ∀ (t b nm : List UInt8), cut t = some nm → cut (t ++ b) = some nm := by
  intro t b
  induction t with
  | nil => intro nm h; cases h
  | cons c t ih =>
    intro nm h
    show cut (c :: (t ++ b)) = _
    simp only [cut] at h ⊢
    by_cases hc : c = 59
    · rw [if_pos hc] at h ⊢
      exact h
    · rw [if_neg hc] at h ⊢
      cases ht : cut t with
      | none => rw [ht] at h; cases h
      | some x =>
        rw [ht] at h
        rw [ih x ht]
        exact h
theorem cut_length : ∀ (t nm : List UInt8), cut t = some nm → nm.length + 1 ≤ t.length := by
  intro t
  induction t with
  | nil => intro nm h; cases h
  | cons c t ih =>
    intro nm h
    simp only [cut] at h
    by_cases hc : c = 59
    · rw [if_pos hc] at h
      cases h
      simp
    · rw [if_neg hc] at h
      cases ht : cut t with
      | none => rw [ht] at h; cases h
      | some x =>
        rw [ht] at h
        cases h
        have := ih x ht
        simp
        omega
theorem refR_amp (t : List UInt8) : refR (38 :: t) = (match cut t with | none => ([], 0) | some nm => if nameR nm = [] then ([], 0) else (nameR nm, nm.length + 2)) := by
  simp [refR]
theorem refR_other (c : UInt8) (t : List UInt8) (h : c ≠ 38) : refR (c :: t) = ([], 0) := by
  simp [refR, h]
theorem refR_le (l : List UInt8) : (refR l).2 ≤ l.length := by
  cases l with
  | nil => simp [refR]
  | cons c t =>
    simp only [refR]
    by_cases h : c = 38
    · rw [if_pos h]
      cases hc : cut t with
      | none => simp
      | some nm =>
        simp only
        have := cut_length t nm hc
        split
        · simp
        · simp; omega
    · rw [if_neg h]
      simp
theorem refR_append (a b : List UInt8) (h : (refR a).2 ≠ 0) : refR (a ++ b) = refR a := by
  cases a with
  | nil => simp [refR] at h
  | cons c t =>
    show refR (c :: (t ++ b)) = _
    simp only [refR] at h ⊢
    by_cases hc : c = 38
    · rw [if_pos hc] at h ⊢
      rw [if_pos hc]
      cases ht : cut t with
      | none => rw [ht] at h; simp at h
      | some nm => rw [cut_append t b nm ht]
    · rw [if_neg hc] at h
      simp at h
theorem nx_append (a b : List UInt8) (h : (nx a).2 ≠ 0) : nx (a ++ b) = nx a := by
  obtain ⟨h0, _, hx, he, h5, h6, h7, _⟩ := nx_good a h
  have := nx_of_take (nx a).1 hx (a ++ b) (by rw [← h5, List.take_append_of_le_length h6, he])
  rw [this]
  exact Prod.ext rfl h5.symm
theorem stepR_le (l : List UInt8) : (stepR l).2.1 ≤ l.length := by
  unfold stepR
  have h1 := refR_le l
  split
  · exact h1
  · split
    · simp
    · split
      · simp
      · rename_i h
        exact (nx_good l h).2.2.2.2.2.1
theorem stepR_pos (l : List UInt8) (h : (stepR l).2.2 = 0) : 1 ≤ (stepR l).2.1 := by
  unfold stepR at h ⊢
  by_cases h1 : (refR l).2 ≠ 0
  · rw [if_pos h1]
    simp only
    omega
  · rw [if_neg h1] at h ⊢
    by_cases h2 : l.head? = some 38
    · rw [if_pos h2] at h
      simp at h
    · rw [if_neg h2] at h ⊢
      by_cases h3 : (nx l).2 = 0
      · rw [if_pos h3] at h
        simp at h
      · rw [if_neg h3]
        simp only
        omega
theorem stepR_append (a b : List UInt8) (h0 : a ≠ []) (h : (stepR a).2.2 = 0) : stepR (a ++ b) = stepR a := by
  unfold stepR at h ⊢
  by_cases h1 : (refR a).2 ≠ 0
  · rw [refR_append a b h1]
    simp only [if_pos h1]
  · rw [if_neg h1] at h
    have hh : (a ++ b).head? = a.head? := by
      cases a with
      | nil => exact absurd rfl h0
      | cons c t => rfl
    by_cases h2 : a.head? = some 38
    · rw [if_pos h2] at h
      simp at h
    · rw [if_neg h2] at h
      have hr : (refR (a ++ b)).2 = 0 := by
        cases a with
        | nil => exact absurd rfl h0
        | cons c t =>
          have : c ≠ 38 := fun e => h2 (by rw [e]; rfl)
          show (refR (c :: (t ++ b))).2 = 0
          rw [refR_other c _ this]
      by_cases h3 : (nx a).2 = 0
      · rw [if_pos h3] at h
        simp at h
      · obtain ⟨_, _, _, _, _, h6, _⟩ := nx_good a h3
        rw [if_neg (by rw [hr]; simp), hh, if_neg h2, nx_append a b h3, if_neg h3, if_neg h1, if_neg h2, if_neg h3, List.take_append_of_le_length h6]
theorem decF_more : ∀ (n : Nat) (l : List UInt8), l.length ≤ n → ∀ k, l.length ≤ k → decF k l = decF n l := by
  intro n
  induction n with
  | zero =>
    intro l hl k hk
    have : l = [] := List.length_eq_zero_iff.mp (by omega)
    subst this
    cases k <;> simp [decF]
  | succ n ih =>
    intro l hl k hk
    cases k with
    | zero =>
      have : l = [] := List.length_eq_zero_iff.mp (by omega)
      subst this
      simp [decF]
    | succ k =>
      simp only [decF]
      by_cases h0 : l = []
      · rw [if_pos h0, if_pos h0]
      · rw [if_neg h0, if_neg h0]
        by_cases h1 : (stepR l).2.2 ≠ 0
        · rw [if_pos h1, if_pos h1]
        · have hp := stepR_pos l (by omega)
          have hle := stepR_le l
          rw [if_neg h1, if_neg h1, ih (l.drop (stepR l).2.1) (by rw [List.length_drop]; omega) k (by rw [List.length_drop]; omega)]
theorem D_nil : D [] = ([], 0, 0) := rfl
theorem D_bad (l : List UInt8) (h0 : l ≠ []) (h : (stepR l).2.2 ≠ 0) : D l = ([], 0, (stepR l).2.2) := by
  unfold D
  obtain ⟨n, hn⟩ : ∃ n, l.length = n + 1 := ⟨l.length - 1, by have := List.length_pos_iff.mpr h0; omega⟩
  rw [hn]
  simp only [decF]
  rw [if_neg h0, if_pos h]
theorem D_go (l : List UInt8) (h0 : l ≠ []) (h : (stepR l).2.2 = 0) :
    D l = ((stepR l).1 ++ (D (l.drop (stepR l).2.1)).1, (stepR l).2.1 + (D (l.drop (stepR l).2.1)).2.1, (D (l.drop (stepR l).2.1)).2.2) := by
  have hp := stepR_pos l h
  have hle := stepR_le l
  obtain ⟨n, hn⟩ : ∃ n, l.length = n + 1 := ⟨l.length - 1, by have := List.length_pos_iff.mpr h0; omega⟩
  have hm := decF_more (l.drop (stepR l).2.1).length (l.drop (stepR l).2.1) (Nat.le_refl _) n (by rw [List.length_drop]; omega)
  show decF l.length l = _
  rw [hn]
  simp only [decF]
  rw [if_neg h0, if_neg (by omega), hm]
  rfl
theorem D_le : ∀ (n : Nat) (l : List UInt8), l.length ≤ n → (D l).2.1 ≤ l.length ∧ ((D l).2.2 = 0 → (D l).2.1 = l.length) ∧ ((D l).2.2 = 0 ∨ (D l).2.2 = 10 ∨ (D l).2.2 = 30) := by
  intro n
  induction n with
  | zero =>
    intro l hl
    have : l = [] := List.length_eq_zero_iff.mp (by omega)
    subst this
    simp [D_nil]
  | succ n ih =>
    intro l hl
    by_cases h0 : l = []
    · subst h0; simp [D_nil]
    · by_cases h : (stepR l).2.2 = 0
      · have hp := stepR_pos l h
        have hle := stepR_le l
        rw [D_go l h0 h]
        have := ih (l.drop (stepR l).2.1) (by rw [List.length_drop]; omega)
        rw [List.length_drop] at this
        simp only
        refine ⟨by omega, fun e => ?_, this.2.2⟩
        have := this.2.1 e
        omega
      · rw [D_bad l h0 h]
        refine ⟨by simp, fun e => absurd e h, ?_⟩
        simp only
        unfold stepR at h ⊢
        split at h
        · exact absurd rfl h
        · rename_i h1
          rw [if_neg h1]
          split at h
          · rename_i h2; rw [if_pos h2]; simp
          · rename_i h2
            rw [if_neg h2]
            split at h
            · rename_i h3; rw [if_pos h3]; simp
            · exact absurd rfl h
theorem D_append : ∀ (n : Nat) (a b : List UInt8), a.length ≤ n → (D a).2.2 = 0 → D (a ++ b) = ((D a).1 ++ (D b).1, a.length + (D b).2.1, (D b).2.2) := by
  intro n
  induction n with
  | zero =>
    intro a b ha _
    have : a = [] := List.length_eq_zero_iff.mp (by omega)
    subst this
    simp [D_nil]
  | succ n ih =>
    intro a b ha h
    by_cases h0 : a = []
    · subst h0
      simp [D_nil]
    · by_cases hs : (stepR a).2.2 = 0
      · have hp := stepR_pos a hs
        have hle := stepR_le a
        have hA := stepR_append a b h0 hs
        rw [D_go a h0 hs] at h ⊢
        simp only at h
        have hab : a ++ b ≠ [] := by simp [h0]
        rw [D_go (a ++ b) hab (by rw [hA]; exact hs), hA, List.drop_append_of_le_length hle, ih (a.drop (stepR a).2.1) b (by rw [List.length_drop]; omega) h]
        simp only [List.append_assoc, Prod.mk.injEq, and_true, true_and, List.length_drop]
        omega
      · rw [D_bad a h0 hs] at h
        exact absurd h hs
def Ok (l : List UInt8) : Prop := (R l).2 = l.length
theorem R_append : ∀ (n : Nat) (a b : List UInt8), a.length ≤ n → Ok a → R (a ++ b) = ((R a).1 + (R b).1, (R a).2 + (R b).2) := by
  intro n
  induction n with
  | zero =>
    intro a b ha _
    have : a = [] := List.length_eq_zero_iff.mp (by omega)
    subst this
    simp [R_nil]
  | succ n ih =>
    intro a b ha hr
    unfold Ok at hr
    by_cases h : (nx a).2 = 0
    · rw [R_stop a h] at hr
      have : a = [] := List.length_eq_zero_iff.mp hr.symm
      subst this
      simp [R_nil]
    · obtain ⟨h0, _, hx, he, h5, h6, h7, _⟩ := nx_good a h
      have hn := nx_append a b h
      have hd : (a ++ b).drop (nx a).2 = a.drop (nx a).2 ++ b := List.drop_append_of_le_length h6
      rw [R_go a h] at hr ⊢
      have := ih (a.drop (nx a).2) b (by rw [List.length_drop]; omega) (by unfold Ok; rw [List.length_drop]; simp only at hr; omega)
      rw [R_go (a ++ b) (by rw [hn]; exact h), hn, hd, this]
      refine Prod.ext ?_ ?_
      · simp only; omega
      · simp only; omega
theorem Ok.append {a b : List UInt8} (ha : Ok a) (hb : Ok b) : Ok (a ++ b) := by
  have := R_append a.length a b (Nat.le_refl _) ha
  unfold Ok at *
  rw [this, List.length_append]
  simp only
  omega
theorem Ok.nil : Ok [] := rfl
theorem ok_enc (c : Nat) (h : isx c = true) : Ok (enc c) := by
  have hn := nx_enc c h []
  rw [List.append_nil] at hn
  have hp := enc_pos c
  unfold Ok
  rw [R_go (enc c) (by rw [hn]; simp only; omega), hn]
  simp only [List.drop_length, R_nil]
  omega
theorem ok_put (n : Nat) : Ok (put n) := by
  unfold put
  split
  · rename_i h; exact ok_enc n h
  · exact Ok.nil
theorem ok_numR (b most : Nat) (l : List UInt8) : Ok (numR b most l) := by
  unfold numR
  split
  · exact ok_put _
  · exact Ok.nil
theorem ok_word (t : List UInt8) : Ok (word t) := by
  unfold word
  repeat' split
  all_goals first | exact Ok.nil | exact ok_enc 38 (by decide) | exact ok_enc 60 (by decide) | exact ok_enc 62 (by decide) | exact ok_enc 34 (by decide) | exact ok_enc 39 (by decide)
theorem ok_nameR (t : List UInt8) : Ok (nameR t) := by
  unfold nameR
  split
  · exact ok_numR _ _ _
  · exact ok_numR _ _ _
  · exact ok_word _
theorem ok_refR (l : List UInt8) : Ok (refR l).1 := by
  cases l with
  | nil => exact Ok.nil
  | cons c t =>
    simp only [refR]
    by_cases hc : c = 38
    · rw [if_pos hc]
      cases ht : cut t with
      | none => exact Ok.nil
      | some nm =>
        simp only
        split
        · exact Ok.nil
        · exact ok_nameR nm
    · rw [if_neg hc]
      exact Ok.nil
theorem ok_stepR (l : List UInt8) : Ok (stepR l).1 := by
  unfold stepR
  split
  · exact ok_refR l
  · split
    · exact Ok.nil
    · split
      · exact Ok.nil
      · rename_i h
        obtain ⟨h0, _, hx, he, _⟩ := nx_good l h
        show Ok (l.take (nx l).2)
        rw [← he]
        exact ok_enc _ hx
theorem ok_D : ∀ (n : Nat) (l : List UInt8), l.length ≤ n → Ok (D l).1 := by
  intro n
  induction n with
  | zero =>
    intro l hl
    have : l = [] := List.length_eq_zero_iff.mp (by omega)
    subst this
    exact Ok.nil
  | succ n ih =>
    intro l hl
    by_cases h0 : l = []
    · subst h0; exact Ok.nil
    · by_cases h : (stepR l).2.2 = 0
      · have hp := stepR_pos l h
        rw [D_go l h0 h]
        exact (ok_stepR l).append (ih _ (by rw [List.length_drop]; omega))
      · rw [D_bad l h0 h]
        exact Ok.nil
theorem enR_append (attr : Bool) (a b : List UInt8) : enR attr (a ++ b) = enR attr a ++ enR attr b := by simp [enR]
theorem enR_cons (attr : Bool) (c : UInt8) (l : List UInt8) : enR attr (c :: l) = encC attr c ++ enR attr l := by simp [enR]
theorem encC_high (attr : Bool) (c : UInt8) (h : 128 ≤ c.toNat) : encC attr c = [c] := by
  have n : ∀ v : UInt8, v.toNat < 128 → c ≠ v := by
    intro v hv e
    rw [e] at h
    omega
  unfold encC
  rw [if_neg (n 38 (by decide)), if_neg (n 60 (by decide)), if_neg (n 62 (by decide)), if_neg (n 13 (by decide)), if_neg (fun e => n 34 (by decide) e.1), if_neg (fun e => n 9 (by decide) e.1), if_neg (fun e => n 10 (by decide) e.1)]
theorem enR_high (attr : Bool) : ∀ l : List UInt8, (∀ c ∈ l, 128 ≤ c.toNat) → enR attr l = l := by
  intro l
  induction l with
  | nil => intro _; rfl
  | cons c l ih =>
    intro h
    rw [enR_cons, encC_high attr c (h c (by simp)), ih (fun x hx => h x (by simp [hx]))]
    rfl
theorem ofNat_toNat_lt (n : Nat) (h : n < 256) : (UInt8.ofNat n).toNat = n := by simp; omega
theorem enc_high (c : Nat) (hx : isx c = true) (h : 128 ≤ c) : ∀ x ∈ enc c, 128 ≤ x.toNat := by
  rw [isx_iff] at hx
  unfold enc
  rw [if_neg (by omega)]
  have e (n : Nat) (h1 : 128 ≤ n) (h2 : n < 256) : 128 ≤ (UInt8.ofNat n).toNat := by rw [ofNat_toNat_lt n h2]; exact h1
  split
  · intro x hx
    simp only [List.mem_cons, List.not_mem_nil, or_false] at hx
    rcases hx with rfl | rfl
    · exact e _ (by omega) (by omega)
    · exact e _ (by omega) (by omega)
  · split
    · intro x hx
      simp only [List.mem_cons, List.not_mem_nil, or_false] at hx
      rcases hx with rfl | rfl | rfl
      · exact e _ (by omega) (by omega)
      · exact e _ (by omega) (by omega)
      · exact e _ (by omega) (by omega)
    · intro x hx
      simp only [List.mem_cons, List.not_mem_nil, or_false] at hx
      rcases hx with rfl | rfl | rfl | rfl
      · exact e _ (by omega) (by omega)
      · exact e _ (by omega) (by omega)
      · exact e _ (by omega) (by omega)
      · exact e _ (by omega) (by omega)
theorem cut_known (a b : List UInt8) (h : (59 : UInt8) ∉ a) : cut (a ++ 59 :: b) = some a := by
  induction a with
  | nil => simp [cut]
  | cons c a ih =>
    show cut (c :: (a ++ 59 :: b)) = _
    simp only [cut]
    rw [if_neg (fun e => h (by rw [e]; simp)), ih (fun hx => h (by simp [hx]))]
    rfl
theorem ref_known (nm : List UInt8) (x : List UInt8) (b : List UInt8) (h : (59 : UInt8) ∉ nm) (hn : nameR nm = x) (hx : x ≠ []) : refR (38 :: (nm ++ 59 :: b)) = (x, nm.length + 2) := by
  rw [refR_amp, cut_known nm b h]
  simp only
  rw [hn, if_neg hx]
theorem step_ref (l : List UInt8) (x : List UInt8) (n : Nat) (h : refR l = (x, n + 2)) : stepR l = (x, n + 2, 0) := by
  unfold stepR
  rw [h]
  simp
theorem step_enc (attr : Bool) (c : Nat) (hx : isx c = true) (t : List UInt8) : stepR (enR attr (enc c) ++ t) = (enc c, (enR attr (enc c)).length, 0) := by
  by_cases h : 128 ≤ c
  · rw [enR_high attr _ (enc_high c hx h)]
    have hp := enc_pos c
    have hn := nx_enc c hx t
    obtain ⟨a, u, hau⟩ : ∃ a u, enc c = a :: u := by
      cases he : enc c with
      | nil => rw [he] at hp; simp at hp
      | cons a u => exact ⟨a, u, rfl⟩
    have ha : a ≠ 38 := by
      intro e
      have := enc_high c hx h a (by rw [hau]; simp)
      rw [e] at this
      simp at this
    have hr : (refR (enc c ++ t)).2 = 0 := by
      rw [hau]
      show (refR (a :: (u ++ t))).2 = 0
      rw [refR_other a _ ha]
    have hh : (enc c ++ t).head? ≠ some 38 := by
      rw [hau]
      simpa using ha
    unfold stepR
    rw [if_neg (by rw [hr]; simp), if_neg hh, hn, if_neg (by simp only; omega)]
    simp
  · have he : enc c = [UInt8.ofNat c] := by unfold enc; rw [if_pos (by omega)]
    have key : ∀ (nm x : List UInt8), encC attr (UInt8.ofNat c) = 38 :: (nm ++ [59]) → (59 : UInt8) ∉ nm → nameR nm = x → x ≠ [] → x = enc c → stepR (enR attr (enc c) ++ t) = (enc c, (enR attr (enc c)).length, 0) := by
      intro nm x h1 h2 h3 h4 h5
      have h6 : enR attr (enc c) = 38 :: (nm ++ [59]) := by rw [he, enR_cons, h1]; simp [enR]
      rw [h6]
      have h7 : (38 :: (nm ++ [59])) ++ t = 38 :: (nm ++ 59 :: t) := by simp
      rw [h7, step_ref _ x nm.length (ref_known nm x t h2 h3 h4), h5]
      simp
    rw [isx_iff] at hx
    by_cases c1 : c = 38
    · subst c1; exact key [97, 109, 112] [38] (by cases attr <;> decide) (by decide) (by decide) (by decide) (by decide)
    by_cases c2 : c = 60
    · subst c2; exact key [108, 116] [60] (by cases attr <;> decide) (by decide) (by decide) (by decide) (by decide)
    by_cases c3 : c = 62
    · subst c3; exact key [103, 116] [62] (by cases attr <;> decide) (by decide) (by decide) (by decide) (by decide)
    by_cases c4 : c = 13
    · subst c4; exact key [35, 49, 51] [13] (by cases attr <;> decide) (by decide) (by decide) (by decide) (by decide)
    by_cases c5 : c = 34 ∧ attr = true
    · obtain ⟨rfl, rfl⟩ := c5; exact key [113, 117, 111, 116] [34] (by decide) (by decide) (by decide) (by decide) (by decide)
    by_cases c6 : c = 9 ∧ attr = true
    · obtain ⟨rfl, rfl⟩ := c6; exact key [35, 57] [9] (by decide) (by decide) (by decide) (by decide) (by decide)
    by_cases c7 : c = 10 ∧ attr = true
    · obtain ⟨rfl, rfl⟩ := c7; exact key [35, 49, 48] [10] (by decide) (by decide) (by decide) (by decide) (by decide)
    have ne : ∀ v : UInt8, c ≠ v.toNat → UInt8.ofNat c ≠ v := by
      intro v hck e
      have := congrArg UInt8.toNat e
      rw [ofNat_toNat_lt c (by omega)] at this
      exact hck this
    have hE : encC attr (UInt8.ofNat c) = [UInt8.ofNat c] := by
      unfold encC
      rw [if_neg (ne 38 c1), if_neg (ne 60 c2), if_neg (ne 62 c3), if_neg (ne 13 c4), if_neg (fun e => by
        by_cases h34 : c = 34
        · exact c5 ⟨h34, e.2⟩
        · exact ne 34 h34 e.1), if_neg (fun e => by
        by_cases h34 : c = 9
        · exact c6 ⟨h34, e.2⟩
        · exact ne 9 h34 e.1), if_neg (fun e => by
        by_cases h34 : c = 10
        · exact c7 ⟨h34, e.2⟩
        · exact ne 10 h34 e.1)]
    have hR : enR attr (enc c) = enc c := by rw [he, enR_cons, hE]; simp [enR]
    have hn := nx_enc c (by rw [isx_iff]; exact hx) t
    rw [hR]
    rw [he] at hn ⊢
    have hr : (refR ([UInt8.ofNat c] ++ t)).2 = 0 := by
      show (refR (UInt8.ofNat c :: t)).2 = 0
      rw [refR_other _ _ (ne 38 c1)]
    have hh : ([UInt8.ofNat c] ++ t).head? ≠ some 38 := by
      intro e
      exact ne 38 c1 (by simpa using e)
    unfold stepR
    rw [if_neg (by rw [hr]; simp), if_neg hh, hn, if_neg (by simp)]
    simp
theorem D_enR (attr : Bool) : ∀ (n : Nat) (l : List UInt8), l.length ≤ n → Ok l → (D (enR attr l)).1 = l ∧ (D (enR attr l)).2.2 = 0 := by
  intro n
  induction n with
  | zero =>
    intro l hl _
    have : l = [] := List.length_eq_zero_iff.mp (by omega)
    subst this
    exact ⟨rfl, rfl⟩
  | succ n ih =>
    intro l hl hr
    unfold Ok at hr
    by_cases h : (nx l).2 = 0
    · rw [R_stop l h] at hr
      have : l = [] := List.length_eq_zero_iff.mp hr.symm
      subst this
      exact ⟨rfl, rfl⟩
    · obtain ⟨h0, _, hx, he, h5, h6, h7, _⟩ := nx_good l h
      rw [R_go l h] at hr
      have hok : Ok (l.drop (nx l).2) := by unfold Ok; rw [List.length_drop]; simp only at hr; omega
      have hsplit : l = enc (nx l).1 ++ l.drop (nx l).2 := by
        rw [he]
        exact (List.take_append_drop _ _).symm
      obtain ⟨i1, i2⟩ := ih (l.drop (nx l).2) (by rw [List.length_drop]; omega) hok
      have hen : enR attr l = enR attr (enc (nx l).1) ++ enR attr (l.drop (nx l).2) := by
        conv => lhs; rw [hsplit]
        exact enR_append attr _ _
      have hst := step_enc attr (nx l).1 hx (enR attr (l.drop (nx l).2))
      rw [← hen] at hst
      have hp := stepR_pos (enR attr l) (by rw [hst])
      have hne : enR attr l ≠ [] := by
        intro e
        rw [e] at hp
        simp [stepR, refR, nx_nil] at hp
      rw [D_go (enR attr l) hne (by rw [hst]), hst]
      simp only
      have hd : (enR attr l).drop (enR attr (enc (nx l).1)).length = enR attr (l.drop (nx l).2) := by
        rw [hen, List.drop_left]
      rw [hd, i1, i2]
      exact ⟨hsplit.symm, rfl⟩
def fine (attr : Bool) (c : UInt8) : Bool := !(c == 60 || c == 62 || c == 13 || (attr && (c == 34 || c == 9 || c == 10)))
theorem fine_encC (attr : Bool) (c : UInt8) : ∀ x ∈ encC attr c, fine attr x = true := by
  unfold encC
  split
  · cases attr <;> decide
  split
  · cases attr <;> decide
  split
  · cases attr <;> decide
  split
  · cases attr <;> decide
  split
  · cases attr <;> decide
  split
  · cases attr <;> decide
  split
  · cases attr <;> decide
  rename_i h1 h2 h3 h4 h5 h6 h7
  intro x hx
  obtain rfl : x = c := by simpa using hx
  unfold fine
  cases attr with
  | false => simp [h2, h3, h4]
  | true =>
    simp at h5 h6 h7
    simp [h2, h3, h4, h5, h6, h7]
theorem fine_enR (attr : Bool) (l : List UInt8) : ∀ x ∈ enR attr l, fine attr x = true := by
  intro x hx
  obtain ⟨c, _, hc⟩ := List.mem_flatMap.mp hx
  exact fine_encC attr c x hc
end Go.Proofs.YtjciehecedepeaaDoor.E
