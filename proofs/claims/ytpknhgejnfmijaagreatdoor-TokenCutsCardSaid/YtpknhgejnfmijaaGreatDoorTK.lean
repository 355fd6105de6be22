/- A text of the claim, with what no other text of it needs taken out. -/
import Derived.Test.YtpknhgejnfmijaaGreatDoorTA
namespace Go.Proofs.YtpknhgejnfmijaaGreatDoor.T
open Go
set_option linter.unusedVariables false
set_option linter.unusedSimpArgs false
theorem cutAt_suf (q : UInt8) (l x r : List UInt8) (h : cutAt q l = some (x, r)) : r <:+ l := by
  rw [(cutAt_len q l x r h).2]
  exact ⟨x ++ [q], by simp⟩
theorem skipB_suf (l : List UInt8) : skipB l <:+ l := List.dropWhile_suffix _
theorem drop_suf (n : Nat) (l : List UInt8) : l.drop n <:+ l := List.drop_suffix n l
theorem attrL_suf (l : List UInt8) (a : Raw) (r : List UInt8) (h : attrL l = some (a, r)) : r <:+ l := by
  unfold attrL at h
  have e0 := (skipB_suf (l.drop (M.beginL l))).trans (drop_suf _ l)
  generalize skipB (l.drop (M.beginL l)) = l2 at h e0
  split at h
  · cases h
  cases l2 with
  | nil => cases h
  | cons c r1 =>
    by_cases hc : c = 61
    · subst hc
      simp only at h
      have e1 := (skipB_suf r1).trans ((List.suffix_cons 61 r1).trans e0)
      generalize skipB r1 = l4 at h e1
      cases l4 with
      | nil => cases h
      | cons q v =>
        simp only at h
        split at h
        · cases hk : cutAt q v with
          | none => rw [hk] at h; cases h
          | some z =>
            rw [hk] at h
            simp only at h
            split at h
            · cases h
            · simp only [Option.some.injEq, Prod.mk.injEq] at h
              obtain ⟨_, rfl⟩ := h
              exact (cutAt_suf _ _ _ _ hk).trans ((List.suffix_cons q v).trans e1)
        · cases h
    · have : ∀ x, c :: r1 ≠ 61 :: x := fun x e => hc (List.cons.inj e).1
      split at h
      · exact absurd (by assumption) (this _)
      · cases h
theorem tagLoop_suf : ∀ (k : Nat) (l : List UInt8) (acc : List Raw) (kd : Nat) (rs : List Raw) (rest : List UInt8), tagLoop k l acc = some (kd, rs, rest) → rest <:+ l ∧ (kd = 1 ∨ kd = 3) := by
  intro k
  induction k with
  | zero => intro l acc kd rs rest h; cases h
  | succ k ih =>
    intro l acc kd rs rest h
    unfold tagLoop at h
    have e0 := skipB_suf l
    generalize skipB l = l2 at h e0
    split at h
    · cases ha : attrL l2 with
      | none => rw [ha] at h; cases h
      | some x =>
        obtain ⟨a, r⟩ := x
        rw [ha] at h
        obtain ⟨h1, h2⟩ := ih _ _ _ _ _ h
        exact ⟨h1.trans ((attrL_suf _ _ _ ha).trans e0), h2⟩
    · split at h
      · simp only [Option.some.injEq, Prod.mk.injEq] at h
        obtain ⟨rfl, rfl, rfl⟩ := h
        exact ⟨(drop_suf _ _).trans e0, .inr rfl⟩
      · cases l2 with
        | nil => cases h
        | cons c r =>
          by_cases hc : c = 62
          · subst hc
            simp only [Option.some.injEq, Prod.mk.injEq] at h
            obtain ⟨rfl, rfl, rfl⟩ := h
            exact ⟨(List.suffix_cons _ _).trans e0, .inl rfl⟩
          · have : ∀ x, c :: r ≠ 62 :: x := fun x e => hc (List.cons.inj e).1
            split at h
            · exact absurd (by assumption) (this _)
            · cases h
theorem take_ne (l : List UInt8) (h : ¬ M.beginL l = 0) : l.take (M.beginL l) ≠ [] := by
  intro e
  have h1 := (M.begin_max l).2.1
  have h2 := congrArg List.length e
  rw [List.length_take, List.length_nil] at h2
  omega
theorem drop2_suf (l : List UInt8) : l.drop 2 <:+ l.drop 1 := by
  rw [show l.drop 2 = (l.drop 1).drop 1 by rw [List.drop_drop]]
  exact drop_suf _ _
theorem tagL_suf (l : List UInt8) (kd : Nat) (n : List UInt8) (rs : List Raw) (rest : List UInt8) (h : tagL l = some (kd, n, rs, rest)) :
    rest <:+ l.drop 1 ∧ n ≠ [] ∧ (kd = 1 ∨ kd = 3 ∨ (kd = 2 ∧ rs = [])) := by
  unfold tagL at h
  split at h
  · rename_i hp
    split at h
    · cases h
    · rename_i hb
      have e0 := (skipB_suf ((l.drop 2).drop (M.beginL (l.drop 2)))).trans ((drop_suf _ _).trans (drop2_suf l))
      have hn := take_ne (l.drop 2) hb
      generalize skipB ((l.drop 2).drop (M.beginL (l.drop 2))) = l2 at h e0
      cases l2 with
      | nil => cases h
      | cons c r =>
        by_cases hc : c = 62
        · subst hc
          simp only [Option.some.injEq, Prod.mk.injEq] at h
          obtain ⟨rfl, rfl, rfl, rfl⟩ := h
          exact ⟨(List.suffix_cons _ _).trans e0, hn, .inr (.inr ⟨rfl, rfl⟩)⟩
        · have : ∀ x, c :: r ≠ 62 :: x := fun x e => hc (List.cons.inj e).1
          split at h
          · exact absurd (by assumption) (this _)
          · cases h
  · split at h
    · cases h
    · rename_i hb
      have hn := take_ne (l.drop 1) hb
      cases ht : tagLoop l.length ((l.drop 1).drop (M.beginL (l.drop 1))) [] with
      | none => rw [ht] at h; cases h
      | some x =>
        obtain ⟨k2, rs2, r2⟩ := x
        rw [ht] at h
        simp only [Option.map_some, Option.some.injEq, Prod.mk.injEq] at h
        obtain ⟨rfl, rfl, rfl, rfl⟩ := h
        obtain ⟨h1, h2⟩ := tagLoop_suf _ _ _ _ _ _ ht
        exact ⟨h1.trans (drop_suf _ _), hn, by rcases h2 with h2 | h2 <;> simp [h2]⟩
theorem behind_suf (p : List UInt8) : ∀ (l r : List UInt8), behind p l = some r → r <:+ l := by
  intro l
  induction l with
  | nil => intro r h; cases h
  | cons c l ih =>
    intro r h
    simp only [behind] at h
    split at h
    · rw [← Option.some.inj h]; exact drop_suf _ _
    · exact (ih r h).trans (List.suffix_cons _ _)
theorem remarkL_suf (l r : List UInt8) (h : remarkL l = some r) : r <:+ l := by
  unfold remarkL at h
  split at h
  · exact (behind_suf _ _ _ h).trans (drop_suf _ _)
  · split at h
    · exact (behind_suf _ _ _ h).trans (drop_suf _ _)
    · cases h
theorem readL_lens (al : Nat) : ∀ (rs : List Raw) (acc : List (List UInt8 × List UInt8)), (readL al rs acc).2.2 = 0 → (readL al rs acc).1.length = acc.length + rs.length := by
  intro rs
  induction rs with
  | nil => intro acc _; rfl
  | cons a rs ih =>
    intro acc h
    unfold readL at h ⊢
    by_cases he : (E.D a.value).2.2 ≠ 0
    · rw [if_pos he] at h
      exact absurd h he
    · rw [if_neg he] at h ⊢
      rw [ih _ h]
      simp
      omega
structure OkTok (s : List UInt8) (t : Tok) : Prop where
  lt : t.at_ < s.length
  lo : 1 ≤ t.kind
  hi : t.kind ≤ 4
  tag : s[t.at_]? = some 60 ↔ t.kind ≠ 4
  nm : t.name = [] ↔ t.kind = 4
  most : t.attrs.length ≤ 32
  none2 : t.attrs ≠ [] → t.kind ≠ 2 ∧ t.kind ≠ 4
def Rising (last : Int) : List Tok → Prop
  | [] => True
  | t :: l => last < t.at_ ∧ Rising t.at_ l
theorem Rising.snoc {t : Tok} : ∀ {l : List Tok} {last : Int}, Rising last l → last < t.at_ → (∀ x ∈ l, x.at_ < t.at_) → Rising last (l ++ [t]) := by
  intro l
  induction l with
  | nil => intro last _ h _; exact ⟨h, trivial⟩
  | cons x l ih =>
    intro last h h1 h2
    exact ⟨h.1, ih h.2 (by have := h2 x (by simp); omega) (fun y hy => h2 y (by simp [hy]))⟩
theorem Rising.drop {l : List Tok} {last : Int} {i : Nat} {t : Tok} (h : Rising last (l.drop i)) (hi : l[i]? = some t) : last < t.at_ ∧ Rising t.at_ (l.drop (i + 1)) := by
  have : l.drop i = t :: l.drop (i + 1) := (List.drop_eq_getElem_cons (List.getElem?_eq_some_iff.1 hi).1).trans (by rw [(List.getElem?_eq_some_iff.1 hi).2])
  rw [this] at h
  exact h
theorem attrL_left (l : List UInt8) (a : Raw) (r : List UInt8) (h : attrL l = some (a, r)) : a.left ≤ l.length ∧ a.value.length ≤ a.left ∧ r.length ≤ l.length := by
  have hr := (attrL_suf l a r h).length_le
  unfold attrL at h
  have e0 := skipB_le (l.drop (M.beginL l))
  simp only [List.length_drop] at e0
  generalize skipB (l.drop (M.beginL l)) = l2 at h e0
  split at h
  · cases h
  cases l2 with
  | nil => cases h
  | cons c r1 =>
    by_cases hc : c = 61
    · subst hc
      simp only at h
      have e1 := skipB_le r1
      generalize skipB r1 = l4 at h e1
      cases l4 with
      | nil => cases h
      | cons q v =>
        simp only at h
        split at h
        · cases hk : cutAt q v with
          | none => rw [hk] at h; cases h
          | some z =>
            rw [hk] at h
            simp only at h
            split at h
            · cases h
            · simp only [Option.some.injEq, Prod.mk.injEq] at h
              obtain ⟨rfl, rfl⟩ := h
              have e3 := (cutAt_len _ _ _ _ hk).1
              simp at e0 e1 ⊢
              omega
        · cases h
    · have : ∀ x, c :: r1 ≠ 61 :: x := fun x e => hc (List.cons.inj e).1
      split at h
      · exact absurd (by assumption) (this _)
      · cases h
theorem tagLoop_left (N : Nat) : ∀ (k : Nat) (l : List UInt8) (acc : List Raw) (kd : Nat) (rs : List Raw) (rest : List UInt8), tagLoop k l acc = some (kd, rs, rest) → l.length ≤ N → (∀ a ∈ acc, a.left ≤ N ∧ a.value.length ≤ a.left) → ∀ a ∈ rs, a.left ≤ N ∧ a.value.length ≤ a.left := by
  intro k
  induction k with
  | zero => intro l acc kd rs rest h; cases h
  | succ k ih =>
    intro l acc kd rs rest h hl hacc
    unfold tagLoop at h
    have e0 := skipB_le l
    generalize skipB l = l2 at h e0
    split at h
    · cases ha : attrL l2 with
      | none => rw [ha] at h; cases h
      | some x =>
        obtain ⟨a, r⟩ := x
        rw [ha] at h
        obtain ⟨a1, a2, a3⟩ := attrL_left _ _ _ ha
        refine ih _ _ _ _ _ h (by omega) (fun y hy => ?_)
        rcases List.mem_append.mp hy with hy | hy
        · exact hacc y hy
        · simp only [List.mem_singleton] at hy
          subst hy
          omega
    · split at h
      · simp only [Option.some.injEq, Prod.mk.injEq] at h
        obtain ⟨_, rfl, _⟩ := h
        exact hacc
      · cases l2 with
        | nil => cases h
        | cons c r =>
          by_cases hc : c = 62
          · subst hc
            simp only [Option.some.injEq, Prod.mk.injEq] at h
            obtain ⟨_, rfl, _⟩ := h
            exact hacc
          · have : ∀ x, c :: r ≠ 62 :: x := fun x e => hc (List.cons.inj e).1
            split at h
            · exact absurd (by assumption) (this _)
            · cases h
theorem tagL_left (l : List UInt8) (kd : Nat) (n : List UInt8) (rs : List Raw) (rest : List UInt8) (h : tagL l = some (kd, n, rs, rest)) : ∀ a ∈ rs, a.left ≤ l.length ∧ a.value.length ≤ a.left := by
  unfold tagL at h
  split at h
  · split at h
    · cases h
    · generalize skipB ((l.drop 2).drop (M.beginL (l.drop 2))) = l2 at h
      cases l2 with
      | nil => cases h
      | cons c r =>
        by_cases hc : c = 62
        · subst hc
          simp only [Option.some.injEq, Prod.mk.injEq] at h
          obtain ⟨_, _, rfl, _⟩ := h
          intro a ha
          cases ha
        · have : ∀ x, c :: r ≠ 62 :: x := fun x e => hc (List.cons.inj e).1
          split at h
          · exact absurd (by assumption) (this _)
          · cases h
  · split at h
    · cases h
    · cases ht : tagLoop l.length ((l.drop 1).drop (M.beginL (l.drop 1))) [] with
      | none => rw [ht] at h; cases h
      | some x =>
        obtain ⟨k2, rs2, r2⟩ := x
        rw [ht] at h
        simp only [Option.map_some, Option.some.injEq, Prod.mk.injEq] at h
        obtain ⟨_, _, rfl, _⟩ := h
        exact tagLoop_left l.length _ _ _ _ _ _ ht (by simp only [List.length_drop]; omega) (fun a ha => by cases ha)
end Go.Proofs.YtpknhgejnfmijaaGreatDoor.T
