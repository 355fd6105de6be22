/- A text of the claim, with what no other text of it needs taken out. -/
import Derived.Test.YtpknhgejnfmijaaGreatDoorTK
namespace Go.Proofs.YtpknhgejnfmijaaGreatDoor.T
open Go
set_option linter.unusedVariables false
set_option linter.unusedSimpArgs false
theorem skip_app (x b : List UInt8) (c : UInt8) (r : List UInt8) : skipB x = c :: r → skipB (x ++ b) = c :: (r ++ b) := by
  induction x with
  | nil => intro h; cases h
  | cons d x ih =>
    intro h
    unfold skipB at h ⊢
    by_cases hd : blank d = true
    · rw [List.dropWhile_cons_of_pos hd] at h
      rw [List.cons_append, List.dropWhile_cons_of_pos hd]
      exact ih h
    · rw [List.dropWhile_cons_of_neg hd] at h
      rw [List.cons_append, List.dropWhile_cons_of_neg hd]
      cases h
      rfl
def noName (c : UInt8) : Prop := M.isM c = false ∧ c ≠ 58
theorem noName_blank (c : UInt8) (h : blank c = true) : noName c := by
  unfold blank at h
  simp only [Bool.or_eq_true, beq_iff_eq] at h
  rcases h with ((rfl | rfl) | rfl) | rfl <;> exact ⟨by decide, by decide⟩
theorem skip_first (x : List UInt8) (c : UInt8) (r : List UInt8) (h : skipB x = c :: r) (hc : noName c) : ∃ d z, x = d :: z ∧ noName d := by
  cases x with
  | nil => cases h
  | cons d z =>
    refine ⟨d, z, rfl, ?_⟩
    unfold skipB at h
    by_cases hd : blank d = true
    · exact noName_blank d hd
    · rw [List.dropWhile_cons_of_neg hd] at h
      cases h
      exact hc
theorem begin_app (l b : List UInt8) (d : UInt8) (z : List UInt8) (h : l.drop (M.beginL l) = d :: z) (hd : noName d) (h0 : ¬ M.beginL l = 0) : M.beginL (l ++ b) = M.beginL l := by
  obtain ⟨_, h1, h2, _⟩ := M.begin_max l
  have e : l ++ b = l.take (M.beginL l) ++ (d :: (z ++ b)) := by
    conv => lhs; rw [← List.take_append_drop (M.beginL l) l, h]
    simp
  have h3 := M.begin_name (l.take (M.beginL l)) (d :: (z ++ b)) (h2 (by omega)) (fun c r hc => by cases hc; exact hd)
  rw [← e, List.length_take] at h3
  omega
theorem take_app (l b : List UInt8) (n : Nat) (h : n ≤ l.length) : (l ++ b).take n = l.take n := by rw [List.take_append_of_le_length h]
theorem drop_app (l b : List UInt8) (n : Nat) (h : n ≤ l.length) : (l ++ b).drop n = l.drop n ++ b := by rw [List.drop_append_of_le_length h]
theorem cutAt_app (q : UInt8) (b : List UInt8) : ∀ (l x r : List UInt8), cutAt q l = some (x, r) → cutAt q (l ++ b) = some (x, r ++ b) := by
  intro l
  induction l with
  | nil => intro x r h; cases h
  | cons c l ih =>
    intro x r h
    simp only [cutAt, List.cons_append] at h ⊢
    by_cases hc : c = q
    · rw [if_pos hc] at h ⊢
      cases h
      rfl
    · rw [if_neg hc] at h ⊢
      cases ht : cutAt q l with
      | none => rw [ht] at h; cases h
      | some y =>
        rw [ht] at h
        cases h
        rw [ih y.1 y.2 ht]
        rfl
def lift (m : Nat) (a : Raw) : Raw := ⟨a.name, a.value, a.left + m⟩
theorem attrL_app (b l : List UInt8) (a : Raw) (r : List UInt8) (h : attrL l = some (a, r)) : attrL (l ++ b) = some (lift b.length a, r ++ b) := by
  unfold attrL at h
  split at h
  · cases h
  rename_i h0
  obtain ⟨_, h1, _, _⟩ := M.begin_max l
  cases hs : skipB (l.drop (M.beginL l)) with
  | nil => rw [hs] at h; cases h
  | cons c r1 =>
    rw [hs] at h
    by_cases hc : c = 61
    · subst hc
      obtain ⟨d, z, hz, hd⟩ := skip_first _ _ _ hs ⟨by decide, by decide⟩
      have hb := begin_app l b d z hz hd h0
      simp only at h
      cases hs2 : skipB r1 with
      | nil => rw [hs2] at h; cases h
      | cons q v =>
        rw [hs2] at h
        simp only at h
        unfold attrL
        rw [hb, if_neg h0, drop_app _ _ _ h1, skip_app _ b _ _ hs, take_app _ _ _ h1]
        simp only
        rw [skip_app _ b _ _ hs2]
        simp only
        split at h
        · rename_i hq
          rw [if_pos hq]
          cases hk : cutAt q v with
          | none => rw [hk] at h; cases h
          | some y =>
            obtain ⟨x, rest⟩ := y
            rw [hk] at h
            rw [cutAt_app q b v x rest hk]
            simp only at h ⊢
            split at h
            · cases h
            · rename_i hx
              rw [if_neg hx]
              simp only [Option.some.injEq, Prod.mk.injEq] at h
              obtain ⟨rfl, rfl⟩ := h
              simp [lift]
        · cases h
    · have : ∀ x, c :: r1 ≠ 61 :: x := fun x e => hc (List.cons.inj e).1
      split at h
      · exact absurd (by assumption) (this _)
      · cases h
theorem tagLoop_app (b : List UInt8) : ∀ (k : Nat) (l : List UInt8) (acc : List Raw) (kd : Nat) (rs : List Raw) (rest : List UInt8), tagLoop k l acc = some (kd, rs, rest) →
    ∀ K, k ≤ K → tagLoop K (l ++ b) (acc.map (lift b.length)) = some (kd, rs.map (lift b.length), rest ++ b) := by
  intro k
  induction k with
  | zero => intro l acc kd rs rest h; cases h
  | succ k ih =>
    intro l acc kd rs rest h K hK
    obtain ⟨K, rfl⟩ : ∃ j, K = j + 1 := ⟨K - 1, by omega⟩
    unfold tagLoop at h ⊢
    cases hs : skipB l with
    | nil =>
      rw [hs] at h
      simp at h
    | cons c r =>
      rw [hs] at h
      rw [skip_app l b c r hs]
      by_cases hc : (c :: r).length < l.length ∧ (c :: r).head? ≠ none ∧ (c :: r).head? ≠ some 47 ∧ (c :: r).head? ≠ some 62
      · rw [if_pos hc] at h
        rw [if_pos ⟨by have := hc.1; simp at this ⊢; omega, hc.2⟩]
        cases ha : attrL (c :: r) with
        | none => rw [ha] at h; cases h
        | some x =>
          obtain ⟨a, rest1⟩ := x
          rw [ha] at h
          have e := attrL_app b (c :: r) a rest1 ha
          rw [List.cons_append] at e
          rw [e]
          have := ih _ _ _ _ _ h K (by omega)
          simpa using this
      · rw [if_neg hc] at h
        rw [if_neg (fun hh => hc ⟨by have := hh.1; simp at this ⊢; omega, hh.2⟩)]
        by_cases hp : [47, 62].isPrefixOf (c :: r) = true
        · rw [if_pos hp] at h
          obtain ⟨t, ht⟩ := List.isPrefixOf_iff_prefix.mp hp
          have ht' : c :: r = 47 :: 62 :: t := ht.symm
          cases ht'
          simp only [Option.some.injEq, Prod.mk.injEq] at h
          obtain ⟨rfl, rfl, rfl⟩ := h
          rw [if_pos (by simp)]
          rfl
        · rw [if_neg hp] at h
          by_cases h62 : c = 62
          · subst h62
            simp only [Option.some.injEq, Prod.mk.injEq] at h
            obtain ⟨rfl, rfl, rfl⟩ := h
            rw [if_neg (by simp)]
            rfl
          · have : ∀ x, c :: r ≠ 62 :: x := fun x e => h62 (List.cons.inj e).1
            split at h
            · exact absurd (by assumption) (this _)
            · cases h
theorem tagLoop_first : ∀ (k : Nat) (l : List UInt8) (acc : List Raw) (kd : Nat) (rs : List Raw) (rest : List UInt8), tagLoop k l acc = some (kd, rs, rest) → ∃ d z, l = d :: z ∧ noName d := by
  intro k l acc kd rs rest h
  cases k with
  | zero => cases h
  | succ k =>
    unfold tagLoop at h
    cases l with
    | nil => simp [skipB] at h
    | cons d z =>
      refine ⟨d, z, rfl, ?_⟩
      by_cases hd : blank d = true
      · exact noName_blank d hd
      · have hs : skipB (d :: z) = d :: z := by unfold skipB; rw [List.dropWhile_cons_of_neg hd]
        rw [hs, if_neg (fun hh => by have := hh.1; omega)] at h
        by_cases hp : [47, 62].isPrefixOf (d :: z) = true
        · obtain ⟨t, ht⟩ := List.isPrefixOf_iff_prefix.mp hp
          have ht' : d :: z = 47 :: 62 :: t := ht.symm
          cases ht'
          exact ⟨by decide, by decide⟩
        · rw [if_neg hp] at h
          by_cases h62 : d = 62
          · subst h62; exact ⟨by decide, by decide⟩
          · have : ∀ x, d :: z ≠ 62 :: x := fun x e => h62 (List.cons.inj e).1
            split at h
            · exact absurd (by assumption) (this _)
            · cases h
theorem begin_zero (x : UInt8) (t : List UInt8) (h : M.isF x = false) : M.beginL (x :: t) = 0 := by
  have e : M.lenL ((x :: t).take 64) = 0 := by
    rw [show (x :: t).take 64 = x :: t.take 63 from rfl, M.lenL_cons, if_neg (by rw [h]; decide)]
  unfold M.beginL
  rw [if_pos (.inl e), e]
theorem tagL_app (b l : List UInt8) (kd : Nat) (n : List UInt8) (rs : List Raw) (rest : List UInt8) (h0 : l.head? = some 60) (h : tagL l = some (kd, n, rs, rest)) :
    tagL (l ++ b) = some (kd, n, rs.map (lift b.length), rest ++ b) ∧ (∃ c t, l = 60 :: c :: t ∧ c ≠ 33 ∧ c ≠ 63) := by
  obtain ⟨t0, rfl⟩ : ∃ t0, l = 60 :: t0 := by
    cases l with
    | nil => cases h0
    | cons q t0 => simp at h0; exact ⟨t0, by rw [h0]⟩
  cases t0 with
  | nil => exact absurd (h.symm.trans (show tagL [60] = none from rfl)) (by simp)
  | cons c t =>
    unfold tagL at h
    by_cases hp : [60, 47].isPrefixOf (60 :: c :: t) = true
    · rw [if_pos hp] at h
      obtain ⟨t', ht⟩ := List.isPrefixOf_iff_prefix.mp hp
      have ht' : 60 :: c :: t = 60 :: 47 :: t' := ht.symm
      cases ht'
      refine ⟨?_, 47, t, rfl, by decide, by decide⟩
      simp only [List.drop_succ_cons, List.drop_zero] at h
      unfold tagL
      rw [if_pos (by simp)]
      simp only [List.cons_append, List.drop_succ_cons, List.drop_zero]
      obtain ⟨_, h1, _, _⟩ := M.begin_max t
      split at h
      · cases h
      · rename_i hb0
        cases hs : skipB (t.drop (M.beginL t)) with
        | nil => rw [hs] at h; cases h
        | cons d r =>
          rw [hs] at h
          by_cases h62 : d = 62
          · subst h62
            obtain ⟨e, z, hz, hd⟩ := skip_first _ _ _ hs ⟨by decide, by decide⟩
            rw [begin_app t b e z hz hd hb0, if_neg hb0, drop_app _ _ _ h1, skip_app _ b _ _ hs, take_app _ _ _ h1]
            simp only [Option.some.injEq, Prod.mk.injEq] at h
            obtain ⟨rfl, rfl, rfl, rfl⟩ := h
            rfl
          · have : ∀ x, d :: r ≠ 62 :: x := fun x e => h62 (List.cons.inj e).1
            split at h
            · exact absurd (by assumption) (this _)
            · cases h
    · rw [if_neg hp] at h
      simp only [List.drop_succ_cons, List.drop_zero] at h
      split at h
      · cases h
      · rename_i hb0
        obtain ⟨_, h1, _, _⟩ := M.begin_max (c :: t)
        cases ht : tagLoop (60 :: c :: t).length ((c :: t).drop (M.beginL (c :: t))) [] with
        | none => rw [ht] at h; cases h
        | some x =>
          obtain ⟨k2, rs2, r2⟩ := x
          rw [ht] at h
          simp only [Option.map_some, Option.some.injEq, Prod.mk.injEq] at h
          obtain ⟨rfl, rfl, rfl, rfl⟩ := h
          obtain ⟨d, z, hz, hd⟩ := tagLoop_first _ _ _ _ _ _ ht
          have hc47 : c ≠ 47 := fun e => hp (by rw [e]; simp)
          have hcF : c ≠ 33 ∧ c ≠ 63 := by
            refine ⟨fun e => hb0 ?_, fun e => hb0 ?_⟩ <;> subst e
            · exact begin_zero _ _ (by decide)
            · exact begin_zero _ _ (by decide)
          refine ⟨?_, c, t, rfl, hcF.1, hcF.2⟩
          unfold tagL
          rw [if_neg (by intro hh; obtain ⟨t', ht'⟩ := List.isPrefixOf_iff_prefix.mp hh; cases ht'; exact hc47 rfl)]
          have e1 : (60 :: c :: t ++ b).drop 1 = (c :: t) ++ b := rfl
          rw [e1, begin_app (c :: t) b d z hz hd hb0, if_neg hb0, drop_app _ _ _ h1, take_app _ _ _ h1]
          have := tagLoop_app b _ _ _ _ _ _ ht (60 :: c :: t ++ b).length (by simp)
          simp only [List.map_nil] at this
          rw [this]
          rfl
theorem pre_head (x c : UInt8) (p t : List UInt8) (h : (x :: p).isPrefixOf (c :: t) = true) : x = c := by
  obtain ⟨t', ht⟩ := List.isPrefixOf_iff_prefix.mp h
  exact (List.cons.inj ht).1
theorem pre_second (x y c d : UInt8) (p t : List UInt8) (h : (x :: y :: p).isPrefixOf (c :: d :: t) = true) : y = d := by
  obtain ⟨t', ht⟩ := List.isPrefixOf_iff_prefix.mp h
  exact (List.cons.inj (List.cons.inj ht).2).1
theorem readL_lift (m al : Nat) : ∀ (rs : List Raw) (acc : List (List UInt8 × List UInt8)), readL (al + m) (rs.map (lift m)) acc = readL al rs acc := by
  intro rs
  induction rs with
  | nil => intro acc; rfl
  | cons a rs ih =>
    intro acc
    show (if (E.D a.value).2.2 ≠ 0 then (acc, al + m - (a.left + m) + (E.D a.value).2.1, (E.D a.value).2.2) else readL (al + m) (rs.map (lift m)) (acc ++ [(a.name, (E.D a.value).1)])) = (if (E.D a.value).2.2 ≠ 0 then (acc, al - a.left + (E.D a.value).2.1, (E.D a.value).2.2) else readL al rs (acc ++ [(a.name, (E.D a.value).1)]))
    rw [ih, Nat.add_sub_add_right]
theorem tokenL_app (b l : List UInt8) (al : Nat) (hb : b.head? = some 60) (hl : l ≠ []) (h : (tokenL al l).2.2.1 = 0) :
    tokenL (al + b.length) (l ++ b) = ((tokenL al l).1, 0, 0, (tokenL al l).2.2.2 ++ b) ∧ (remarkL l = none → remarkL (l ++ b) = none) := by
  by_cases h0 : l.head? = some 60
  · unfold tokenL at h ⊢
    rw [if_pos h0] at h ⊢
    have h0b : (l ++ b).head? = some 60 := by rw [List.head?_append, h0]; rfl
    rw [if_pos h0b]
    cases ht : tagL l with
    | none => rw [ht] at h; simp at h
    | some x =>
      obtain ⟨k, n, rs, rest⟩ := x
      rw [ht] at h
      obtain ⟨ha, c, t, rfl, hc1, hc2⟩ := tagL_app b l k n rs rest h0 ht
      rw [ha]
      simp only [readL_lift] at h ⊢
      refine ⟨?_, fun _ => ?_⟩
      · by_cases hr : (readL al rs []).2.2 ≠ 0
        · rw [if_pos hr] at h; exact absurd h hr
        · rw [if_neg hr] at h ⊢
          by_cases h32 : 32 < rs.length
          · rw [if_pos h32] at h; simp at h
          · rw [if_neg h32, if_neg hr, if_neg (by rw [List.length_map]; exact h32), List.length_append, Nat.add_sub_add_right]
      · unfold remarkL
        simp only [List.cons_append]
        rw [if_neg (fun hh => hc1 (pre_second _ _ _ _ _ _ hh).symm), if_neg (fun hh => hc2 (pre_second _ _ _ _ _ _ hh).symm)]
  · have h0b : ¬ (l ++ b).head? = some 60 := by
      cases l with
      | nil => exact absurd rfl hl
      | cons c l => exact h0
    unfold tokenL at h ⊢
    rw [if_neg h0] at h ⊢
    rw [if_neg h0b]
    have key : (l ++ b).takeWhile (· ≠ 60) = l.takeWhile (· ≠ 60) ∧ (l ++ b).dropWhile (· ≠ 60) = l.dropWhile (· ≠ 60) ++ b := by
      obtain ⟨b', rfl⟩ : ∃ b', b = 60 :: b' := by
        cases b with
        | nil => cases hb
        | cons q t => simp at hb; exact ⟨t, by rw [hb]⟩
      clear h h0 h0b hl
      induction l with
      | nil => exact ⟨by simp, by simp⟩
      | cons c l ih =>
        by_cases hc : c = 60
        · subst hc; exact ⟨by simp, by simp⟩
        · have hp : decide (c ≠ 60) = true := by simpa using hc
          rw [List.cons_append, List.takeWhile_cons_of_pos (p := fun x : UInt8 => decide (x ≠ 60)) hp, List.takeWhile_cons_of_pos (p := fun x : UInt8 => decide (x ≠ 60)) hp, List.dropWhile_cons_of_pos (p := fun x : UInt8 => decide (x ≠ 60)) hp, List.dropWhile_cons_of_pos (p := fun x : UInt8 => decide (x ≠ 60)) hp, ih.1, ih.2]
          exact ⟨rfl, rfl⟩
    rw [key.1, key.2]
    refine ⟨?_, fun _ => ?_⟩
    · by_cases h1 : (E.D (l.takeWhile (· ≠ 60))).2.2 ≠ 0
      · rw [if_pos h1] at h; exact absurd h h1
      · rw [if_neg h1, if_neg h1, List.length_append, Nat.add_sub_add_right]
    · unfold remarkL
      cases l with
      | nil => exact absurd rfl hl
      | cons c l =>
        have hc : c ≠ 60 := by simpa using h0
        simp only [List.cons_append]
        rw [if_neg (fun hh => hc (pre_head _ _ _ _ hh).symm), if_neg (fun hh => hc (pre_head _ _ _ _ hh).symm)]
theorem pre_app (p l b : List UInt8) (h : p.length ≤ l.length) : p.isPrefixOf (l ++ b) = p.isPrefixOf l := by
  rw [Bool.eq_iff_iff, List.isPrefixOf_iff_prefix, List.isPrefixOf_iff_prefix]
  constructor
  · intro hp
    exact List.prefix_of_prefix_length_le hp (List.prefix_append l b) h
  · intro hp
    exact hp.trans (List.prefix_append l b)
theorem behind_app (p b : List UInt8) : ∀ (l r : List UInt8), behind p l = some r → behind p (l ++ b) = some (r ++ b) ∧ p.length ≤ l.length := by
  intro l
  induction l with
  | nil => intro r h; cases h
  | cons c l ih =>
    intro r h
    simp only [behind] at h
    by_cases hp : p.isPrefixOf (c :: l) = true
    · rw [if_pos hp] at h
      have hl := (List.isPrefixOf_iff_prefix.mp hp).length_le
      have e := pre_app p (c :: l) b hl
      simp only [behind, List.cons_append]
      rw [← List.cons_append, e, if_pos hp, drop_app _ _ _ hl, Option.some.inj h]
      exact ⟨rfl, hl⟩
    · rw [if_neg hp] at h
      obtain ⟨h1, h2⟩ := ih r h
      have e := pre_app p (c :: l) b (by simp; omega)
      simp only [behind, List.cons_append]
      rw [← List.cons_append, e, if_neg hp]
      exact ⟨h1, by simp; omega⟩
theorem remarkL_app (b l r : List UInt8) (h : remarkL l = some r) : remarkL (l ++ b) = some (r ++ b) := by
  unfold remarkL at h ⊢
  by_cases h1 : [60, 33, 45, 45].isPrefixOf l = true
  · have hl := (List.isPrefixOf_iff_prefix.mp h1).length_le
    rw [if_pos h1] at h
    rw [pre_app _ _ _ hl, if_pos h1, drop_app _ _ _ (by simpa using hl)]
    exact (behind_app _ b _ _ h).1
  · rw [if_neg h1] at h
    by_cases h2 : [60, 63].isPrefixOf l = true
    · have hl := (List.isPrefixOf_iff_prefix.mp h2).length_le
      obtain ⟨t, rfl⟩ := List.isPrefixOf_iff_prefix.mp h2
      rw [if_pos h2] at h
      rw [if_neg (by simp), pre_app _ _ _ hl, if_pos h2, drop_app _ _ _ (by simp)]
      exact (behind_app _ b _ _ h).1
    · rw [if_neg h2] at h; cases h
theorem remark_lt (l r : List UInt8) (h : remarkL l = some r) : r.length < l.length := by
  unfold remarkL at h
  split at h
  · have := behind_len [45, 45, 62] (by simp) _ _ h
    rw [List.length_drop] at this
    omega
  · split at h
    · have := behind_len [63, 62] (by simp) _ _ h
      rw [List.length_drop] at this
      omega
    · cases h
theorem token_lt (al : Nat) (l : List UInt8) (hl : l ≠ []) (h : (tokenL al l).2.2.1 = 0) : (tokenL al l).2.2.2.length < l.length := by
  unfold tokenL at h ⊢
  by_cases h0 : l.head? = some 60
  · rw [if_pos h0] at h ⊢
    cases ht : tagL l with
    | none => rw [ht] at h; simp at h
    | some x =>
      obtain ⟨k, n, rs, rest⟩ := x
      rw [ht] at h
      have h3 := (tagL_suf l k n rs rest ht).1.length_le
      have hp := List.length_pos_iff.mpr hl
      rw [List.length_drop] at h3
      simp only at h ⊢
      by_cases h1 : (readL al rs []).2.2 ≠ 0
      · rw [if_pos h1] at h; exact absurd h h1
      · rw [if_neg h1] at h ⊢
        by_cases h2 : 32 < rs.length
        · rw [if_pos h2] at h; simp at h
        · rw [if_neg h2]; show rest.length < _; omega
  · rw [if_neg h0] at h ⊢
    by_cases h1 : (E.D (l.takeWhile (· ≠ 60))).2.2 ≠ 0
    · rw [if_pos h1] at h; exact absurd h h1
    · rw [if_neg h1]
      cases l with
      | nil => exact absurd rfl hl
      | cons c l =>
        have hc : c ≠ 60 := by simpa using h0
        show (List.dropWhile (fun x : UInt8 => decide (x ≠ 60)) (c :: l)).length < _
        rw [List.dropWhile_cons_of_pos (by simpa using hc)]
        have := (List.dropWhile_suffix (l := l) (fun x : UInt8 => decide (x ≠ 60))).length_le
        simp only [List.length_cons]
        omega
theorem fuel_one (al : Nat) : ∀ (n k j : Nat) (l : List UInt8) (acc : List Tok), l.length ≤ n → l.length ≤ al → l.length ≤ k → l.length ≤ j → tokensF al k l acc = tokensF al j l acc := by
  intro n
  induction n with
  | zero =>
    intro k j l acc hn _ _ _
    have : l = [] := List.length_eq_zero_iff.mp (by omega)
    subst this
    cases k <;> cases j <;> simp [tokensF]
  | succ n ih =>
    intro k j l acc hn ha hk hj
    by_cases hl : l = []
    · subst hl
      cases k <;> cases j <;> simp [tokensF]
    · have hp := List.length_pos_iff.mpr hl
      obtain ⟨k, rfl⟩ : ∃ i, k = i + 1 := ⟨k - 1, by omega⟩
      obtain ⟨j, rfl⟩ : ∃ i, j = i + 1 := ⟨j - 1, by omega⟩
      unfold tokensF
      rw [if_neg hl, if_neg hl]
      cases hr : remarkL l with
      | some r =>
        have h1 := (remarkL_suf l r hr).length_le
        have h2 : r.length < l.length := remark_lt l r hr
        exact ih k j r acc (by omega) (by omega) (by omega) (by omega)
      | none =>
        simp only
        by_cases he : (tokenL al l).2.2.1 ≠ 0
        · rw [if_pos he, if_pos he]
        · rw [if_neg he, if_neg he]
          have h2 := token_lt al l hl (by omega)
          exact ih k j _ _ (by omega) (by omega) (by omega) (by omega)
theorem tokensF_app (b : List UInt8) (al : Nat) (hb : b.head? = some 60) : ∀ (n k K : Nat) (l : List UInt8) (acc x : List Tok), l.length ≤ n → l.length ≤ k → (l ++ b).length ≤ K → l.length ≤ al → tokensF al k l acc = (x, 0, 0) → tokensF (al + b.length) K (l ++ b) acc = tokensF (al + b.length) b.length b x := by
  intro n
  induction n with
  | zero =>
    intro k K l acc x hn hk hK ha h
    have : l = [] := List.length_eq_zero_iff.mp (by omega)
    subst this
    have hx : acc = x := by cases k <;> simp [tokensF] at h <;> exact h
    subst hx
    have hK' : b.length ≤ K := by simpa using hK
    show tokensF (al + b.length) K b acc = _
    exact fuel_one _ b.length _ _ _ _ (Nat.le_refl _) (by omega) hK' (Nat.le_refl _)
  | succ n ih =>
    intro k K l acc x hn hk hK ha h
    by_cases hl : l = []
    · subst hl
      have hx : acc = x := by cases k <;> simp [tokensF] at h <;> exact h
      subst hx
      have hK' : b.length ≤ K := by simpa using hK
      show tokensF (al + b.length) K b acc = _
      exact fuel_one _ b.length _ _ _ _ (Nat.le_refl _) (by omega) hK' (Nat.le_refl _)
    · have hp := List.length_pos_iff.mpr hl
      rw [List.length_append] at hK
      obtain ⟨k, rfl⟩ : ∃ i, k = i + 1 := ⟨k - 1, by omega⟩
      obtain ⟨K, rfl⟩ : ∃ i, K = i + 1 := ⟨K - 1, by omega⟩
      unfold tokensF at h
      rw [if_neg hl] at h
      rw [tokensF, if_neg (by simp [hl])]
      cases hr : remarkL l with
      | some r =>
        rw [hr] at h
        rw [remarkL_app b l r hr]
        have h2 := remark_lt l r hr
        exact ih k K r acc x (by omega) (by omega) (by rw [List.length_append]; omega) (by omega) h
      | none =>
        rw [hr] at h
        simp only at h
        by_cases he : (tokenL al l).2.2.1 ≠ 0
        · rw [if_pos he] at h
          simp only [Prod.mk.injEq] at h
          exact absurd h.2.2 he
        · rw [if_neg he] at h
          obtain ⟨h1, h2⟩ := tokenL_app b l al hb hl (by omega)
          have h3 := token_lt al l hl (by omega)
          rw [h2 hr, h1]
          simp only
          rw [if_neg (by simp)]
          exact ih k K _ _ x (by omega) (by omega) (by rw [List.length_append]; omega) (by omega) h
def sh (n : Nat) (t : Tok) : Tok := ⟨t.kind, t.name, t.attrs, t.text, n + t.at_⟩
theorem readL_shift (n al : Nat) : ∀ (rs : List Raw) (acc : List (List UInt8 × List UInt8)), (∀ a ∈ rs, a.left ≤ al) → readL (n + al) rs acc = ((readL al rs acc).1, if (readL al rs acc).2.2 ≠ 0 then n + (readL al rs acc).2.1 else 0, (readL al rs acc).2.2) := by
  intro rs
  induction rs with
  | nil => intro acc _; rfl
  | cons a rs ih =>
    intro acc h
    have ha := h a (by simp)
    unfold readL
    by_cases he : (E.D a.value).2.2 ≠ 0
    · rw [if_pos he, if_pos he]
      simp only
      rw [if_pos he, show n + al - a.left + (E.D a.value).2.1 = n + (al - a.left + (E.D a.value).2.1) by omega]
    · rw [if_neg he, if_neg he]
      exact ih _ (fun x hx => h x (by simp [hx]))
theorem tokenL_shift (n al : Nat) (l : List UInt8) (hl : l.length ≤ al) :
    tokenL (n + al) l = (if (tokenL al l).2.2.1 ≠ 0 then (tokenL al l).1 else sh n (tokenL al l).1, if (tokenL al l).2.2.1 ≠ 0 then n + (tokenL al l).2.1 else 0, (tokenL al l).2.2.1, (tokenL al l).2.2.2) := by
  unfold tokenL
  by_cases h0 : l.head? = some 60
  · rw [if_pos h0, if_pos h0]
    cases ht : tagL l with
    | none => simp; omega
    | some x =>
      obtain ⟨k, nm, rs, rest⟩ := x
      have hL := tagL_left l k nm rs rest ht
      simp only
      rw [readL_shift n al rs [] (fun a ha => by have := (hL a ha).1; omega)]
      by_cases hr : (readL al rs []).2.2 ≠ 0
      · simp only [if_pos hr]
      · simp only [if_neg hr]
        by_cases h32 : 32 < rs.length
        · simp [h32]; omega
        · simp [h32, sh]; omega
  · rw [if_neg h0, if_neg h0]
    by_cases h1 : (E.D (l.takeWhile (· ≠ 60))).2.2 ≠ 0
    · simp only [if_pos h1]
      rw [show n + al - l.length = n + (al - l.length) by omega, Nat.add_assoc]
    · simp only [if_neg h1]
      simp [sh]; omega
theorem tokensF_shift (n al : Nat) : ∀ (k : Nat) (l : List UInt8) (acc p : List Tok), l.length ≤ al →
    tokensF (n + al) k l (p ++ acc.map (sh n)) = (if (tokensF al k l acc).2.2 ≠ 0 then [] else p ++ (tokensF al k l acc).1.map (sh n), if (tokensF al k l acc).2.2 ≠ 0 then n + (tokensF al k l acc).2.1 else 0, (tokensF al k l acc).2.2) := by
  intro k
  induction k with
  | zero => intro l acc p _; rfl
  | succ k ih =>
    intro l acc p hl
    unfold tokensF
    by_cases h0 : l = []
    · rw [if_pos h0, if_pos h0]; rfl
    · rw [if_neg h0, if_neg h0]
      cases hr : remarkL l with
      | some r => exact ih r acc p (by have := remark_lt l r hr; omega)
      | none =>
        simp only
        rw [tokenL_shift n al l hl]
        by_cases he : (tokenL al l).2.2.1 ≠ 0
        · simp only [if_pos he]
        · simp only [if_neg he]
          have h3 := token_lt al l h0 (by omega)
          have := ih (tokenL al l).2.2.2 (acc ++ [(tokenL al l).1]) p (by omega)
          rw [List.map_append, ← List.append_assoc] at this
          exact this
theorem tokensL_app (a b : List UInt8) (x : List Tok) (ha : a.length ≤ 400) (hb : b.length ≤ 400) (hh : b.head? = some 60) (va : (U.validR a).2 = 0) (vb : (U.validR b).2 = 0) (vab : (U.validR (a ++ b)).2 = 0) (h : tokensL a = (x, 0, 0)) :
    tokensL (a ++ b) = (if (tokensL b).2.2 ≠ 0 then [] else x ++ (tokensL b).1.map (sh a.length), if (tokensL b).2.2 ≠ 0 then a.length + (tokensL b).2.1 else 0, (tokensL b).2.2) := by
  have hl : (a ++ b).length = a.length + b.length := List.length_append
  have hB : tokensL b = tokensF b.length b.length b [] := by
    unfold tokensL
    rw [if_neg (by omega), if_neg (by omega)]
  rw [hB]
  unfold tokensL at h ⊢
  rw [if_neg (by omega), if_neg (by omega)] at h
  rw [if_neg (by omega), if_neg (by omega), hl]
  rw [tokensF_app b a.length hh a.length _ _ a [] x (Nat.le_refl _) (Nat.le_refl _) (by omega) (Nat.le_refl _) h]
  have := tokensF_shift a.length b.length b.length b [] x (Nat.le_refl _)
  simp only [List.map_nil, List.append_nil] at this
  exact this
end Go.Proofs.YtpknhgejnfmijaaGreatDoor.T
