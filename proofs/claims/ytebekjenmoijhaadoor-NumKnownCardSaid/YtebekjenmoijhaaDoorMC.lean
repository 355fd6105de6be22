/- A text of the claim, with what no other text of it needs taken out. -/
import Derived.Test.YtebekjenmoijhaaDoorM9
import Derived.Test.YtebekjenmoijhaaDoorMB
namespace Go.Proofs.YtebekjenmoijhaaDoor.M
open Go Go.RowKit Go.Proofs.YtebekjenmoijhaaDoorW.PrintWords Go.Proofs.YtebekjenmoijhaaDoorW.PrintMore Go.Proofs.YtebekjenmoijhaaDoor.PM Go.Proofs.YtebekjenmoijhaaDoor.PL
set_option linter.unusedVariables false
set_option linter.unusedSimpArgs false
theorem ch_isD {d : Int} (h0 : 0 ≤ d) (h1 : d ≤ 9) : (ch d).toNat = 48 + d.toNat := by
  unfold ch
  rw [UInt8.toNat_ofNat']
  omega
theorem dn_ch {d : Int} (h0 : 0 ≤ d) (h1 : d ≤ 9) : dn (ch d) = d.toNat := by rw [dn_eq, ch_isD h0 h1]; omega
theorem vN_dec (u : Nat) : vN 0 (Lib.decDigits u) = u := by
  induction u using Nat.strongRecOn with
  | _ u ih =>
    by_cases h1 : u < 10
    · rw [Lib.decDigits, dif_pos h1]
      have := dn_ch (d := (u : Int)) (by omega) (by omega)
      rw [Int.toNat_natCast] at this
      simp only [vN]
      unfold ch at this
      rw [Int.toNat_natCast] at this
      omega
    · rw [Lib.decDigits, dif_neg h1, vN_append, ih _ (by omega)]
      have := dn_ch (d := ((u % 10 : Nat) : Int)) (by omega) (by omega)
      unfold ch at this
      rw [Int.toNat_natCast] at this
      omega
theorem dec_all (u : Nat) : (Lib.decDigits u).all isD = true := by
  by_cases h : u = 0
  · subst h; rw [Lib.decDigits, dif_pos (by decide)]; decide
  · rw [dec_dg u h, List.all_reverse, List.all_map, List.all_eq_true]
    intro x hx
    have := dg_D u x hx
    show isD (ch x) = true
    rw [isD_iff, ch_isD this.1 this.2]
    omega
theorem dec_lead (u : Nat) (h : u ≠ 0) : lead (Lib.decDigits u) = true := by
  induction u using Nat.strongRecOn with
  | _ u ih =>
    by_cases h1 : u < 10
    · rw [Lib.decDigits, dif_pos h1]
      have := ch_isD (d := (u : Int)) (by omega) (by omega)
      unfold ch at this
      rw [Int.toNat_natCast] at this
      show (UInt8.ofNat (48 + u) != 48) = true
      rw [bne_iff_ne, ne_eq, ← UInt8.toNat_inj, this]
      show ¬ (48 + u = 48)
      omega
    · rw [Lib.decDigits, dif_neg h1]
      have hi := ih (u / 10) (by omega) (by omega)
      cases hl : Lib.decDigits (u / 10) with
      | nil => rw [hl] at hi; exact absurd hi (by decide)
      | cons c r => rw [hl] at hi; exact hi
theorem neg_digits {l : List UInt8} (h : l.all isD = true) : neg l = false := by
  cases l with
  | nil => rfl
  | cons c r =>
    rw [List.all_cons, Bool.and_eq_true, isD_iff] at h
    show (c == 45) = false
    rw [beq_eq_false_iff_ne, ne_eq, ← UInt8.toNat_inj]
    show ¬ (c.toNat = 45)
    omega
theorem pR_itoa {a : Int} (ha : I a) : pR (Lib.itoa a) = (a, 0) := by
  unfold Lib.itoa
  by_cases h : a < 0
  · rw [if_pos h]
    unfold pR wr
    have hb : body (45 :: Lib.decDigits a.natAbs) = Lib.decDigits a.natAbs := rfl
    have hn : neg (45 :: Lib.decDigits a.natAbs) = true := rfl
    rw [hb, hn, dec_all, dec_lead _ (by omega), vN_dec]
    simp only [Bool.or_true, Bool.and_true, if_true]
    have hs : sg (a.natAbs : Int) true = a := by unfold sg; rw [if_pos rfl]; omega
    rw [hs]
    exact if_pos ha
  · rw [if_neg h]
    have hn := neg_digits (dec_all a.toNat)
    unfold pR wr
    have hb : body (Lib.decDigits a.toNat) = Lib.decDigits a.toNat := by unfold body; rw [hn]; rfl
    rw [hb, hn, dec_all, vN_dec]
    have hl : (decide (Lib.decDigits a.toNat = [48]) || lead (Lib.decDigits a.toNat)) = true := by
      by_cases h0 : a.toNat = 0
      · rw [h0, Lib.decDigits, dif_pos (by decide)]; decide
      · rw [dec_lead _ h0, Bool.or_true]
    rw [hl]
    simp only [Bool.and_true, if_true]
    have hs : sg (a.toNat : Int) false = a := by unfold sg; rw [if_neg (by decide)]; omega
    rw [hs]
    exact if_pos ha
theorem dec_snoc (l : List UInt8) (c : UInt8) (hl : l ≠ []) (hlead : lead l = true) (hd : l.all isD = true) (hc : isD c = true) (ih : Lib.decDigits (vN 0 l) = l) : Lib.decDigits (vN 0 (l ++ [c])) = l ++ [c] := by
  rw [isD_iff] at hc
  have hn : vN 0 l ≠ 0 := by
    intro h0
    rw [h0, Lib.decDigits, dif_pos (by decide)] at ih
    rw [← ih] at hlead
    exact absurd hlead (by decide)
  rw [vN_append, Lib.decDigits, dif_neg (by omega)]
  have hdn := dn_eq c
  rw [show (vN 0 l * 10 + dn c) / 10 = vN 0 l by omega, show (vN 0 l * 10 + dn c) % 10 = dn c by omega, ih]
  congr 2
  rw [← UInt8.toNat_inj, UInt8.toNat_ofNat']
  omega
theorem dec_digits : ∀ (n : Nat) (l : List UInt8), l.length = n → l.all isD = true → lead l = true → Lib.decDigits (vN 0 l) = l := by
  intro n
  induction n with
  | zero =>
    intro l hn _ h
    rw [List.length_eq_zero_iff] at hn
    subst hn
    exact absurd h (by decide)
  | succ n ih =>
    intro l hn hd hl
    have hne : l ≠ [] := by intro h; rw [h] at hn; cases hn
    obtain ⟨m, c, rfl⟩ : ∃ m c, l = m ++ [c] := ⟨l.dropLast, l.getLast hne, (List.dropLast_concat_getLast hne).symm⟩
    rw [List.all_append, Bool.and_eq_true] at hd
    have hc : isD c = true := by simpa using hd.2
    cases m with
    | nil =>
      rw [List.nil_append] at *
      rw [isD_iff] at hc
      have hdn := dn_eq c
      have hv : vN 0 [c] = dn c := by simp only [vN]; omega
      rw [hv, Lib.decDigits, dif_pos (by omega)]
      congr 1
      rw [← UInt8.toNat_inj, UInt8.toNat_ofNat']
      omega
    | cons d m =>
      have hlm : lead (d :: m) = true := hl
      exact dec_snoc (d :: m) c (by simp) hlm hd.1 hc (ih (d :: m) (by simpa using hn) hd.1 hlm)
theorem itoa_pR {l : List UInt8} (h : (pR l).2 = 0) : Lib.itoa (pR l).1 = l := by
  unfold pR at h ⊢
  by_cases hw : wr l = true
  · rw [if_pos hw] at h ⊢
    have hr : toldR (sg (vN 0 (body l) : Int) (neg l)) = (sg (vN 0 (body l) : Int) (neg l), 0) := by
      unfold toldR at h ⊢
      split
      · rfl
      · rename_i hh; rw [if_neg hh] at h; exact absurd h (by decide)
    rw [hr]
    unfold wr at hw
    rw [Bool.and_eq_true] at hw
    obtain ⟨hd, hl⟩ := hw
    by_cases h48 : l = [48]
    · subst h48
      decide +kernel
    · rw [decide_eq_false h48, Bool.false_or] at hl
      have hdd := dec_digits _ (body l) rfl hd hl
      have hn0 : vN 0 (body l) ≠ 0 := by
        intro h0
        rw [h0, Lib.decDigits, dif_pos (by decide)] at hdd
        rw [← hdd] at hl
        exact absurd hl (by decide)
      unfold Lib.itoa sg
      by_cases hn : neg l = true
      · simp only [hn, if_true]
        rw [if_pos (by omega), Int.natAbs_neg, Int.natAbs_natCast, hdd]
        cases l with
        | nil => exact absurd hn (by decide)
        | cons c r =>
          have hc : c = 45 := by simpa [neg] using hn
          subst hc
          rfl
      · have hn' := Bool.eq_false_iff.mpr hn
        simp only [hn', Bool.false_eq_true, if_false]
        rw [if_neg (by omega), Int.toNat_natCast, hdd]
        unfold body
        rw [hn']
        rfl
  · rw [if_neg hw] at h
    exact absurd h (by decide)
theorem pR_zero {l : List UInt8} (h : (pR l).2 ≠ 0) : (pR l).1 = 0 := by
  unfold pR toldR at *
  split at h
  · rename_i hw
    rw [if_pos hw]
    split at h
    · exact absurd rfl h
    · rename_i hh; rw [if_neg hh]
  · rename_i hw
    rw [if_neg hw]
theorem pR_I (l : List UInt8) : I (pR l).1 := by
  unfold pR
  split
  · exact toldR_I _
  · unfold I; decide
theorem tmod_le (a b : Int) : (a.tmod b < 0 → a ≤ a.tmod b) ∧ (0 < a.tmod b → a.tmod b ≤ a) := by
  rw [← sg_mod]
  have h2 : a.natAbs % b.natAbs ≤ a.natAbs := Nat.mod_le _ _
  generalize a.natAbs % b.natAbs = q at h2 ⊢
  unfold sg
  by_cases h0 : a < 0
  · rw [decide_eq_true h0, if_pos rfl]; omega
  · rw [decide_eq_false h0, if_neg (by decide)]; omega
theorem tdiv_I {a b : Int} (ha : I a) (hb : I b) (h : b ≠ 0) (hm : ¬ (a = -9223372036854775808 ∧ b = -1)) : I (a.tdiv b) := by
  rw [← sg_div]
  unfold I at ha hb ⊢
  by_cases h1 : b.natAbs = 1
  · rw [h1, Nat.div_one]
    unfold sg
    by_cases h0 : a < 0 <;> by_cases h2 : b < 0
    · rw [decide_eq_true h0, decide_eq_true h2]; simp; omega
    · rw [decide_eq_true h0, decide_eq_false h2]; simp; omega
    · rw [decide_eq_false h0, decide_eq_true h2]; simp; omega
    · rw [decide_eq_false h0, decide_eq_false h2]; simp; omega
  · have h3 : a.natAbs / b.natAbs ≤ a.natAbs / 2 := Nat.div_le_div_left (by omega) (by decide)
    generalize a.natAbs / b.natAbs = q at h3 ⊢
    unfold sg
    split <;> omega
theorem toldR_in {x : Int} (h : I x) : toldR x = (x, 0) := if_pos h
end Go.Proofs.YtebekjenmoijhaaDoor.M
