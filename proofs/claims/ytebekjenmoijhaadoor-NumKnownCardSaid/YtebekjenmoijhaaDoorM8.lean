/- A text of the claim, with what no other text of it needs taken out. -/
import Derived.Test.YtebekjenmoijhaaDoorM7
import Derived.Test.YtebekjenmoijhaaDoorPM5
import Derived.Lib.ParseIntBCases
import Derived.Laws.Strings2
namespace Go.Proofs.YtebekjenmoijhaaDoor.M
open Go Go.RowKit Go.Proofs.YtebekjenmoijhaaDoorW.PrintWords Go.Proofs.YtebekjenmoijhaaDoorW.PrintMore Go.Proofs.YtebekjenmoijhaaDoor.PM Go.Proofs.YtebekjenmoijhaaDoor.PL
set_option linter.unusedVariables false
set_option linter.unusedSimpArgs false
abbrev bl (s : ByteArray) : List UInt8 := s.data.toList
theorem bl_length (s : ByteArray) : (bl s).length = s.size := by simp [bl]
theorem toList_bl (s : ByteArray) : s.toList = bl s := ByteArray.toList_eq s
theorem bl_extract (s : ByteArray) (a b : Nat) : bl (s.extract a b) = ((bl s).drop a).take (b - a) := by
  obtain ⟨⟨l⟩⟩ := s
  show bl ((ByteArray.mk l.toArray).extract a b) = _
  rw [ByteArray.extract_mk]
theorem bl_from (s : ByteArray) (a : Nat) : bl (s.extract a s.size) = (bl s).drop a := by
  rw [bl_extract, List.take_of_length_le (by rw [List.length_drop, bl_length]; omega)]
theorem bl_to (s : ByteArray) (b : Nat) : bl (s.extract 0 b) = (bl s).take b := by
  rw [bl_extract, List.drop_zero, Nat.sub_zero]
theorem bl_append (a b : ByteArray) : bl (a ++ b) = bl a ++ bl b := by simp [bl]
theorem bl_mk (l : List UInt8) : bl ⟨l.toArray⟩ = l := rfl
theorem bl_inj {a b : ByteArray} (h : bl a = bl b) : a = b := by
  obtain ⟨⟨l⟩⟩ := a
  obtain ⟨⟨m⟩⟩ := b
  simpa [bl] using h
theorem bl_nil {s : ByteArray} : bl s = [] ↔ s.size = 0 := by
  rw [← bl_length, List.length_eq_zero_iff]
theorem bt_at (s : ByteArray) (i : Nat) (h : i < (bl s).length) : bt s (i : Int) = (((bl s)[i]).toNat : Int) := by
  unfold bt
  simp only [Int.toNat_natCast]
  have h' : i < s.size := by rwa [bl_length] at h
  rw [dif_pos h']
  rfl
def isD (c : UInt8) : Bool := decide (48 ≤ c.toNat) && decide (c.toNat ≤ 57)
theorem isD_iff (c : UInt8) : isD c = true ↔ 48 ≤ c.toNat ∧ c.toNat ≤ 57 := by simp [isD]
def neg : List UInt8 → Bool
  | c :: _ => c == 45
  | [] => false
def body (l : List UInt8) : List UInt8 := if neg l = true then l.tail else l
def lead : List UInt8 → Bool
  | [] => false
  | c :: _ => c != 48
def wr (l : List UInt8) : Bool := (body l).all isD && (decide (l = [48]) || lead (body l))
@[irreducible] def dn (c : UInt8) : Nat := c.toNat - 48
theorem dn_eq (c : UInt8) : dn c = c.toNat - 48 := by unfold dn; rfl
def vN (acc : Nat) : List UInt8 → Nat
  | [] => acc
  | c :: r => vN (acc * 10 + dn c) r
theorem vN_ge (l : List UInt8) : ∀ acc, acc ≤ vN acc l := by
  induction l with
  | nil => intro acc; exact Nat.le_refl _
  | cons c l ih => intro acc; exact Nat.le_trans (by omega) (ih _)
theorem vN_append (l : List UInt8) (c : UInt8) : ∀ acc, vN acc (l ++ [c]) = vN acc l * 10 + dn c := by
  induction l with
  | nil => intro acc; rfl
  | cons d l ih => intro acc; exact ih _
theorem prefix_eq (s : ByteArray) (hz : s.size ≤ 140737488351232) : ∃ t, strings_TrimPrefix.f s ⟨#[45]⟩ = some t ∧ bl t = body (bl s) := by
  unfold strings_TrimPrefix.f stringslite_TrimPrefix.f stringslite_HasPrefix.f
  have e1 : ((⟨#[45]⟩ : ByteArray).size : Int) = 1 := rfl
  simp only [e1]
  cases hl : bl s with
  | nil =>
    have h0 : s.size = 0 := bl_nil.mp hl
    rw [if_neg (by omega)]
    exact ⟨s, by simp, by rw [hl]; rfl⟩
  | cons c r =>
    have h1 : s.size = r.length + 1 := by rw [← bl_length, hl]; rfl
    rw [if_pos (by omega), if_pos (by omega), if_pos (by omega)]
    have e2 : (s.extract 0 ((1 : Int)).toNat).toList = [c] := by
      rw [toList_bl, show ((1 : Int)).toNat = 1 from rfl, bl_to, hl]; rfl
    have e3 : (⟨#[45]⟩ : ByteArray).toList = [45] := by rw [toList_bl]
    rw [e2, e3]
    by_cases h : c = 45
    · subst h
      refine ⟨s.extract 1 s.size, ?_, ?_⟩
      · simp only [Option.bind_some, beq_self_eq_true, if_true]
        rw [if_pos (by omega), if_pos (by omega)]
        rfl
      · rw [bl_from, hl]; rfl
    · have hb : (([c] : List UInt8) == [45]) = false := by simpa using h
      refine ⟨s, ?_, ?_⟩
      · simp only [hb, Option.bind_some]
        rfl
      · have : neg (c :: r) = false := by simpa [neg] using h
        rw [hl]
        unfold body
        rw [this]
        rfl
theorem written_loop (s t : ByteArray) (hz : t.size ≤ 140737488351232) : ∀ (j i : Nat), i + j = (bl t).length →
    Ev (fun k => num_written.l0 k s t (t.size : Int) (i : Int)) (((bl t).drop i).all isD && (decide (bl s = [48]) || lead (bl t))) := by
  intro j
  induction j with
  | zero =>
    intro i hi
    rw [List.drop_of_length_le (by omega), List.all_nil, Bool.true_and]
    refine Ev.step (f := fun _ => some (decide (bl s = [48]) || lead (bl t))) (fun k => ?_) (Ev.now _)
    have hs := bl_length t
    simp only [num_written.l0]
    rw [if_neg (by omega), toList_bl, toList_bl]
    by_cases h : bl s = [48]
    · rw [if_pos h, decide_eq_true h]; rfl
    · rw [if_neg h, decide_eq_false h]
      cases hl : bl t with
      | nil => rfl
      | cons c r =>
        have : t.size = r.length + 1 := by rw [← bl_length, hl]; rfl
        have hb := bt_at t 0 (by rw [hl]; simp)
        simp only [hl, List.getElem_cons_zero] at hb
        rw [if_neg (by simp), if_pos (by omega), show (0 : Int) = ((0 : Nat) : Int) from rfl, hb]
        congr 1
        show (((c.toNat : Nat) : Int) != 48) = (false || (c != 48))
        rw [Bool.false_or, Bool.eq_iff_iff, bne_iff_ne, bne_iff_ne, ne_eq, ne_eq, ← UInt8.toNat_inj]
        show ¬ (c.toNat : Int) = 48 ↔ ¬ c.toNat = 48
        omega
  | succ j ih =>
    intro i hi
    have hlt : i < (bl t).length := by omega
    have hs := bl_length t
    have hb := bt_at t i hlt
    rw [List.drop_eq_getElem_cons hlt, List.all_cons]
    have hlt2 := ((bl t)[i]).toNat_lt
    by_cases h : isD ((bl t)[i]) = true
    · rw [h, Bool.true_and]
      rw [isD_iff] at h
      refine Ev.step (fun k => ?_) (ih (i + 1) (by omega))
      simp only [num_written.l0]
      rw [if_pos (by omega), if_pos (by omega), if_pos (by omega), hb, if_neg (by omega), if_neg (by omega), wrap_id (by omega) (by omega)]
      rfl
    · rw [Bool.eq_false_iff.mpr h, Bool.false_and]
      rw [isD_iff] at h
      refine Ev.step (f := fun _ => some false) (fun k => ?_) (Ev.now _)
      simp only [num_written.l0]
      rw [if_pos (by omega), if_pos (by omega), if_pos (by omega), hb]
      by_cases h1 : (bl t)[i].toNat < 48
      · rw [if_pos (by omega)]
      · rw [if_neg (by omega), if_pos (by omega)]
theorem written_ev (s : ByteArray) (hz : s.size ≤ 140737488351232) : Ev (fun k => num_written.f k s) (wr (bl s)) := by
  obtain ⟨t, ht, hb⟩ := prefix_eq s hz
  have htz : t.size ≤ 140737488351232 := by
    rw [← bl_length, hb]
    unfold body
    split
    · rw [List.length_tail, bl_length]; omega
    · rw [bl_length]; exact hz
  unfold num_written.f wr
  rw [ht]
  simp only [Option.bind_some]
  have := written_loop s t htz (bl t).length 0 (by omega)
  rw [List.drop_zero, hb] at this
  exact this
def capR (n : Nat) : Lib.NumEnd Nat := if n ≤ 18446744073709551615 then Lib.NumEnd.ok n else Lib.NumEnd.range
theorem capR_ok {n : Nat} (h : n ≤ 18446744073709551615) : capR n = Lib.NumEnd.ok n := if_pos h
theorem capR_no {n : Nat} (h : ¬ n ≤ 18446744073709551615) : capR n = Lib.NumEnd.range := if_neg h
theorem step_digits (M acc : Nat) (c : UInt8) (l : List UInt8) (h : 48 ≤ c.toNat ∧ c.toNat ≤ 57) :
    Lib.parseUintM M acc (c :: l) = if 1844674407370955162 ≤ acc then .range else if M < acc * 10 + dn c then .range else Lib.parseUintM M (acc * 10 + dn c) l := by
  rw [Lib.parseUintM, if_pos h, dn_eq]
theorem vN_cons (acc : Nat) (c : UInt8) (l : List UInt8) : vN acc (c :: l) = vN (acc * 10 + dn c) l := by rw [vN]
theorem nil_digits (M acc : Nat) : Lib.parseUintM M acc [] = Lib.NumEnd.ok acc := by rw [Lib.parseUintM]
theorem parseUint_digits (M : Nat) (hM : M = 18446744073709551615) : ∀ (l : List UInt8) (h : l.all isD = true) (acc : Nat), acc ≤ M → Lib.parseUintM M acc l = capR (vN acc l)
  | [], h, acc, ha => by
    rw [nil_digits, show vN acc [] = acc from rfl, capR_ok (by omega)]
  | c :: l, h, acc, ha => by
    have ih := parseUint_digits M hM l
    rw [List.all_cons, Bool.and_eq_true, isD_iff] at h
    rw [step_digits M acc c l h.1, vN_cons]
    have hg := vN_ge l (acc * 10 + dn c)
    by_cases h1 : 1844674407370955162 ≤ acc
    · rw [if_pos h1, capR_no (by omega)]
    · rw [if_neg h1]
      by_cases h2 : M < acc * 10 + dn c
      · rw [if_pos h2, capR_no (by omega)]
      · rw [if_neg h2]
        exact ih h.2 _ (by omega)
instance (a : Int) : Decidable (I a) := inferInstanceAs (Decidable (_ ∧ _))
def pR (l : List UInt8) : Int × Int := if wr l = true then toldR (sg (vN 0 (body l) : Int) (neg l)) else (0, 2)
theorem parseInt_wr (l : List UInt8) (h : wr l = true) : Lib.parseIntB 64 l = if I (sg (vN 0 (body l) : Int) (neg l)) then .ok (sg (vN 0 (body l) : Int) (neg l)) else .range := by
  unfold wr at h
  rw [Bool.and_eq_true] at h
  obtain ⟨hd, hlead⟩ := h
  cases l with
  | nil => exact absurd hlead (by decide)
  | cons c r =>
    by_cases hc : c = 45
    · subst hc
      have hn : neg (45 :: r) = true := rfl
      have hb : body (45 :: r) = r := rfl
      rw [hb] at hd hlead ⊢
      rw [hn, Lib.parseIntB_minus, Lib.parseUintB]
      have hr : r ≠ [] := by
        intro e
        subst e
        exact absurd hlead (by decide)
      rw [if_neg hr, parseUint_digits (2 ^ 64 - 1) (by omega) r hd 0 (by omega)]
      unfold I sg
      simp only [if_true]
      by_cases h1 : vN 0 r ≤ 18446744073709551615
      · rw [capR_ok h1]
        simp only [Lib.signedC]
        by_cases h2 : 2 ^ (64 - 1) < vN 0 r
        · rw [if_pos h2, if_neg (by omega)]
        · rw [if_neg h2, if_pos (by omega)]
      · rw [capR_no h1, if_neg (by omega)]
        rfl
    · have hn : neg (c :: r) = false := by simpa [neg] using hc
      have hb : body (c :: r) = c :: r := by unfold body; rw [hn]; rfl
      rw [hb] at hd hlead ⊢
      have hcd : isD c = true := by rw [List.all_cons, Bool.and_eq_true] at hd; exact hd.1
      rw [isD_iff] at hcd
      rw [hn, Lib.parseIntB_plain 64 c r (by omega) (by omega), Lib.parseUintB, if_neg (by simp), parseUint_digits (2 ^ 64 - 1) (by omega) _ hd 0 (by omega)]
      unfold I sg
      simp only [Bool.false_eq_true, if_false]
      by_cases h1 : vN 0 (c :: r) ≤ 18446744073709551615
      · rw [capR_ok h1]
        simp only [Lib.signlessC]
        by_cases h2 : 2 ^ (64 - 1) ≤ vN 0 (c :: r)
        · rw [if_pos h2, if_neg (by omega)]
        · rw [if_neg h2, if_pos (by omega)]
      · rw [capR_no h1, if_neg (by omega)]
        rfl
theorem Parse_ev (s : ByteArray) (hz : s.size ≤ 140737488351232) : Ev (fun k => X.num_Parse.f k s) (pR (bl s)) := by
  unfold X.num_Parse.f
  refine Ev.bind (written_ev s hz) ?_
  simp only [if_pos hz]
  unfold pR
  by_cases h : wr (bl s) = true
  · simp only [if_pos h, parseInt_wr _ h]
    unfold toldR
    by_cases h2 : I (sg (vN 0 (body (bl s)) : Int) (neg (bl s)))
    · simp only [if_pos h2]
      unfold I at h2
      simp only [if_pos h2]
      exact Ev.now _
    · simp only [if_neg h2]
      unfold I at h2
      simp only [if_neg h2]
      exact Ev.now _
  · simp only [if_neg h]
    exact Ev.now _
end Go.Proofs.YtebekjenmoijhaaDoor.M
