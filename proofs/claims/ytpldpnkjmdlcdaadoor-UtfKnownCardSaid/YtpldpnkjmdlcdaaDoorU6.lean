/- The closed statement of the stage utf, in plain Lean. -/
import Derived.Test.YtpldpnkjmdlcdaaDoorU5
namespace Go.Proofs.YtpldpnkjmdlcdaaDoor.U
open Go Go.RowKit Go.Proofs.YtpldpnkjmdlcdaaDoorW.PrintWords Go.Proofs.YtpldpnkjmdlcdaaDoor.PU
set_option linter.unusedVariables false
set_option linter.unusedSimpArgs false

theorem known_l2_end (k : Nat) (l : List Int) (n i : Int) (h : ¬ i < n) (a : hopscotchlaw01_UtfValid.f k (⟨#[]⟩ : ByteArray) = some true) (b : hopscotchlaw01_UtfNext.f k (⟨#[]⟩ : ByteArray) = some true) (c : hopscotchlaw01_UtfPieces.f k (⟨#[240, 144, 128]⟩ : ByteArray) (⟨#[97]⟩ : ByteArray) = some true) :
    hopscotchlaw01_UtfKnown.l2 (k + 1) l n i = some true := by
  simp only [hopscotchlaw01_UtfKnown.l2]
  rw [if_neg h, a, Option.bind_some, if_pos rfl, b, Option.bind_some, if_pos rfl, c, Option.bind_some, if_pos rfl, works]
  rfl

theorem known_l2_go (k : Nat) (l : List Int) (n i c : Int) (p : ByteArray) (h : i < n) (h0 : 0 ≤ i) (hl : i < (l.length : Int)) (hc : rd l i = c) (hp : X.utf_Put.f c = some p) (hz : p.size ≤ 4)
    (a : hopscotchlaw01_UtfPut.f k c (⟨#[128]⟩ : ByteArray) = some true) (b : hopscotchlaw01_UtfPut.f k c (⟨#[]⟩ : ByteArray) = some true)
    (d : hopscotchlaw01_UtfPieces.f k (p ++ (⟨#[97]⟩ : ByteArray)) p = some true) (e : hopscotchlaw01_UtfValid.f k (p ++ (⟨#[237, 160, 128]⟩ : ByteArray)) = some true) :
    hopscotchlaw01_UtfKnown.l2 (k + 1) l n i = hopscotchlaw01_UtfKnown.l2 k l n (wrap64 (i + 1)) := by
  simp only [hopscotchlaw01_UtfKnown.l2]
  rw [if_pos h, if_pos h0, if_pos hl, hc, a, Option.bind_some, if_pos rfl, b, Option.bind_some, if_pos rfl, hp, Option.bind_some, if_pos (by omega), Option.bind_some, d, Option.bind_some, if_pos rfl, Option.bind_some, if_pos (by omega), e, Option.bind_some, if_pos rfl]

theorem put_size (c : Int) (p : ByteArray) (h : X.utf_Put.f c = some p) : p.size ≤ 4 := by
  rw [utf_Put_eq] at h
  have h' := Option.some.inj h
  rw [← h']
  split
  · rw [← bl_length, bl_mk, enc_length]
    repeat' split
    all_goals omega
  · exact Nat.zero_le _

theorem known_l2 (l : List Int) (hl : l.length ≤ 1000) (hb : ∀ x ∈ l, -2147483648 ≤ x ∧ x ≤ 2147483647) : ∀ (d i : Nat), i + d = l.length → Ev (fun k => hopscotchlaw01_UtfKnown.l2 k l (l.length : Int) i) true := by
  intro d
  induction d with
  | zero =>
    intro i hi
    obtain ⟨K1, h1⟩ := law_UtfValid (⟨#[]⟩ : ByteArray)
    obtain ⟨K2, h2⟩ := law_UtfNext (⟨#[]⟩ : ByteArray)
    obtain ⟨K3, h3⟩ := law_UtfPieces (⟨#[240, 144, 128]⟩ : ByteArray) (⟨#[97]⟩ : ByteArray)
    refine ⟨max K1 (max K2 K3) + 1, fun k hk => ?_⟩
    obtain ⟨k, rfl⟩ : ∃ m, k = m + 1 := ⟨k - 1, by omega⟩
    exact known_l2_end k l _ _ (by omega) (h1 k (by omega)) (h2 k (by omega)) (h3 k (by omega))
  | succ d ih =>
    intro i hi
    have hx := hb (rd l i) (by
      unfold rd
      rw [Int.toNat_natCast, List.getD, List.getElem?_eq_getElem (by omega)]
      exact List.getElem_mem _)
    obtain ⟨p, hp⟩ : ∃ p, X.utf_Put.f (rd l i) = some p := ⟨_, utf_Put_eq _⟩
    obtain ⟨K1, h1⟩ := law_UtfPut (rd l i) (⟨#[128]⟩ : ByteArray) hx
    obtain ⟨K2, h2⟩ := law_UtfPut (rd l i) (⟨#[]⟩ : ByteArray) hx
    obtain ⟨K3, h3⟩ := law_UtfPieces (p ++ (⟨#[97]⟩ : ByteArray)) p
    obtain ⟨K4, h4⟩ := law_UtfValid (p ++ (⟨#[237, 160, 128]⟩ : ByteArray))
    obtain ⟨K5, h5⟩ := ih (i + 1) (by omega)
    refine ⟨max K1 (max K2 (max K3 (max K4 K5))) + 1, fun k hk => ?_⟩
    obtain ⟨k, rfl⟩ : ∃ m, k = m + 1 := ⟨k - 1, by omega⟩
    refine (known_l2_go k l _ _ _ p (by omega) (by omega) (by omega) rfl hp (put_size _ p hp) (h1 k (by omega)) (h2 k (by omega)) (h3 k (by omega)) (h4 k (by omega))).trans ?_
    rw [wrap_id (by omega) (by omega)]
    exact h5 k (by omega)

theorem known_l1_go (k : Nat) (a b : Int) (h : b < 256) (e : hopscotchlaw01_UtfNext.f k (strOfNums ([a % 256, b % 256, 128, 191] : List Int)) = some true) :
    hopscotchlaw01_UtfKnown.l1 (k + 1) a b = hopscotchlaw01_UtfKnown.l1 k a (wrap64 ((wrap64 (b + 1)) + (Int.tmod a 3))) := by
  simp only [hopscotchlaw01_UtfKnown.l1]
  rw [if_pos h, e, Option.bind_some, if_pos rfl]

theorem known_l1 (a : Nat) (ha : a < 256) (next : Ev (fun k => hopscotchlaw01_UtfKnown.l0 k ((a + 1 : Nat) : Int)) true) : ∀ (d b : Nat), 256 ≤ b + d → b ≤ 300 → Ev (fun k => hopscotchlaw01_UtfKnown.l1 k a b) true := by
  intro d
  induction d with
  | zero =>
    intro b hb hb3
    refine Ev.step (fun k => ?_) next
    simp only [hopscotchlaw01_UtfKnown.l1]
    rw [if_neg (by omega), wrap_id (by omega) (by omega)]
    rfl
  | succ d ih =>
    intro b hb hb3
    by_cases h : b < 256
    · have hm : Int.tmod (a : Int) 3 = ((a % 3 : Nat) : Int) := by rw [Int.tmod_eq_emod_of_nonneg (by omega)]; rfl
      obtain ⟨K1, h1⟩ := law_UtfNext (strOfNums ([(a : Int) % 256, (b : Int) % 256, 128, 191] : List Int))
      obtain ⟨K2, h2⟩ := ih (b + 1 + a % 3) (by omega) (by omega)
      refine ⟨max K1 K2 + 1, fun k hk => ?_⟩
      obtain ⟨k, rfl⟩ : ∃ m, k = m + 1 := ⟨k - 1, by omega⟩
      refine (known_l1_go k a b (by omega) (h1 k (by omega))).trans ?_
      rw [hm, wrap_id (n := (b : Int) + 1) (by omega) (by omega), wrap_id (by omega) (by omega)]
      exact h2 k (by omega)
    · refine Ev.step (fun k => ?_) next
      simp only [hopscotchlaw01_UtfKnown.l1]
      rw [if_neg (by omega), wrap_id (by omega) (by omega)]
      rfl

theorem known_l0 : ∀ (d a : Nat), a + d = 256 → Ev (fun k => hopscotchlaw01_UtfKnown.l0 k a) true := by
  intro d
  induction d with
  | zero =>
    intro a ha
    refine Ev.step (fun k => ?_) (known_l2 [(-2147483648), (-1), 0, 8, 9, 10, 11, 13, 14, 31, 32, 127, 128, 2047, 2048, 55295, 55296, 57343, 57344, 65533, 65534, 65535, 65536, 1114111, 1114112, 2147483647] (by decide) (by decide) 26 0 rfl)
    simp only [hopscotchlaw01_UtfKnown.l0]
    rw [if_neg (by omega)]
    rfl
  | succ d ih =>
    intro a ha
    refine Ev.step (fun k => ?_) (known_l1 a (by omega) (ih (a + 1) (by omega)) 256 0 (by omega) (by omega))
    simp only [hopscotchlaw01_UtfKnown.l0]
    rw [if_pos (by omega)]
    rfl

theorem law_UtfKnown : Ev (fun k => hopscotchlaw01_UtfKnown.f k) true :=
  Ev.congr (fun k => rfl) (known_l0 256 0 rfl)
end Go.Proofs.YtpldpnkjmdlcdaaDoor.U
