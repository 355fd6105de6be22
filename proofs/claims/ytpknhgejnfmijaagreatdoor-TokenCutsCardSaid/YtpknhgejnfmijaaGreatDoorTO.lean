/- A text of the claim, with what no other text of it needs taken out. -/
import Derived.Test.YtpknhgejnfmijaaGreatDoorTN
import Derived.Test.YtpknhgejnfmijaaGreatDoorUQ
import Derived.Test.YtpknhgejnfmijaaGreatDoorPC2
import Derived.Test.YtpknhgejnfmijaaGreatDoorPC11
import Derived.Test.YtpknhgejnfmijaaGreatDoorTJ
namespace Go.Proofs.YtpknhgejnfmijaaGreatDoor.T
open Go.Proofs.YtpknhgejnfmijaaGreatDoor.M (wrap_id)
open Go Go.RowKit Go.Proofs.YtpknhgejnfmijaaGreatDoorW.PrintWords Go.Proofs.YtpknhgejnfmijaaGreatDoorW.PrintMore Go.Proofs.YtpknhgejnfmijaaGreatDoor.K Go.Proofs.YtpknhgejnfmijaaGreatDoor.PC Go.Proofs.YtpknhgejnfmijaaGreatDoor.X
set_option linter.unusedVariables false
set_option linter.unusedSimpArgs false
theorem rdA (l : List S38) (i : Nat) (h : i < l.length) : rd_T38 l (i : Int) = l[i] := by
  unfold rd_T38
  rw [Int.toNat_natCast, List.getD_eq_getElem?_getD, List.getElem?_eq_getElem h]
  rfl
theorem rdR (l : List S66) (i : Nat) (h : i < l.length) : rd_T66 l (i : Int) = l[i] := by
  unfold rd_T66
  rw [Int.toNat_natCast, List.getD_eq_getElem?_getD, List.getElem?_eq_getElem h]
  rfl
theorem is_l0 (a0 : Int) (a1 : ByteArray) (l : List S38) (a3 : ByteArray) (a4 b0 : Int) (b1 : ByteArray) (m : List S66) (b3 : ByteArray) (b4 : Int) (hl : l.length = m.length) (hb : l.length ≤ 1000000)
    (h : ∀ i (h1 : i < l.length) (h2 : i < m.length), l[i].f0 = m[i].f0 ∧ l[i].f1 = m[i].f1) : ∀ (d i : Nat), i + d = l.length → Ev (fun k => w4_is.l0 k i a0 a1 l a3 a4 b0 b1 m b3 b4) true := by
  intro d
  induction d with
  | zero =>
    intro i hi
    refine Ev.step (f := fun _ => some true) (fun k => ?_) (Ev.now _)
    simp only [w4_is.l0]
    rw [if_neg (by omega)]
  | succ d ih =>
    intro i hi
    have h1 : i < l.length := by omega
    have h2 : i < m.length := by omega
    obtain ⟨e1, e2⟩ := h i h1 h2
    refine Ev.step (f := fun k => w4_is.l0 k ((i + 1 : Nat) : Int) a0 a1 l a3 a4 b0 b1 m b3 b4) (fun k => ?_) (ih (i + 1) (by omega))
    simp only [w4_is.l0]
    rw [if_pos (by omega), if_pos (by omega), if_pos (by omega), rdA l i h1, rdR m i h2, if_pos (by rw [e1]), if_pos (by rw [e2]), wrap_id (by omega) (by omega)]
    rfl
theorem is_ev (a0 : Int) (a1 : ByteArray) (l : List S38) (a3 : ByteArray) (a4 : Int) (m : List S66) (hl : l.length = m.length) (hb : l.length ≤ 1000000)
    (h : ∀ i (h1 : i < l.length) (h2 : i < m.length), l[i].f0 = m[i].f0 ∧ l[i].f1 = m[i].f1) : Ev (fun k => w4_is.f k a0 a1 l a3 a4 a0 a1 m a3 a4) true := by
  refine Ev.congr (f := fun k => w4_is.j0 k false a0 a1 l a3 a4 a0 a1 m a3 a4) (fun k => ?_) ?_
  · unfold w4_is.f
    rw [if_pos rfl, if_pos rfl, if_pos rfl, if_pos rfl, hl, show ((m.length : Int) != (m.length : Int)) = false from by simp]
  · refine Ev.step (f := fun k => w4_is.l0 k ((0 : Nat) : Int) a0 a1 l a3 a4 a0 a1 m a3 a4) (fun k => ?_) (is_l0 a0 a1 l a3 a4 a0 a1 m a3 a4 hl hb h l.length 0 (by omega))
    simp only [w4_is.j0]
    rw [if_neg (by simp)]
    rfl
structure Same (x y : List S33) (n : Int) : Prop where
  len : x.length = y.length
  small : x.length ≤ 1000000
  at_ : ∀ i (h1 : i < x.length) (h2 : i < y.length), x[i] = ⟨y[i].f0, y[i].f1, y[i].f2, y[i].f3, y[i].f4 + n⟩ ∧ y[i].f2.length ≤ 1000000 ∧ -9223372036854775808 ≤ y[i].f4 + n ∧ y[i].f4 + n ≤ 9223372036854775807
set_option maxRecDepth 100000 in
theorem works_ev : Ev (fun k => w4_works.f k) true := Ev.of (fun k => w4_works.mono k) (k := 2) (by decide +kernel)
theorem works_bind : Ev (fun k => (w4_works.f k).bind fun t => (some t)) true := Ev.bind works_ev (Ev.now _)
theorem tokensF_zero (al : Nat) : ∀ (k : Nat) (l : List UInt8) (acc : List Tok), ((tokensF al k l acc).2.2 = 0 → (tokensF al k l acc).2.1 = 0) ∧ (tokensF al k l acc).1.length ≤ acc.length + l.length := by
  intro k
  induction k with
  | zero => intro l acc; exact ⟨fun _ => rfl, by simp [tokensF]⟩
  | succ k ih =>
    intro l acc
    unfold tokensF
    by_cases h0 : l = []
    · rw [if_pos h0]; exact ⟨fun _ => rfl, by simp⟩
    · rw [if_neg h0]
      cases hr : remarkL l with
      | some r =>
        have := ih r acc
        have h2 := remark_lt l r hr
        exact ⟨this.1, by have := this.2; simp only; omega⟩
      | none =>
        simp only
        by_cases he : (tokenL al l).2.2.1 ≠ 0
        · rw [if_pos he]; exact ⟨fun h => absurd h he, by simp⟩
        · rw [if_neg he]
          have h3 := token_lt al l h0 (by omega)
          have := ih (tokenL al l).2.2.2 (acc ++ [(tokenL al l).1])
          exact ⟨this.1, by have := this.2; rw [List.length_append, List.length_singleton] at this; omega⟩
theorem tokensL_zero (s : List UInt8) : ((tokensL s).2.2 = 0 → (tokensL s).2.1 = 0) ∧ (tokensL s).1.length ≤ s.length := by
  unfold tokensL
  split
  · exact ⟨fun h => by simp at h, by simp⟩
  · split
    · exact ⟨fun h => by simp at h, by simp⟩
    · have := tokensF_zero s.length s.length s []
      exact ⟨this.1, by simpa using this.2⟩
end Go.Proofs.YtpknhgejnfmijaaGreatDoor.T
