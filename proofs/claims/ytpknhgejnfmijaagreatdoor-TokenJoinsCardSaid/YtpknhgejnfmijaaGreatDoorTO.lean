/- A text of the claim, with what no other text of it needs taken out. -/
import Derived.Test.YtpknhgejnfmijaaGreatDoorTN
import Derived.Test.YtpknhgejnfmijaaGreatDoorUQ
import Derived.Test.YtpknhgejnfmijaaGreatDoorPC14
namespace Go.Proofs.YtpknhgejnfmijaaGreatDoor.T
open Go.Proofs.YtpknhgejnfmijaaGreatDoor.M (wrap_id)
open Go Go.RowKit Go.Proofs.YtpknhgejnfmijaaGreatDoorW.PrintWords Go.Proofs.YtpknhgejnfmijaaGreatDoorW.PrintMore Go.Proofs.YtpknhgejnfmijaaGreatDoor.K Go.Proofs.YtpknhgejnfmijaaGreatDoor.PC Go.Proofs.YtpknhgejnfmijaaGreatDoor.X
set_option linter.unusedVariables false
set_option linter.unusedSimpArgs false
theorem rdA (l : List S38) (i : Nat) (h : i < l.length) : rd_T38 l (i : Int) = l[i] := by
  unfold rd_T38
  rw [Int.toNat_natCast, List.getD_eq_getElem?_getD, List.getElem?_eq_getElem h]
  rfl
theorem rdR (l : List S66) (i : Nat) (h : i < l.length) : rd_T66 l (i : Int) = l[i] := by
  unfold rd_T66
  rw [Int.toNat_natCast, List.getD_eq_getElem?_getD, List.getElem?_eq_getElem h]
  rfl
theorem rdT (l : List S33) (i : Nat) (h : i < l.length) : rd_T33 l (i : Int) = l[i] := by
  unfold rd_T33
  rw [Int.toNat_natCast, List.getD_eq_getElem?_getD, List.getElem?_eq_getElem h]
  rfl
theorem is_l0 (a0 : Int) (a1 : ByteArray) (l : List S38) (a3 : ByteArray) (a4 b0 : Int) (b1 : ByteArray) (m : List S66) (b3 : ByteArray) (b4 : Int) (hl : l.length = m.length) (hb : l.length ≤ 1000000)
    (h : ∀ i (h1 : i < l.length) (h2 : i < m.length), l[i].f0 = m[i].f0 ∧ l[i].f1 = m[i].f1) : ∀ (d i : Nat), i + d = l.length → Ev (fun k => w4_is.l0 k i a0 a1 l a3 a4 b0 b1 m b3 b4) true := by
  intro d
  induction d with
  | zero =>
    intro i hi
    refine Ev.step (f := fun _ => some true) (fun k => ?_) (Ev.now _)
    simp only [w4_is.l0]
    rw [if_neg (by omega)]
  | succ d ih =>
    intro i hi
    have h1 : i < l.length := by omega
    have h2 : i < m.length := by omega
    obtain ⟨e1, e2⟩ := h i h1 h2
    refine Ev.step (f := fun k => w4_is.l0 k ((i + 1 : Nat) : Int) a0 a1 l a3 a4 b0 b1 m b3 b4) (fun k => ?_) (ih (i + 1) (by omega))
    simp only [w4_is.l0]
    rw [if_pos (by omega), if_pos (by omega), if_pos (by omega), rdA l i h1, rdR m i h2, if_pos (by rw [e1]), if_pos (by rw [e2]), wrap_id (by omega) (by omega)]
    rfl
theorem is_ev (a0 : Int) (a1 : ByteArray) (l : List S38) (a3 : ByteArray) (a4 : Int) (m : List S66) (hl : l.length = m.length) (hb : l.length ≤ 1000000)
    (h : ∀ i (h1 : i < l.length) (h2 : i < m.length), l[i].f0 = m[i].f0 ∧ l[i].f1 = m[i].f1) : Ev (fun k => w4_is.f k a0 a1 l a3 a4 a0 a1 m a3 a4) true := by
  refine Ev.congr (f := fun k => w4_is.j0 k false a0 a1 l a3 a4 a0 a1 m a3 a4) (fun k => ?_) ?_
  · unfold w4_is.f
    rw [if_pos rfl, if_pos rfl, if_pos rfl, if_pos rfl, hl, show ((m.length : Int) != (m.length : Int)) = false from by simp]
  · refine Ev.step (f := fun k => w4_is.l0 k ((0 : Nat) : Int) a0 a1 l a3 a4 a0 a1 m a3 a4) (fun k => ?_) (is_l0 a0 a1 l a3 a4 a0 a1 m a3 a4 hl hb h l.length 0 (by omega))
    simp only [w4_is.j0]
    rw [if_neg (by simp)]
    rfl
def atR (a : S38) : S66 := ⟨a.f0, a.f1, 0⟩
structure Same (x y : List S33) (n : Int) : Prop where
  len : x.length = y.length
  small : x.length ≤ 1000000
  at_ : ∀ i (h1 : i < x.length) (h2 : i < y.length), x[i] = ⟨y[i].f0, y[i].f1, y[i].f2, y[i].f3, y[i].f4 + n⟩ ∧ y[i].f2.length ≤ 1000000 ∧ -9223372036854775808 ≤ y[i].f4 + n ∧ y[i].f4 + n ≤ 9223372036854775807
theorem same_l1 (x y : List S33) (n : Int) (hs : Same x y n) (i : Nat) (hi : i < x.length) (next : Ev (fun k => w4_same.l0 k x y n ((i + 1 : Nat) : Int)) true) :
    ∀ (d j : Nat), j + d = (y[i]'(by have := hs.len; omega)).f2.length → Ev (fun k => w4_same.l1 k x y n i j (y[i]'(by have := hs.len; omega)).f0 (y[i]'(by have := hs.len; omega)).f1 (((y[i]'(by have := hs.len; omega)).f2.take j).map atR) (y[i]'(by have := hs.len; omega)).f3 ((y[i]'(by have := hs.len; omega)).f4 + n)) true := by
  have hy : i < y.length := by have := hs.len; omega
  obtain ⟨e, b1, b2, b3⟩ := hs.at_ i hi hy
  have hsm := hs.small
  intro d
  induction d with
  | zero =>
    intro j hj
    have htk : (y[i].f2.take j).map atR = y[i].f2.map atR := by rw [List.take_of_length_le (by omega)]
    rw [htk]
    refine Ev.step (f := fun k => (w4_is.f k x[i].f0 x[i].f1 x[i].f2 x[i].f3 x[i].f4 y[i].f0 y[i].f1 (y[i].f2.map atR) y[i].f3 (y[i].f4 + n)).bind fun t311 => (if t311 = true then (w4_same.l0 k x y n ((i + 1 : Nat) : Int)) else (some false))) (fun k => ?_) ?_
    · simp only [w4_same.l1]
      rw [if_pos (by omega), if_pos (by omega), rdT y i hy, if_neg (by omega), if_pos (by omega), rdT x i hi, wrap_id (by omega) (by omega)]
      rfl
    · rw [e]
      refine Ev.bind (is_ev _ _ _ _ _ _ (by simp) b1 (fun j h1 h2 => by simp [atR])) ?_
      exact Ev.congr (fun k => by rw [if_pos rfl]) next
  | succ d ih =>
    intro j hj
    have hjl : j < y[i].f2.length := by omega
    refine Ev.step (f := fun k => w4_same.l1 k x y n i ((j + 1 : Nat) : Int) y[i].f0 y[i].f1 ((y[i].f2.take (j + 1)).map atR) y[i].f3 (y[i].f4 + n)) (fun k => ?_) (ih (j + 1) (by omega))
    simp only [w4_same.l1]
    rw [if_pos (by omega), if_pos (by omega), rdT y i hy, if_pos (by omega), if_pos (by omega), if_pos (by rw [List.length_map, List.length_take]; omega), rdA _ j hjl, wrap_id (by omega) (by omega), List.take_succ_eq_append_getElem hjl, List.map_append]
    rfl
theorem same_l0 (x y : List S33) (n : Int) (hs : Same x y n) : ∀ (d i : Nat), i + d = x.length → Ev (fun k => w4_same.l0 k x y n i) true := by
  intro d
  induction d with
  | zero =>
    intro i hi
    refine Ev.step (f := fun _ => some true) (fun k => ?_) (Ev.now _)
    simp only [w4_same.l0]
    rw [if_neg (by omega)]
  | succ d ih =>
    intro i hi
    have h1 : i < x.length := by omega
    have h2 : i < y.length := by have := hs.len; omega
    obtain ⟨_, _, b2, b3⟩ := hs.at_ i h1 h2
    refine Ev.step (f := fun k => w4_same.l1 k x y n i ((0 : Nat) : Int) y[i].f0 y[i].f1 ((y[i].f2.take 0).map atR) y[i].f3 (y[i].f4 + n)) (fun k => ?_) (same_l1 x y n hs i h1 (ih (i + 1) (by omega)) y[i].f2.length 0 (by omega))
    simp only [w4_same.l0]
    rw [if_pos (by omega), if_pos (by omega), if_pos (by omega), rdT y i h2, wrap_id (by omega) (by omega)]
    rfl
theorem same_ev (x y : List S33) (n : Int) (hs : Same x y n) : Ev (fun k => w4_same.f k x y n) true := by
  refine Ev.congr (fun k => ?_) (same_l0 x y n hs x.length 0 (by omega))
  unfold w4_same.f
  rw [if_pos (by have := hs.len; omega)]
  rfl
set_option maxRecDepth 100000 in
theorem works_ev : Ev (fun k => w4_works.f k) true := Ev.of (fun k => w4_works.mono k) (k := 2) (by decide +kernel)
theorem works_bind : Ev (fun k => (w4_works.f k).bind fun t => (some t)) true := Ev.bind works_ev (Ev.now _)
theorem tokensF_zero (al : Nat) : ∀ (k : Nat) (l : List UInt8) (acc : List Tok), ((tokensF al k l acc).2.2 = 0 → (tokensF al k l acc).2.1 = 0) ∧ (tokensF al k l acc).1.length ≤ acc.length + l.length := by
  intro k
  induction k with
  | zero => intro l acc; exact ⟨fun _ => rfl, by simp [tokensF]⟩
  | succ k ih =>
    intro l acc
    unfold tokensF
    by_cases h0 : l = []
    · rw [if_pos h0]; exact ⟨fun _ => rfl, by simp⟩
    · rw [if_neg h0]
      cases hr : remarkL l with
      | some r =>
        have := ih r acc
        have h2 := remark_lt l r hr
        exact ⟨this.1, by have := this.2; simp only; omega⟩
      | none =>
        simp only
        by_cases he : (tokenL al l).2.2.1 ≠ 0
        · rw [if_pos he]; exact ⟨fun h => absurd h he, by simp⟩
        · rw [if_neg he]
          have h3 := token_lt al l h0 (by omega)
          have := ih (tokenL al l).2.2.2 (acc ++ [(tokenL al l).1])
          exact ⟨this.1, by have := this.2; rw [List.length_append, List.length_singleton] at this; omega⟩
theorem tokensL_zero (s : List UInt8) : ((tokensL s).2.2 = 0 → (tokensL s).2.1 = 0) ∧ (tokensL s).1.length ≤ s.length := by
  unfold tokensL
  split
  · exact ⟨fun h => by simp at h, by simp⟩
  · split
    · exact ⟨fun h => by simp at h, by simp⟩
    · have := tokensF_zero s.length s.length s []
      exact ⟨this.1, by simpa using this.2⟩
theorem same_self (x : List Tok) (s : List UInt8) (hs : s.length ≤ 800) (hx : x.length ≤ s.length) (hok : ∀ t ∈ x, OkTok s t) (n : Nat) (hn : n ≤ 800) : Same ((x.map (sh n)).map tokS) (x.map tokS) n := by
  refine ⟨by simp, by simp; omega, fun i h1 h2 => ?_⟩
  have hi : i < x.length := by simpa using h2
  have ok := hok x[i] (List.getElem_mem hi)
  have h3 := ok.lt
  have h4 := ok.most
  simp only [List.getElem_map]
  refine ⟨?_, ?_, ?_, ?_⟩
  · simp only [tokS, sh]
    congr 1
    omega
  · simp only [tokS, List.length_map]; omega
  · simp only [tokS]; omega
  · simp only [tokS]; omega
theorem sh_zero (x : List Tok) : x.map (sh 0) = x := by
  have : sh 0 = id := by funext t; simp [sh]
  rw [this, List.map_id]
theorem valid_app (a b : List UInt8) (ha : (U.validR a).2 = 0) (hb : (U.validR b).2 = 0) : (U.validR (a ++ b)).2 = 0 := by
  have key : ∀ l : List UInt8, (U.validR l).2 = 0 ↔ ¬ (U.R l).2 < l.length := by
    intro l
    unfold U.validR
    split <;> simp_all
  have hRa := (U.R_le a.length a (Nat.le_refl _)).1
  have hRb := (U.R_le b.length b (Nat.le_refl _)).1
  rw [key] at ha hb ⊢
  have e := E.R_append a.length a b (Nat.le_refl _) (by unfold E.Ok; omega)
  rw [e, List.length_append]
  simp only
  omega
theorem law_TokenJoins (a b : ByteArray) (ha : a.size ≤ 140737488351232) (hb : b.size ≤ 140737488351232) : Ev (fun k => w4_TokenJoins.f k a b) true := by
  unfold w4_TokenJoins.f
  refine Ev.bind (U.ref_Valid_ev a ha) (Ev.bind (U.ref_Valid_ev b hb) ?_)
  have yes : Ev (fun k => w4_TokenJoins.j0 k a b true) true := Ev.step (fun k => by simp only [w4_TokenJoins.j0]; rw [if_pos trivial]) works_bind
  by_cases h1 : (a.size : Int) > 400
  · exact Ev.congr (fun k => by rw [if_pos h1]) yes
  by_cases h2 : (b.size : Int) > 400
  · exact Ev.congr (fun k => by rw [if_neg h1, if_pos h2]) yes
  by_cases h3 : b.toList = ([] : List UInt8)
  · exact Ev.congr (fun k => by rw [if_neg h1, if_neg h2, if_pos h3]) yes
  have hbl := U.bl_length b
  have hal := U.bl_length a
  obtain ⟨q, t, hqt⟩ : ∃ q t, U.bl b = q :: t := by
    cases h : U.bl b with
    | nil => exact absurd ((U.toList_bl b).trans h) h3
    | cons q t => exact ⟨q, t, rfl⟩
  have h4 : 0 < (b.size : Int) := by rw [hqt] at hbl; simp at hbl; omega
  by_cases h5 : (bt b 0) = 60
  case neg => exact Ev.congr (fun k => by rw [if_neg h1, if_neg h2, if_neg h3, if_pos h4, if_neg h5]) yes
  by_cases h6 : (U.validR (U.bl a)).2 = 0
  case neg => exact Ev.congr (fun k => by rw [if_neg h1, if_neg h2, if_neg h3, if_pos h4, if_pos h5, if_neg h6]) yes
  refine Ev.congr (f := fun k => w4_TokenJoins.j0 k a b ((U.validR (U.bl b)).2 != 0)) (fun k => by rw [if_neg h1, if_neg h2, if_neg h3, if_pos h4, if_pos h5, if_pos h6]) ?_
  by_cases h7 : (U.validR (U.bl b)).2 = 0
  case neg => rw [show ((U.validR (U.bl b)).2 != 0) = true by simpa using h7]; exact yes
  rw [show ((U.validR (U.bl b)).2 != 0) = false by simpa using h7]
  have hq : q = 60 := by
    have hbt := M.bt_at b 0 (show 0 < (U.bl b).length by omega)
    rw [show (M.bl b)[0]'(show 0 < (U.bl b).length by omega) = q from List.getElem_of_eq hqt _] at hbt
    have h5' : bt b ((0 : Nat) : Int) = 60 := h5
    have h60 : (60 : UInt8).toNat = 60 := rfl
    exact UInt8.toNat_inj.mp (by omega)
  subst hq
  obtain ⟨hza, hca⟩ := tokensL_zero (U.bl a)
  obtain ⟨hzb, hcb⟩ := tokensL_zero (U.bl b)
  obtain ⟨hpa, _, _, hoka⟩ := tokensL_ok (U.bl a) (by omega)
  obtain ⟨hpb, hnb, _, hokb⟩ := tokensL_ok (U.bl b) (by omega)
  have hjoin := tokensL_app (U.bl a) (U.bl b) (tokensL (U.bl a)).1 (by omega) (by omega) (by rw [hqt]; rfl) h6 h7 (valid_app _ _ h6 h7)
  have hab : (a ++ b).data.toList = U.bl a ++ U.bl b := U.bl_append a b
  refine Ev.step (f := fun k => (if ((tokensL (U.bl a)).2.2 : Int) = 0 then (if a.size + b.size ≤ 9223372036854775807 then (if ((tokensL (U.bl b)).2.2 : Int) = 0 then (if ((tokensL (U.bl a ++ U.bl b)).2.2 : Int) = 0 then (if ((tokensL (U.bl a ++ U.bl b)).2.1 : Int) = 0 then (if ((((tokensL (U.bl a ++ U.bl b)).1.map tokS).length : Int)) = (wrap64 ((((tokensL (U.bl a)).1.map tokS).length : Int) + (((tokensL (U.bl b)).1.map tokS).length : Int))) then (if 0 ≤ (((tokensL (U.bl a)).1.map tokS).length : Int) then (if (((tokensL (U.bl a)).1.map tokS).length : Int) ≤ (((tokensL (U.bl a ++ U.bl b)).1.map tokS).length : Int) then ((w4_same.f k (((tokensL (U.bl a ++ U.bl b)).1.map tokS).take ((((tokensL (U.bl a)).1.map tokS).length : Int) : Int).toNat) ((tokensL (U.bl a)).1.map tokS) 0).bind fun t337 => (if t337 = true then ((w4_same.f k (((tokensL (U.bl a ++ U.bl b)).1.map tokS).drop ((((tokensL (U.bl a)).1.map tokS).length : Int) : Int).toNat) ((tokensL (U.bl b)).1.map tokS) (a.size : Int)).bind fun t342 => (if t342 = true then ((w4_works.f k).bind fun t343 => (some t343)) else (some false))) else (some false))) else (none)) else (none)) else (some false)) else (some false)) else (some false)) else (if (((tokensL (U.bl a ++ U.bl b)).1.map tokS).length : Int) = 0 then (if ((tokensL (U.bl a ++ U.bl b)).2.2 : Int) = ((tokensL (U.bl b)).2.2 : Int) then (if ((tokensL (U.bl a ++ U.bl b)).2.1 : Int) = (wrap64 ((a.size : Int) + ((tokensL (U.bl b)).2.1 : Int))) then ((w4_works.f k).bind fun t344 => (some t344)) else (some false)) else (some false)) else (some false))) else (none)) else ((w4_works.f k).bind fun t322 => (some t322)))) (fun k => ?_) ?_
  · simp only [w4_TokenJoins.j0]
    rw [if_neg (by simp)]
    simp only [token_Tokens.f, hab, Option.bind_some]
  by_cases ea : (tokensL (U.bl a)).2.2 = 0
  case neg => exact Ev.congr (fun k => by rw [if_neg (by omega)]) works_bind
  have hA : tokensL (U.bl a) = ((tokensL (U.bl a)).1, 0, 0) := Prod.ext rfl (Prod.ext (hza ea) ea)
  rw [hjoin hA]
  simp only [ea]
  generalize (tokensL (U.bl a)).1 = x at hca hoka
  generalize tokensL (U.bl b) = Y at hzb hcb hpb hnb hokb
  obtain ⟨y, p, e⟩ := Y
  simp only at hzb hcb hpb hnb hokb
  by_cases eb : e = 0
  · subst eb
    simp only [ne_eq, not_true_eq_false, if_false]
    have hS0 := same_self x (U.bl a) (by omega) hca hoka 0 (by omega)
    rw [sh_zero] at hS0
    have hS1 := same_self y (U.bl b) (by omega) hcb hokb (U.bl a).length (by omega)
    have e1 : ((x ++ y.map (sh (U.bl a).length)).map tokS).take x.length = x.map tokS := by rw [List.map_append, List.take_left' (by simp)]
    have e2 : ((x ++ y.map (sh (U.bl a).length)).map tokS).drop x.length = (y.map (sh (U.bl a).length)).map tokS := by rw [List.map_append, List.drop_left' (by simp)]
    refine Ev.congr (f := fun k => ((w4_same.f k (x.map tokS) (x.map tokS) ((0 : Nat) : Int)).bind fun t337 => (if t337 = true then ((w4_same.f k ((y.map (sh (U.bl a).length)).map tokS) (y.map tokS) (((U.bl a).length : Nat) : Int)).bind fun t342 => (if t342 = true then ((w4_works.f k).bind fun t343 => (some t343)) else (some false))) else (some false)))) (fun k => ?_) ?_
    · rw [if_pos (by simp), if_pos (by omega), if_pos (by simp), if_pos (by simp), if_pos (by simp), if_pos (by simp only [List.length_map, List.length_append]; rw [wrap_id (by omega) (by omega)]; simp), if_pos (by omega), if_pos (by simp only [List.length_map, List.length_append]; omega)]
      simp only [List.length_map, Int.toNat_natCast]
      rw [e1, e2, hal]
      rfl
    · refine Ev.bind (same_ev _ _ _ hS0) ?_
      refine Ev.congr (fun k => by rw [if_pos rfl]) (Ev.bind (same_ev _ _ _ hS1) ?_)
      exact Ev.congr (fun k => by rw [if_pos rfl]) works_bind
  · simp only [ne_eq, eb, not_false_eq_true, if_true]
    refine Ev.congr (fun k => ?_) works_bind
    rw [if_pos (by simp), if_pos (by omega), if_neg (by omega), if_pos (by simp), if_pos (by rw [wrap_id (by omega) (by omega)]; omega)]
end Go.Proofs.YtpknhgejnfmijaaGreatDoor.T
