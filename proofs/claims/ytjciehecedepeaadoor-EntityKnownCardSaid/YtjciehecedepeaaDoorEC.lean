/- A text of the claim, with what no other text of it needs taken out. -/
import Derived.Test.YtjciehecedepeaaDoorEB
import Derived.Test.YtjciehecedepeaaDoorUQ
import Derived.Test.YtjciehecedepeaaDoorPE2
namespace Go.Proofs.YtjciehecedepeaaDoor.E
open Go Go.RowKit Go.Proofs.YtjciehecedepeaaDoorW.PrintWords Go.Proofs.YtjciehecedepeaaDoor.U Go.Proofs.YtjciehecedepeaaDoor.PU Go.Proofs.YtjciehecedepeaaDoor.PE
set_option linter.unusedVariables false
set_option linter.unusedSimpArgs false
theorem beg_eq (s t : ByteArray) (hs : s.size ≤ 140737488351232) : hopscotchref03_begins.f s t = some (beg (bl s) (bl t)) := by
  unfold hopscotchref03_begins.f
  by_cases h : t.size ≤ s.size
  · rw [if_pos (by omega), if_pos (by omega), if_pos (by omega)]
    congr 1
    rw [toList_bl, toList_bl, bl_extract, List.drop_zero, Nat.sub_zero, Int.toNat_natCast, Bool.eq_iff_iff, beq_iff_eq, beg_iff]
    constructor
    · intro e
      exact ⟨(bl s).drop t.size, by rw [← e, List.take_append_drop]⟩
    · rintro ⟨r, hr⟩
      rw [hr, List.take_left' (by rw [bl_length])]
  · rw [if_neg (by omega)]
    congr 1
    symm
    rw [Bool.eq_false_iff]
    intro e
    obtain ⟨r, hr⟩ := (beg_iff _ _).mp e
    have := congrArg List.length hr
    rw [List.length_append, bl_length, bl_length] at this
    omega
def digI (c : UInt8) : Int := if dig c = 99 then -1 else (dig c : Int)
theorem dig_ev (c : UInt8) : Ev (fun k => hopscotchref03_digit.f k (c.toNat : Int)) (digI c) := by
  have hc := c.toNat_lt
  unfold digI dig
  unfold hopscotchref03_digit.f
  by_cases h1 : 48 ≤ c.toNat ∧ c.toNat ≤ 57
  · refine Ev.congr (f := fun k => hopscotchref03_digit.j0 k (c.toNat : Int) true) (fun k => ?_) (Ev.step (f := fun _ => some (((c.toNat - 48 : Nat)) : Int)) (fun k => ?_) ?_)
    · rw [if_pos (by omega), decide_eq_true (by omega)]
    · simp only [hopscotchref03_digit.j0]
      rw [if_pos trivial]
      congr 1
      omega
    · rw [if_pos h1, if_neg (by omega)]
      exact Ev.now _
  · refine Ev.congr (f := fun k => hopscotchref03_digit.j0 k (c.toNat : Int) false) (fun k => ?_) ?_
    · by_cases h2 : 48 ≤ c.toNat
      · rw [if_pos (by omega), decide_eq_false (by omega)]
      · rw [if_neg (by omega)]
    · rw [if_neg h1]
      by_cases h2 : 97 ≤ c.toNat ∧ c.toNat ≤ 102
      · refine Ev.step (f := fun k => hopscotchref03_digit.j1 k (c.toNat : Int) true) (fun k => ?_) (Ev.step (f := fun _ => some (((c.toNat - 87 : Nat)) : Int)) (fun k => ?_) ?_)
        · simp only [hopscotchref03_digit.j0]
          rw [if_neg (by simp), if_pos (by omega), decide_eq_true (by omega)]
        · simp only [hopscotchref03_digit.j1]
          rw [if_pos trivial]
          congr 1
          omega
        · rw [if_pos h2, if_neg (by omega)]
          exact Ev.now _
      · rw [if_neg h2]
        refine Ev.step (f := fun k => hopscotchref03_digit.j1 k (c.toNat : Int) false) (fun k => ?_) ?_
        · simp only [hopscotchref03_digit.j0]
          rw [if_neg (by simp)]
          by_cases h3 : 97 ≤ c.toNat
          · rw [if_pos (by omega), decide_eq_false (by omega)]
          · rw [if_neg (by omega)]
        · by_cases h4 : 65 ≤ c.toNat ∧ c.toNat ≤ 70
          · refine Ev.step (f := fun _ => some (((c.toNat - 55 : Nat)) : Int)) (fun k => ?_) ?_
            · simp only [hopscotchref03_digit.j1]
              rw [if_neg (by simp), if_pos (by omega), if_pos (by omega)]
              congr 1
              omega
            · rw [if_pos h4, if_neg (by omega)]
              exact Ev.now _
          · refine Ev.step (f := fun _ => some (-1)) (fun k => ?_) ?_
            · simp only [hopscotchref03_digit.j1]
              rw [if_neg (by simp)]
              by_cases h5 : 65 ≤ c.toNat
              · rw [if_pos (by omega), if_neg (by omega)]
              · rw [if_neg (by omega)]
            · rw [if_neg h4, if_pos rfl]
              exact Ev.now _
theorem ref_put (n : Nat) : hopscotchref01_Put.f (n : Int) = some ⟨(put n).toArray⟩ := by
  rw [ref_Put_eq, X.isI_nat, Int.toNat_natCast]
  unfold put
  split
  · rfl
  · rfl
theorem bt_at (s : ByteArray) (i : Nat) (c : UInt8) (h : (bl s)[i]? = some c) : bt s (i : Int) = (c.toNat : Int) := by
  rw [bt_bl, List.getD, h]
  rfl
def stopI (s : ByteArray) (n i : Nat) : Option (ByteArray × Int) := if (i : Int) = 0 then (some ((⟨#[]⟩ : ByteArray), 0)) else (if (i : Int) ≥ (s.size : Int) then (some ((⟨#[]⟩ : ByteArray), 0)) else (if (bt s (i : Int)) = 59 then ((hopscotchref01_Put.f n).bind fun t => (some (t, (i : Int)))) else (some ((⟨#[]⟩ : ByteArray), 0))))
def goI (k : Nat) (s : ByteArray) (b m n i : Nat) : Option (ByteArray × Int) :=
  (hopscotchref03_digit.f k (bt s (i : Int))).bind fun t117 => if t117 ≥ 0 then ((hopscotchref03_digit.f k (bt s (i : Int))).bind fun t118 => (if t118 < (b : Int) then ((hopscotchref03_digit.f k (bt s (i : Int))).bind fun t119 => (hopscotchref03_number.l0 k s b m (wrap64 ((wrap64 ((n : Int) * b)) + t119)) (wrap64 ((i : Int) + 1)))) else stopI s n i)) else stopI s n i
theorem l0_go (k : Nat) (s : ByteArray) (b m n i : Nat) (h : i < s.size) (hm : i < m) : hopscotchref03_number.l0 (k + 1) s b m n i = goI k s b m n i := by
  simp only [hopscotchref03_number.l0]
  rw [if_pos (by omega), if_pos (by omega), if_pos (by omega)]
  rfl
theorem l0_stop (k : Nat) (s : ByteArray) (b m n i : Nat) (h : i < s.size) (hm : ¬ i < m) : hopscotchref03_number.l0 (k + 1) s b m n i = stopI s n i := by
  simp only [hopscotchref03_number.l0]
  rw [if_pos (by omega), if_neg (by omega)]
  unfold stopI
  by_cases h0 : (i : Int) = 0
  · rw [if_pos h0, if_pos h0]
  · have hge : ¬ ((i : Int) ≥ (s.size : Int)) := by omega
    rw [if_neg h0, if_neg h0, if_neg hge, if_neg hge, if_pos (show (0 : Int) ≤ (i : Int) by omega)]
theorem l0_end (k : Nat) (s : ByteArray) (b m n i : Nat) (h : ¬ i < s.size) : hopscotchref03_number.l0 (k + 1) s b m n i = some ((⟨#[]⟩ : ByteArray), 0) := by
  simp only [hopscotchref03_number.l0]
  rw [if_neg (by omega)]
  by_cases h0 : (i : Int) = 0
  · rw [if_pos h0]
  · rw [if_neg h0, if_pos (by omega)]
theorem semi_ne (c : UInt8) (h : c ≠ 59) : ¬ (c.toNat : Int) = 59 := by
  intro e
  exact h (UInt8.toNat_inj.mp (by have : (59 : UInt8).toNat = 59 := rfl; omega))
theorem stop_eq (s : ByteArray) (n i : Nat) (c : UInt8) (h : i < s.size) (hbt : bt s (i : Int) = (c.toNat : Int)) :
    stopI s n i = some ((⟨(if i = 0 then (([], 0) : List UInt8 × Nat) else if c = 59 then (put n, i) else ([], 0)).1.toArray⟩ : ByteArray), ((if i = 0 then (([], 0) : List UInt8 × Nat) else if c = 59 then (put n, i) else ([], 0)).2 : Int)) := by
  unfold stopI
  by_cases h0 : i = 0
  · rw [if_pos (by omega), if_pos h0]
    rfl
  · rw [if_neg (by omega), if_neg h0, if_neg (by omega), hbt]
    by_cases h59 : c = 59
    · subst h59
      rw [if_pos (by rfl), if_pos rfl, ref_put]
      rfl
    · rw [if_neg (semi_ne c h59), if_neg h59]
      rfl
theorem num_next (b n : Nat) (hb : b ≤ 16) (hn : n < 268435456) (d : Nat) (hd : d < 99) : wrap64 ((wrap64 ((n : Int) * b)) + (d : Int)) = ((n * b + d : Nat) : Int) := by
  have hmul : n * b ≤ n * 16 := Nat.mul_le_mul_left n hb
  have e1 : ((n : Int) * (b : Int)) = ((n * b : Nat) : Int) := by push_cast; rfl
  rw [e1]
  generalize n * b = q at hmul
  rw [wrap_id (n := (q : Int)) (by omega) (by omega), wrap_id (by omega) (by omega)]
  push_cast
  rfl
theorem i_next (i : Nat) (h : i ≤ 140737488351232) : wrap64 ((i : Int) + 1) = ((i + 1 : Nat) : Int) := by rw [wrap_id (by omega) (by omega)]; push_cast; rfl
theorem goI_stop99 (s : ByteArray) (b m n i : Nat) (c : UInt8) (hbt : bt s (i : Int) = (c.toNat : Int)) (h : dig c = 99 ∨ b ≤ dig c) (r : ByteArray × Int) (hr : stopI s n i = some r) : Ev (fun k => goI k s b m n i) r := by
  unfold goI
  rw [hbt]
  refine Ev.bind (dig_ev c) ?_
  by_cases h99 : dig c = 99
  · have e : digI c = -1 := by unfold digI; rw [if_pos h99]
    refine Ev.congr (f := fun _ => stopI s n i) (fun k => ?_) (by rw [hr]; exact Ev.now r)
    rw [e]
    exact if_neg (by omega)
  · have e : digI c = (dig c : Int) := by unfold digI; rw [if_neg h99]
    rw [e]
    refine Ev.congr (f := fun k => (hopscotchref03_digit.f k (c.toNat : Int)).bind fun t118 => (if t118 < (b : Int) then ((hopscotchref03_digit.f k (c.toNat : Int)).bind fun t119 => (hopscotchref03_number.l0 k s b m (wrap64 ((wrap64 ((n : Int) * b)) + t119)) (wrap64 ((i : Int) + 1)))) else stopI s n i)) (fun k => if_pos (by omega)) ?_
    refine Ev.bind (dig_ev c) ?_
    rw [e]
    exact Ev.congr (f := fun _ => stopI s n i) (fun k => if_neg (by omega)) (by rw [hr]; exact Ev.now r)
theorem goI_on (s : ByteArray) (b m n i : Nat) (hb : b ≤ 16) (hn : n < 268435456) (hi : i ≤ 140737488351232) (c : UInt8) (hbt : bt s (i : Int) = (c.toNat : Int)) (h : dig c < b) (r : ByteArray × Int) (hr : Ev (fun k => hopscotchref03_number.l0 k s b m ((n * b + dig c : Nat) : Int) ((i + 1 : Nat) : Int)) r) : Ev (fun k => goI k s b m n i) r := by
  unfold goI
  rw [hbt]
  have e : digI c = (dig c : Int) := by unfold digI; rw [if_neg (by omega)]
  refine Ev.bind (dig_ev c) ?_
  rw [e]
  refine Ev.congr (f := fun k => (hopscotchref03_digit.f k (c.toNat : Int)).bind fun t118 => (if t118 < (b : Int) then ((hopscotchref03_digit.f k (c.toNat : Int)).bind fun t119 => (hopscotchref03_number.l0 k s b m (wrap64 ((wrap64 ((n : Int) * b)) + t119)) (wrap64 ((i : Int) + 1)))) else stopI s n i)) (fun k => if_pos (by omega)) ?_
  refine Ev.bind (dig_ev c) ?_
  rw [e]
  refine Ev.congr (f := fun k => (hopscotchref03_digit.f k (c.toNat : Int)).bind fun t119 => (hopscotchref03_number.l0 k s b m (wrap64 ((wrap64 ((n : Int) * b)) + t119)) (wrap64 ((i : Int) + 1)))) (fun k => if_pos (by omega)) ?_
  refine Ev.bind (dig_ev c) ?_
  rw [e, num_next b n hb hn (dig c) (by omega), i_next i hi]
  exact hr
theorem number_from (s : ByteArray) (hz : s.size ≤ 140737488351232) (b m : Nat) (hb : b ≤ 16) (hm : m ≤ 7) : ∀ (d i n : Nat), i + d = s.size → i ≤ m → n < 16 ^ i →
    Ev (fun k => hopscotchref03_number.l0 k s b m n i) ((⟨(numF b m n i ((bl s).drop i)).1.toArray⟩ : ByteArray), ((numF b m n i ((bl s).drop i)).2 : Int)) := by
  intro d
  induction d with
  | zero =>
    intro i n hi him hn
    have he : (bl s).drop i = [] := List.drop_of_length_le (by rw [bl_length]; omega)
    rw [he]
    exact Ev.step (f := fun _ => some ((⟨#[]⟩ : ByteArray), 0)) (fun k => l0_end k s b m n i (by omega)) (Ev.now _)
  | succ d ih =>
    intro i n hi him hn
    have hil : i < (bl s).length := by rw [bl_length]; omega
    obtain ⟨c, hc⟩ : ∃ c, (bl s)[i]? = some c := ⟨_, List.getElem?_eq_getElem hil⟩
    have hdr : (bl s).drop i = c :: (bl s).drop (i + 1) := by
      rw [List.drop_eq_getElem_cons hil]
      congr 1
      have := List.getElem?_eq_getElem hil
      rw [hc] at this
      exact (Option.some.inj this).symm
    have hbt := bt_at s i c hc
    have hn7 : n < 268435456 := by
      have := Nat.pow_le_pow_right (n := 16) (by omega) (show i ≤ 7 by omega)
      have e : (16 : Nat) ^ 7 = 268435456 := by decide
      omega
    have hst := stop_eq s n i c (by omega) hbt
    rw [hdr]
    simp only [numF]
    by_cases hm2 : i < m
    · refine Ev.step (fun k => l0_go k s b m n i (by omega) hm2) ?_
      by_cases hd : dig c < b
      · rw [if_pos ⟨hm2, hd⟩]
        have hmul : n * b ≤ n * 16 := Nat.mul_le_mul_left n hb
        exact goI_on s b m n i hb hn7 (by omega) c hbt hd _ (ih (i + 1) (n * b + dig c) (by omega) (by omega) (by rw [Nat.pow_succ]; omega))
      · rw [if_neg (fun x => hd x.2)]
        exact goI_stop99 s b m n i c hbt (.inr (by omega)) _ hst
    · rw [if_neg (fun x => hm2 x.1)]
      refine Ev.step (f := fun _ => stopI s n i) (fun k => l0_stop k s b m n i (by omega) hm2) ?_
      rw [hst]
      exact Ev.now _
theorem number_ev (s : ByteArray) (hz : s.size ≤ 140737488351232) (b m : Nat) (hb : b ≤ 16) (hm : m ≤ 7) :
    Ev (fun k => hopscotchref03_number.f k s b m) ((⟨(numF b m 0 0 (bl s)).1.toArray⟩ : ByteArray), ((numF b m 0 0 (bl s)).2 : Int)) :=
  number_from s hz b m hb hm s.size 0 0 (by omega) (by omega) (by decide)
end Go.Proofs.YtjciehecedepeaaDoor.E
