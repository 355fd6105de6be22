/- Texts of the claim, with what no other text of it needs taken out. -/
import Derived.Test.YtpknhgejnfmijaaGreatDoorTN
import Derived.Test.YtpknhgejnfmijaaGreatDoorUQ
import Derived.Test.YtpknhgejnfmijaaGreatDoorND
import Derived.Test.YtpknhgejnfmijaaGreatDoorPC11
import Derived.Test.YtpknhgejnfmijaaGreatDoorPC9
import Derived.Test.YtpknhgejnfmijaaGreatDoorPC10
import Derived.Test.YtpknhgejnfmijaaGreatDoorEB
import Derived.Test.YtpknhgejnfmijaaGreatDoorPC6
import Derived.Test.YtpknhgejnfmijaaGreatDoorEV
import Derived.Test.YtpknhgejnfmijaaGreatDoorTO
import Derived.Test.YtpknhgejnfmijaaGreatDoorPC12
section
namespace Go.Proofs.YtpknhgejnfmijaaGreatDoor.T
open Go.Proofs.YtpknhgejnfmijaaGreatDoor.M (wrap_id)
open Go.Proofs.YtpknhgejnfmijaaGreatDoor.U (bl bl_length bl_extract toList_bl)
open Go Go.RowKit Go.Proofs.YtpknhgejnfmijaaGreatDoorW.PrintWords Go.Proofs.YtpknhgejnfmijaaGreatDoorW.PrintMore Go.Proofs.YtpknhgejnfmijaaGreatDoor.K Go.Proofs.YtpknhgejnfmijaaGreatDoor.PC Go.Proofs.YtpknhgejnfmijaaGreatDoor.X
set_option linter.unusedVariables false
set_option linter.unusedSimpArgs false
theorem btA (s : ByteArray) (i : Nat) (h : i < (bl s).length) : bt s (i : Int) = (((bl s)[i]).toNat : Int) := M.bt_at s i h
theorem has_eq (s t : ByteArray) (p : Nat) (hz : s.size ≤ 1000000) (ht0 : 0 < t.size) (ht : t.size ≤ 1000) (hp : p ≤ 1000010) : r4_has.f s (p : Int) t = some ((bl t).isPrefixOf ((bl s).drop p)) := by
  unfold r4_has.f
  have hs := bl_length s
  have htl := bl_length t
  rw [wrap_id (by omega) (by omega)]
  by_cases h : p + t.size ≤ s.size
  · rw [if_pos (by omega), if_pos (by omega), if_pos (by omega)]
    congr 1
    rw [toList_bl, toList_bl, bl_extract, Bool.eq_iff_iff, beq_iff_eq, List.isPrefixOf_iff_prefix]
    rw [show (((p : Int) + (t.size : Int)).toNat - (p : Int).toNat) = (bl t).length by omega, show (p : Int).toNat = p by omega]
    rw [List.prefix_iff_eq_take]
    exact eq_comm
  · rw [if_neg (by omega)]
    congr 1
    symm
    rw [Bool.eq_false_iff]
    intro e
    have := (List.isPrefixOf_iff_prefix.mp e).length_le
    rw [List.length_drop] at this
    omega
def findL (t : List UInt8) : List UInt8 → Option Nat
  | [] => none
  | c :: l => if t.isPrefixOf (c :: l) = true then some 0 else (findL t l).map (· + 1)
theorem findL_lt (t : List UInt8) : ∀ (l : List UInt8) (i : Nat), findL t l = some i → i < l.length ∧ t.isPrefixOf (l.drop i) = true := by
  intro l
  induction l with
  | nil => intro i h; cases h
  | cons c l ih =>
    intro i h
    simp only [findL] at h
    split at h
    · cases h; rename_i hp; exact ⟨by simp, hp⟩
    · cases hf : findL t l with
      | none => rw [hf] at h; cases h
      | some j =>
        rw [hf] at h
        cases h
        obtain ⟨h1, h2⟩ := ih j hf
        exact ⟨by simp; omega, h2⟩
theorem behind_find (t : List UInt8) : ∀ l : List UInt8, behind t l = (findL t l).map fun i => l.drop (i + t.length) := by
  intro l
  induction l with
  | nil => rfl
  | cons c l ih =>
    simp only [behind, findL]
    by_cases h : t.isPrefixOf (c :: l) = true
    · rw [if_pos h, if_pos h]
      simp
    · rw [if_neg h, if_neg h, ih]
      cases findL t l with
      | none => rfl
      | some i => simp [Nat.add_right_comm i 1]
theorem one_prefix (q c : UInt8) (l : List UInt8) : [q].isPrefixOf (c :: l) = (q == c) := by simp [List.isPrefixOf]
theorem cutAt_find (q : UInt8) : ∀ l : List UInt8, cutAt q l = (findL [q] l).map fun i => (l.take i, l.drop (i + 1)) := by
  intro l
  induction l with
  | nil => rfl
  | cons c l ih =>
    simp only [cutAt, findL]
    rw [one_prefix]
    by_cases h : c = q
    · subst h
      simp
    · have h2 : (q == c) = false := by simpa using fun e : q = c => h e.symm
      rw [if_neg h, h2, ih]
      cases findL [q] l with
      | none => rfl
      | some i => simp
theorem while_find : ∀ l : List UInt8, l.takeWhile (· ≠ 60) = l.take ((findL [60] l).getD l.length) ∧ l.dropWhile (· ≠ 60) = l.drop ((findL [60] l).getD l.length) := by
  intro l
  induction l with
  | nil => exact ⟨rfl, rfl⟩
  | cons c l ih =>
    simp only [findL]
    rw [one_prefix]
    by_cases h : c = 60
    · subst h
      exact ⟨by simp, by simp⟩
    · have h2 : ((60 : UInt8) == c) = false := by simpa using fun e : 60 = c => h e.symm
      have hp : (fun x : UInt8 => decide (x ≠ 60)) c = true := by simpa using h
      rw [h2, List.takeWhile_cons_of_pos (p := fun x : UInt8 => decide (x ≠ 60)) hp, List.dropWhile_cons_of_pos (p := fun x : UInt8 => decide (x ≠ 60)) hp, ih.1, ih.2]
      cases findL [60] l with
      | none => simp
      | some i => simp
def findI (s t : ByteArray) (p : Nat) : Int := match findL (bl t) ((bl s).drop p) with | some i => ((p + i : Nat) : Int) | none => -1
theorem find_ev (s t : ByteArray) (hz : s.size ≤ 1000000) (ht0 : 0 < t.size) (ht : t.size ≤ 1000) : ∀ (d p : Nat), p ≤ 1000010 → s.size - p = d → Ev (fun k => r4_find.f k s (p : Int) t) (findI s t p) := by
  have hs := bl_length s
  intro d
  induction d with
  | zero =>
    intro p hp hd
    have e : findI s t p = -1 := by
      unfold findI
      rw [List.drop_of_length_le (by omega)]
      rfl
    rw [e]
    refine Ev.step (f := fun _ => some (-1)) (fun k => ?_) (Ev.now _)
    simp only [r4_find.f, r4_find.l0]
    rw [if_neg (by omega)]
  | succ d ih =>
    intro p hp hd
    have hlt : p < (bl s).length := by omega
    have e : findI s t p = if (bl t).isPrefixOf ((bl s).drop p) = true then (p : Int) else findI s t (p + 1) := by
      unfold findI
      rw [List.drop_eq_getElem_cons hlt]
      simp only [findL]
      by_cases h : (bl t).isPrefixOf ((bl s)[p] :: (bl s).drop (p + 1)) = true
      · rw [if_pos h, if_pos h]; rfl
      · rw [if_neg h, if_neg h]
        cases findL (bl t) ((bl s).drop (p + 1)) with
        | none => rfl
        | some i => simp; omega
    rw [e]
    refine Ev.step (f := fun k => if (bl t).isPrefixOf ((bl s).drop p) = true then some (p : Int) else r4_find.f k s ((p + 1 : Nat) : Int) t) (fun k => ?_) ?_
    · simp only [r4_find.f, r4_find.l0]
      rw [if_pos (by omega), has_eq s t p hz ht0 ht (by omega), Option.bind_some, wrap_id (by omega) (by omega)]
      rfl
    · by_cases h : (bl t).isPrefixOf ((bl s).drop p) = true
      · rw [if_pos h]
        exact Ev.congr (fun k => by rw [if_pos h]) (Ev.now _)
      · rw [if_neg h]
        exact Ev.congr (fun k => by rw [if_neg h]) (ih (p + 1) (by omega) (by omega))
theorem blank_all : ∀ b : Fin 256, r4_blank.f (b.val : Int) = some (blank (UInt8.ofNat b.val)) := by decide +kernel
theorem blank_eq (b : UInt8) : r4_blank.f (b.toNat : Int) = some (blank b) := by
  have := blank_all ⟨b.toNat, b.toNat_lt⟩
  simpa using this
def nb (l : List UInt8) : Nat := l.length - (skipB l).length
theorem nb_cons (c : UInt8) (l : List UInt8) : nb (c :: l) = if blank c = true then nb l + 1 else 0 := by
  unfold nb skipB
  by_cases h : blank c = true
  · rw [if_pos h, List.dropWhile_cons_of_pos h]
    have := (List.dropWhile_suffix (l := l) blank).length_le
    simp only [List.length_cons]
    omega
  · rw [if_neg h, List.dropWhile_cons_of_neg h]
    omega
theorem skip_drop : ∀ l : List UInt8, skipB l = l.drop (nb l) := by
  intro l
  induction l with
  | nil => rfl
  | cons c l ih =>
    rw [nb_cons]
    by_cases h : blank c = true
    · rw [if_pos h, List.drop_succ_cons, ← ih]
      unfold skipB
      rw [List.dropWhile_cons_of_pos h]
    · rw [if_neg h]
      unfold skipB
      rw [List.dropWhile_cons_of_neg h]
      rfl
theorem nb_le (l : List UInt8) : nb l ≤ l.length := by unfold nb; omega
theorem blanks_l0 (s : ByteArray) (hz : s.size ≤ 1000000) (p : Nat) (hp : p ≤ s.size) : ∀ (d n : Nat), p + n + d = s.size → Ev (fun k => r4_blanks.l0 k s (p : Int) (n : Int)) ((n + nb ((bl s).drop (p + n)) : Nat) : Int) := by
  have hs := bl_length s
  intro d
  induction d with
  | zero =>
    intro n hn
    rw [List.drop_of_length_le (by omega)]
    refine Ev.step (f := fun _ => some (n : Int)) (fun k => ?_) (Ev.now _)
    simp only [r4_blanks.l0]
    rw [wrap_id (by omega) (by omega), if_neg (by omega)]
  | succ d ih =>
    intro n hn
    have hlt : p + n < (bl s).length := by omega
    have hbt : bt s ((p : Int) + (n : Int)) = (((bl s)[p + n]).toNat : Int) := by
      have := btA s (p + n) hlt
      rw [← this]
      congr 1
    rw [List.drop_eq_getElem_cons hlt, nb_cons]
    refine Ev.step (f := fun k => if blank ((bl s)[p + n]) = true then r4_blanks.l0 k s (p : Int) ((n + 1 : Nat) : Int) else some (n : Int)) (fun k => ?_) ?_
    · simp only [r4_blanks.l0]
      rw [wrap_id (by omega) (by omega), if_pos (by omega), if_pos (by omega), hbt, blank_eq, Option.bind_some, wrap_id (by omega) (by omega)]
      rfl
    · by_cases h : blank ((bl s)[p + n]) = true
      · rw [if_pos h]
        refine Ev.congr (fun k => by rw [if_pos h]) ?_
        have := ih (n + 1) (by omega)
        rw [show n + (nb ((bl s).drop (p + n + 1)) + 1) = n + 1 + nb ((bl s).drop (p + (n + 1))) by rw [show p + n + 1 = p + (n + 1) by omega]; omega]
        exact this
      · rw [if_neg h]
        exact Ev.congr (fun k => by rw [if_neg h]; rfl) (Ev.now _)
theorem blanks_ev (s : ByteArray) (hz : s.size ≤ 1000000) (p : Nat) (hp : p ≤ s.size) : Ev (fun k => r4_blanks.f k s (p : Int)) ((nb ((bl s).drop p) : Nat) : Int) := by
  have := blanks_l0 s hz p hp (s.size - p) 0 (by omega)
  simp only [Nat.add_zero, Nat.zero_add] at this
  exact this
theorem Blank_ev (s : ByteArray) (hz : s.size ≤ 140737488351232) : Ev (fun k => r4_Blank.f k s) ((bl s).all blank) := by
  have hs := bl_length s
  have key : ∀ (d i : Nat), i + d = s.size → Ev (fun k => r4_Blank.l0 k s (i : Int)) (((bl s).drop i).all blank) := by
    intro d
    induction d with
    | zero =>
      intro i hi
      rw [List.drop_of_length_le (by omega)]
      refine Ev.step (f := fun _ => some true) (fun k => ?_) (Ev.now _)
      simp only [r4_Blank.l0]
      rw [if_neg (by omega)]
    | succ d ih =>
      intro i hi
      have hlt : i < (bl s).length := by omega
      rw [List.drop_eq_getElem_cons hlt, List.all_cons]
      refine Ev.step (f := fun k => if blank ((bl s)[i]) = true then r4_Blank.l0 k s ((i + 1 : Nat) : Int) else some false) (fun k => ?_) ?_
      · simp only [r4_Blank.l0]
        rw [if_pos (by omega), if_pos (by omega), btA s i hlt, blank_eq, Option.bind_some, wrap_id (by omega) (by omega)]
        rfl
      · by_cases h : blank ((bl s)[i]) = true
        · rw [h, Bool.true_and]
          exact Ev.congr (fun k => by rw [if_pos rfl]) (ih (i + 1) (by omega))
        · rw [Bool.eq_false_iff.mpr h, Bool.false_and]
          exact ⟨0, fun k _ => by simp⟩
  exact key s.size 0 (by omega)
end Go.Proofs.YtpknhgejnfmijaaGreatDoor.T
end
section
namespace Go.Proofs.YtpknhgejnfmijaaGreatDoor.T
open Go.Proofs.YtpknhgejnfmijaaGreatDoor.M (wrap_id)
open Go.Proofs.YtpknhgejnfmijaaGreatDoor.U (bl bl_length bl_extract toList_bl bl_from bl_inj)
open Go Go.RowKit Go.Proofs.YtpknhgejnfmijaaGreatDoorW.PrintWords Go.Proofs.YtpknhgejnfmijaaGreatDoorW.PrintMore Go.Proofs.YtpknhgejnfmijaaGreatDoor.K Go.Proofs.YtpknhgejnfmijaaGreatDoor.PC Go.Proofs.YtpknhgejnfmijaaGreatDoor.X
set_option linter.unusedVariables false
set_option linter.unusedSimpArgs false
theorem drop_at (s : ByteArray) (p n : Nat) : ((bl s).drop p).drop n = (bl s).drop (p + n) := by rw [List.drop_drop]
theorem len_at (s : ByteArray) (p : Nat) : ((bl s).drop p).length = s.size - p := by rw [List.length_drop, bl_length]
theorem find_len (t l : List UInt8) (i : Nat) (h : findL t l = some i) : i + t.length ≤ l.length := by
  have := (List.isPrefixOf_iff_prefix.mp (findL_lt t l i h).2).length_le
  have := (findL_lt t l i h).1
  rw [List.length_drop] at *
  omega
def remN (l : List UInt8) : Nat := match remarkL l with | some r => l.length - r.length | none => 0
theorem remark_ev (s : ByteArray) (hz : s.size ≤ 1000000) (p : Nat) (hp : p ≤ s.size) : Ev (fun k => r4_remark.f k s (p : Int)) ((remN ((bl s).drop p) : Nat) : Int) := by
  have hl := len_at s p
  have h1 := has_eq s ⟨#[60, 33, 45, 45]⟩ p hz (by decide) (by decide) (by omega)
  have h2 := has_eq s ⟨#[60, 63]⟩ p hz (by decide) (by decide) (by omega)
  rw [show bl ⟨#[60, 33, 45, 45]⟩ = [60, 33, 45, 45] from rfl] at h1
  rw [show bl ⟨#[60, 63]⟩ = [60, 63] from rfl] at h2
  have hj0 : Ev (fun k => r4_remark.j0 k s (p : Int)) (((if [60, 63].isPrefixOf ((bl s).drop p) = true then (match findL [63, 62] (((bl s).drop p).drop 2) with | some i => 2 + i + 2 | none => 0) else 0 : Nat)) : Int) := by
    refine Ev.step (f := fun k => if [60, 63].isPrefixOf ((bl s).drop p) = true then ((r4_find.f k s ((p + 2 : Nat) : Int) (⟨#[63, 62]⟩ : ByteArray)).bind fun t184 => (if t184 ≥ 0 then (some (wrap64 ((wrap64 (t184 + 2)) - (p : Int)))) else (some 0))) else some 0) (fun k => ?_) ?_
    · simp only [r4_remark.j0]
      rw [h2, Option.bind_some, wrap_id (by omega) (by omega)]
      rfl
    · by_cases hc : [60, 63].isPrefixOf ((bl s).drop p) = true
      · rw [if_pos hc]
        refine Ev.congr (fun k => by rw [if_pos hc]) (Ev.bind (find_ev s ⟨#[63, 62]⟩ hz (by decide) (by decide) (s.size - (p + 2)) (p + 2) (by omega) rfl) ?_)
        unfold findI
        rw [show bl ⟨#[63, 62]⟩ = [63, 62] from rfl, drop_at]
        cases hf : findL [63, 62] ((bl s).drop (p + 2)) with
        | none =>
          simp only
          exact Ev.congr (fun k => by first | (rw [if_neg (by decide)]; done) | (rw [if_neg (by decide)]; rfl)) (Ev.now _)
        | some i =>
          have := find_len _ _ _ hf
          rw [len_at] at this
          simp only [List.length_cons, List.length_nil] at this
          refine Ev.congr (fun k => ?_) (Ev.now _)
          simp only
          rw [if_pos (by omega), wrap_id (n := ((p + 2 + i : Nat) : Int) + 2) (by omega) (by omega), wrap_id (by omega) (by omega)]
          congr 1
          omega
      · rw [if_neg hc]
        exact Ev.congr (fun k => by rw [if_neg hc]; rfl) (Ev.now _)
  have hrem : remN ((bl s).drop p) = if [60, 33, 45, 45].isPrefixOf ((bl s).drop p) = true then (match findL [45, 45, 62] (((bl s).drop p).drop 4) with | some i => 4 + i + 3 | none => 0) else if [60, 63].isPrefixOf ((bl s).drop p) = true then (match findL [63, 62] (((bl s).drop p).drop 2) with | some i => 2 + i + 2 | none => 0) else 0 := by
    unfold remN remarkL
    by_cases hc : [60, 33, 45, 45].isPrefixOf ((bl s).drop p) = true
    · have hc4 := (List.isPrefixOf_iff_prefix.mp hc).length_le
      rw [if_pos hc, if_pos hc, behind_find]
      cases hf : findL [45, 45, 62] (((bl s).drop p).drop 4) with
      | none => rfl
      | some i =>
        have := find_len _ _ _ hf
        simp only [Option.map_some, List.length_drop, List.length_cons, List.length_nil] at this hc4 ⊢
        omega
    · rw [if_neg hc, if_neg hc]
      by_cases hc2 : [60, 63].isPrefixOf ((bl s).drop p) = true
      · have hc4 := (List.isPrefixOf_iff_prefix.mp hc2).length_le
        rw [if_pos hc2, if_pos hc2, behind_find]
        cases hf : findL [63, 62] (((bl s).drop p).drop 2) with
        | none => rfl
        | some i =>
          have := find_len _ _ _ hf
          simp only [Option.map_some, List.length_drop, List.length_cons, List.length_nil] at this hc4 ⊢
          omega
      · rw [if_neg hc2, if_neg hc2]
  rw [hrem]
  refine Ev.congr (f := fun k => if [60, 33, 45, 45].isPrefixOf ((bl s).drop p) = true then ((r4_find.f k s ((p + 4 : Nat) : Int) (⟨#[45, 45, 62]⟩ : ByteArray)).bind fun t182 => (if t182 ≥ 0 then (some (wrap64 ((wrap64 (t182 + 3)) - (p : Int)))) else (r4_remark.j0 k s (p : Int)))) else r4_remark.j0 k s (p : Int)) (fun k => ?_) ?_
  · unfold r4_remark.f
    rw [h1, Option.bind_some, wrap_id (by omega) (by omega)]
    rfl
  · by_cases hc : [60, 33, 45, 45].isPrefixOf ((bl s).drop p) = true
    · have hn2 : ¬ [60, 63].isPrefixOf ((bl s).drop p) = true := by
        obtain ⟨r, hr⟩ := List.isPrefixOf_iff_prefix.mp hc
        rw [← hr]
        simp [List.isPrefixOf]
      rw [if_pos hc]
      rw [if_neg hn2] at hj0
      refine Ev.congr (fun k => by rw [if_pos hc]) (Ev.bind (find_ev s ⟨#[45, 45, 62]⟩ hz (by decide) (by decide) (s.size - (p + 4)) (p + 4) (by omega) rfl) ?_)
      unfold findI
      rw [show bl ⟨#[45, 45, 62]⟩ = [45, 45, 62] from rfl, drop_at]
      cases hf : findL [45, 45, 62] ((bl s).drop (p + 4)) with
      | none =>
        simp only
        exact Ev.congr (fun k => by first | (rw [if_neg (by decide)]; done) | (rw [if_neg (by decide)]; rfl)) hj0
      | some i =>
        have := find_len _ _ _ hf
        rw [len_at] at this
        simp only [List.length_cons, List.length_nil] at this
        refine Ev.congr (fun k => ?_) (Ev.now _)
        simp only
        rw [if_pos (by omega), wrap_id (n := ((p + 4 + i : Nat) : Int) + 3) (by omega) (by omega), wrap_id (by omega) (by omega)]
        congr 1
        omega
    · rw [if_neg hc]
      exact Ev.congr (fun k => by rw [if_neg hc]) hj0
theorem mk_bl (s : ByteArray) : (⟨(bl s).toArray⟩ : ByteArray) = s := bl_inj rfl
theorem ex_eq (s : ByteArray) (a b : Nat) : s.extract a b = ⟨(((bl s).drop a).take (b - a)).toArray⟩ := bl_inj (by rw [bl_extract])
def attR (s : ByteArray) (l : List UInt8) (o : Option (Raw × List UInt8)) : ByteArray × ByteArray × Int × Int :=
  match o with
  | none => (⟨#[]⟩, ⟨#[]⟩, 0, 0)
  | some (a, r) => (⟨a.name.toArray⟩, ⟨a.value.toArray⟩, ((s.size - a.left : Nat) : Int), ((l.length - r.length : Nat) : Int))
theorem attr_l0 (s : ByteArray) (hz : s.size ≤ 1000000) (p n j e : Nat) (hpn : p + n ≤ s.size) (hje : j + e + 1 ≤ s.size) (hj : p ≤ j) : ∀ (d i : Nat), i + d = e →
    Ev (fun k => r4_attribute.l0 k s p n j ((j + 1 + e : Nat) : Int) ((j + 1 + i : Nat) : Int)) (if (60 : UInt8) ∈ (((bl s).drop (j + 1)).take e).drop i then (⟨#[]⟩, ⟨#[]⟩, 0, 0) else (s.extract p (p + n), s.extract (j + 1) (j + 1 + e), ((j + 1 : Nat) : Int), ((j + 1 + e + 1 - p : Nat) : Int))) := by
  have hs := bl_length s
  intro d
  induction d with
  | zero =>
    intro i hi
    rw [List.drop_of_length_le (by rw [List.length_take]; omega), if_neg (by simp)]
    refine Ev.step (f := fun _ => some (s.extract p (p + n), s.extract (j + 1) (j + 1 + e), ((j + 1 : Nat) : Int), ((j + 1 + e + 1 - p : Nat) : Int))) (fun k => ?_) (Ev.now _)
    simp only [r4_attribute.l0]
    rw [if_neg (by omega), if_pos (by omega), wrap_id (by omega) (by omega), wrap_id (by omega) (by omega), wrap_id (n := ((j + 1 + e : Nat) : Int) + 1) (by omega) (by omega), wrap_id (by omega) (by omega), if_pos (by omega), if_pos (by omega), if_pos (by omega), if_pos (by omega), if_pos (by omega)]
    congr 1
    rw [show ((p : Int)).toNat = p by omega, show ((p : Int) + (n : Int)).toNat = p + n by omega, show ((j : Int) + 1).toNat = j + 1 by omega, show (((j + 1 + e : Nat) : Int)).toNat = j + 1 + e by omega]
    refine Prod.ext rfl (Prod.ext rfl (Prod.ext ?_ ?_))
    · simp only; omega
    · simp only; omega
  | succ d ih =>
    intro i hi
    have hlt : j + 1 + i < (bl s).length := by omega
    have hget : ((((bl s).drop (j + 1)).take e).drop i) = (bl s)[j + 1 + i] :: (((bl s).drop (j + 1)).take e).drop (i + 1) := by
      have h1 : i < (((bl s).drop (j + 1)).take e).length := by rw [List.length_take, List.length_drop]; omega
      rw [List.drop_eq_getElem_cons h1]
      congr 1
      rw [List.getElem_take, List.getElem_drop]
    rw [hget]
    have hb := btA s (j + 1 + i) hlt
    by_cases hc : (bl s)[j + 1 + i] = 60
    · rw [if_pos (by rw [hc]; simp)]
      refine Ev.step (f := fun _ => some (⟨#[]⟩, ⟨#[]⟩, 0, 0)) (fun k => ?_) (Ev.now _)
      simp only [r4_attribute.l0]
      rw [if_pos (by omega), if_pos (by omega), if_pos (by omega), hb, hc, if_pos (by rfl)]
    · have hmem : ((60 : UInt8) ∈ (bl s)[j + 1 + i] :: (((bl s).drop (j + 1)).take e).drop (i + 1)) ↔ (60 : UInt8) ∈ (((bl s).drop (j + 1)).take e).drop (i + 1) := by
        rw [List.mem_cons]
        exact ⟨fun h => h.resolve_left (fun h => hc h.symm), .inr⟩
      have hne : ¬ (((bl s)[j + 1 + i]).toNat : Int) = 60 := fun h => hc (UInt8.toNat_inj.mp (by have : (60 : UInt8).toNat = 60 := rfl; omega))
      simp only [hmem]
      refine Ev.step (f := fun k => r4_attribute.l0 k s p n j ((j + 1 + e : Nat) : Int) ((j + 1 + (i + 1) : Nat) : Int)) (fun k => ?_) (ih (i + 1) (by omega))
      conv => lhs; simp only [r4_attribute.l0]
      rw [if_pos (by omega), if_pos (by omega), if_pos (by omega), hb, if_neg hne, wrap_id (by omega) (by omega)]
      congr 1
theorem attribute_ev (s : ByteArray) (hz : s.size ≤ 1000000) (p : Nat) (hp : p ≤ s.size) : Ev (fun k => r4_attribute.f k s (p : Int)) (attR s ((bl s).drop p) (attrL ((bl s).drop p))) := by
  have hs := bl_length s
  have hl := len_at s p
  obtain ⟨_, hn, _, _⟩ := M.begin_max ((bl s).drop p)
  have hB : Ev (fun k => r2_Begin.f k (s.extract p s.size)) ((M.beginL ((bl s).drop p) : Nat) : Int) := by
    have := M.rBegin_ev (s.extract p s.size) (by rw [← bl_length, bl_from, len_at]; omega)
    rw [show M.bl (s.extract p s.size) = (bl s).drop p from bl_from s p] at this
    exact this
  unfold attrL
  generalize M.beginL ((bl s).drop p) = n at hn hB
  rw [hl] at hn
  rw [skip_drop, drop_at, drop_at]
  have hq := nb_le ((bl s).drop (p + n))
  rw [len_at] at hq
  generalize hi0 : nb ((bl s).drop (p + n)) = w at hq
  have hblk := blanks_ev s hz (p + n) (by omega)
  rw [hi0] at hblk
  refine Ev.congr (f := fun k => (r2_Begin.f k (s.extract p s.size)).bind fun t196 => ((r4_blanks.f k s (wrap64 ((p : Int) + t196))).bind fun t197 => (if t196 = 0 then (r4_attribute.j0 k s p t196 (wrap64 ((wrap64 ((p : Int) + t196)) + t197)) true) else ((r4_has.f s (wrap64 ((wrap64 ((p : Int) + t196)) + t197)) (⟨#[61]⟩ : ByteArray)).bind fun t198 => (r4_attribute.j0 k s p t196 (wrap64 ((wrap64 ((p : Int) + t196)) + t197)) (!t198)))))) (fun k => ?_) (Ev.bind hB ?_)
  · unfold r4_attribute.f
    rw [if_pos (by omega), if_pos (by omega)]
    rfl
  rw [wrap_id (n := (p : Int) + (n : Int)) (by omega) (by omega)]
  refine Ev.bind (g := fun k => r4_blanks.f k s ((p : Int) + (n : Int))) (by rw [show ((p : Int) + (n : Int)) = ((p + n : Nat) : Int) by omega]; exact hblk) ?_
  rw [wrap_id (n := (p : Int) + (n : Int) + (w : Int)) (by omega) (by omega), show ((p : Int) + (n : Int) + (w : Int)) = ((p + n + w : Nat) : Int) by omega]
  have dead0 : ∀ i : Int, Ev (fun k => r4_attribute.j0 k s (p : Int) (n : Int) i true) (⟨#[]⟩, ⟨#[]⟩, 0, 0) := fun i => Ev.step (fun k => by simp only [r4_attribute.j0]; rw [if_pos trivial]) (Ev.now _)
  by_cases h0 : n = 0
  · rw [if_pos h0]
    exact Ev.congr (fun k => by rw [if_pos (by omega)]) (dead0 _)
  rw [if_neg h0]
  have hi := has_eq s ⟨#[61]⟩ (p + n + w) hz (by decide) (by decide) (by omega)
  rw [show bl ⟨#[61]⟩ = [61] from rfl] at hi
  generalize hiw : p + n + w = i at hi
  have hD : ((bl s).drop i).length = s.size - i := len_at s i
  cases hDi : (bl s).drop i with
  | nil =>
    rw [hDi] at hi
    exact Ev.congr (fun k => by rw [if_neg (by omega), hi, Option.bind_some]; rfl) (dead0 _)
  | cons c r1 =>
  rw [hDi, one_prefix] at hi
  by_cases hc : c = 61
  case neg =>
    have hcf : ((61 : UInt8) == c) = false := by simpa using fun e : 61 = c => hc e.symm
    rw [hcf] at hi
    refine Ev.congr (f := fun k => r4_attribute.j0 k s (p : Int) (n : Int) (i : Int) true) (fun k => by rw [if_neg (by omega), hi, Option.bind_some]; rfl) ?_
    split
    · rename_i heq
      exact absurd (List.cons.inj heq).1 hc
    · exact dead0 _
  subst hc
  have hil : i < s.size := by rw [hDi] at hD; simp at hD; omega
  have hr1 : (bl s).drop (i + 1) = r1 := by rw [← drop_at, hDi]; rfl
  simp only
  rw [skip_drop, ← hr1, drop_at]
  have hq2 := nb_le ((bl s).drop (i + 1))
  rw [len_at] at hq2
  have hblk2 := blanks_ev s hz (i + 1) (by omega)
  generalize nb ((bl s).drop (i + 1)) = w2 at hq2 hblk2
  have h39 := has_eq s ⟨#[39]⟩ (i + 1 + w2) hz (by decide) (by decide) (by omega)
  have h34 := has_eq s ⟨#[34]⟩ (i + 1 + w2) hz (by decide) (by decide) (by omega)
  rw [show bl ⟨#[39]⟩ = [39] from rfl] at h39
  rw [show bl ⟨#[34]⟩ = [34] from rfl] at h34
  have hpi : p ≤ i := by omega
  have hpn : p + n ≤ i := by omega
  generalize hjw : i + 1 + w2 = j at h39 h34
  have dead1 : ∀ x : Int, Ev (fun k => r4_attribute.j1 k s (p : Int) (n : Int) x true) (⟨#[]⟩, ⟨#[]⟩, 0, 0) := fun x => Ev.step (fun k => by simp only [r4_attribute.j1]; rw [if_pos trivial]) (Ev.now _)
  refine Ev.congr (f := fun k => r4_attribute.j0 k s (p : Int) (n : Int) (i : Int) false) (fun k => by rw [if_neg (by omega), hi, Option.bind_some]; rfl) ?_
  refine Ev.step (f := fun k => (r4_blanks.f k s ((i + 1 : Nat) : Int)).bind fun t199 => ((r4_has.f s (wrap64 (((i + 1 : Nat) : Int) + t199)) (⟨#[39]⟩ : ByteArray)).bind fun t200 => (if t200 = true then (r4_attribute.j1 k s p n (wrap64 (((i + 1 : Nat) : Int) + t199)) false) else ((r4_has.f s (wrap64 (((i + 1 : Nat) : Int) + t199)) (⟨#[34]⟩ : ByteArray)).bind fun t201 => (r4_attribute.j1 k s p n (wrap64 (((i + 1 : Nat) : Int) + t199)) (!t201)))))) (fun k => ?_) (Ev.bind hblk2 ?_)
  · simp only [r4_attribute.j0]
    rw [if_neg (by simp), wrap_id (n := (i : Int) + 1) (by omega) (by omega)]
    rfl
  rw [wrap_id (n := ((i + 1 : Nat) : Int) + (w2 : Int)) (by omega) (by omega), show (((i + 1 : Nat) : Int) + (w2 : Int)) = ((j : Nat) : Int) by omega]
  have hDj : ((bl s).drop j).length = s.size - j := len_at s j
  have hlive : ∀ (q : UInt8) (v : List UInt8), (bl s).drop j = q :: v → Ev (fun k => r4_attribute.j1 k s (p : Int) (n : Int) (j : Int) false) (attR s ((bl s).drop p) (match cutAt q v with | none => none | some (x, rest) => if (60 : UInt8) ∈ x then none else some ((⟨((bl s).drop p).take n, x, v.length⟩ : Raw), rest))) := by
    intro q v hqv
    have hjl : j < s.size := by rw [hqv] at hDj; simp at hDj; omega
    have hv : (bl s).drop (j + 1) = v := by rw [← drop_at, hqv]; rfl
    have hvl : v.length = s.size - (j + 1) := by rw [← hv, len_at]
    have hex : s.extract j (j + 1) = ⟨#[q]⟩ := by rw [ex_eq, hqv, Nat.add_sub_cancel_left]; rfl
    have hf := find_ev s ⟨#[q]⟩ hz (by show 0 < 1; omega) (by show 1 ≤ 1000; omega) (s.size - (j + 1)) (j + 1) (by omega) rfl
    unfold findI at hf
    rw [show bl ⟨#[q]⟩ = [q] from rfl, hv] at hf
    refine Ev.step (f := fun k => (r4_find.f k s ((j + 1 : Nat) : Int) (⟨#[q]⟩ : ByteArray)).bind fun t202 => (if t202 < 0 then (some ((⟨#[]⟩ : ByteArray), (⟨#[]⟩ : ByteArray), (0 : Int), (0 : Int))) else (r4_attribute.l0 k s p n j t202 ((j + 1 : Nat) : Int)))) (fun k => ?_) (Ev.bind hf ?_)
    · simp only [r4_attribute.j1]
      rw [if_neg (by simp), if_pos (by omega), wrap_id (n := (j : Int) + 1) (by omega) (by omega), if_pos (by omega), if_pos (by omega), show ((j : Int)).toNat = j by omega, show ((j : Int) + 1).toNat = j + 1 by omega, hex]
      rfl
    · rw [cutAt_find]
      cases hfl : findL [q] v with
      | none =>
        simp only
        exact Ev.congr (fun k => by first | (rw [if_pos (by decide)]; done) | (rw [if_pos (by decide)]; rfl)) (Ev.now _)
      | some e =>
        have hel := find_len _ _ _ hfl
        simp only [List.length_cons, List.length_nil] at hel
        simp only [Option.map_some]
        refine Ev.congr (f := fun k => r4_attribute.l0 k s p n j ((j + 1 + e : Nat) : Int) ((j + 1 + 0 : Nat) : Int)) (fun k => by first | (rw [if_neg (by omega)]; done) | (rw [if_neg (by omega)]; rfl)) ?_
        have := attr_l0 s hz p n j e (by omega) (by omega) (by omega) e 0 (by omega)
        rw [hv, List.drop_zero] at this
        by_cases hm : (60 : UInt8) ∈ v.take e
        · rw [if_pos hm] at this ⊢
          exact this
        · rw [if_neg hm] at this ⊢
          unfold attR
          simp only
          rw [show s.extract p (p + n) = ⟨(((bl s).drop p).take n).toArray⟩ by rw [ex_eq, Nat.add_sub_cancel_left], show s.extract (j + 1) (j + 1 + e) = ⟨(v.take e).toArray⟩ by rw [ex_eq, Nat.add_sub_cancel_left, hv]] at this
          rw [show s.size - v.length = j + 1 by omega, show ((bl s).drop p).length - (v.drop (e + 1)).length = j + 1 + e + 1 - p by have := List.length_drop (i := e + 1) (l := v); omega]
          exact this
  cases hqv : (bl s).drop j with
  | nil =>
    rw [hqv] at h39 h34
    exact Ev.congr (fun k => by rw [h39, Option.bind_some, if_neg (by decide), h34, Option.bind_some]; rfl) (dead1 _)
  | cons q v =>
    have hl1 := hlive q v hqv
    rw [hqv, one_prefix] at h39 h34
    by_cases hq39 : q = 39
    · rw [show ((39 : UInt8) == q) = true by rw [hq39]; rfl] at h39
      simp only
      rw [if_pos (.inr hq39)]
      exact Ev.congr (fun k => by rw [h39, Option.bind_some, if_pos rfl]) hl1
    · rw [show ((39 : UInt8) == q) = false by simpa using fun e : 39 = q => hq39 e.symm] at h39
      by_cases hq34 : q = 34
      · rw [show ((34 : UInt8) == q) = true by rw [hq34]; rfl] at h34
        simp only
        rw [if_pos (.inl hq34)]
        exact Ev.congr (fun k => by rw [h39, Option.bind_some, if_neg (by decide), h34, Option.bind_some]; rfl) hl1
      · rw [show ((34 : UInt8) == q) = false by simpa using fun e : 34 = q => hq34 e.symm] at h34
        simp only
        rw [if_neg (by rintro (h | h); exact hq34 h; exact hq39 h)]
        exact Ev.congr (fun k => by rw [h39, Option.bind_some, if_neg (by decide), h34, Option.bind_some]; rfl) (dead1 _)
end Go.Proofs.YtpknhgejnfmijaaGreatDoor.T
end
section
namespace Go.Proofs.YtpknhgejnfmijaaGreatDoor.T
open Go.Proofs.YtpknhgejnfmijaaGreatDoor.M (wrap_id)
open Go.Proofs.YtpknhgejnfmijaaGreatDoor.U (bl bl_length bl_extract toList_bl bl_from bl_inj)
open Go Go.RowKit Go.Proofs.YtpknhgejnfmijaaGreatDoorW.PrintWords Go.Proofs.YtpknhgejnfmijaaGreatDoorW.PrintMore Go.Proofs.YtpknhgejnfmijaaGreatDoor.K Go.Proofs.YtpknhgejnfmijaaGreatDoor.PC Go.Proofs.YtpknhgejnfmijaaGreatDoor.X
set_option linter.unusedVariables false
set_option linter.unusedSimpArgs false
def rawS (al : Nat) (r : Raw) : S66 := ⟨⟨r.name.toArray⟩, ⟨r.value.toArray⟩, ((al - r.left : Nat) : Int)⟩
abbrev TagT := Int × ByteArray × (List S66) × ByteArray × Int × Int
def noTag : TagT := (0, ⟨#[]⟩, [], ⟨#[]⟩, 0, 0)
def tagR (al p : Nat) (nm : ByteArray) (o : Option (Nat × List Raw × List UInt8)) : TagT :=
  match o with
  | none => noTag
  | some (k, rs, rest) => ((k : Int), nm, rs.map (rawS al), ⟨#[]⟩, (p : Int), ((al - p - rest.length : Nat) : Int))
theorem suf_drop {r l : List UInt8} (h : r <:+ l) : r = l.drop (l.length - r.length) := by
  obtain ⟨p, rfl⟩ := h
  rw [List.length_append, Nat.add_sub_cancel, List.drop_left' rfl]
theorem attrL_lt (l : List UInt8) (a : Raw) (r : List UInt8) (h : attrL l = some (a, r)) : r.length < l.length := by
  unfold attrL at h
  have e0 := skipB_le (l.drop (M.beginL l))
  simp only [List.length_drop] at e0
  generalize skipB (l.drop (M.beginL l)) = l2 at h e0
  split at h
  · cases h
  cases l2 with
  | nil => cases h
  | cons c r1 =>
    by_cases hc : c = 61
    · subst hc
      simp only at h
      have e1 := skipB_le r1
      generalize skipB r1 = l4 at h e1
      cases l4 with
      | nil => cases h
      | cons q v =>
        simp only at h
        split at h
        · cases hk : cutAt q v with
          | none => rw [hk] at h; cases h
          | some z =>
            rw [hk] at h
            simp only at h
            split at h
            · cases h
            · simp only [Option.some.injEq, Prod.mk.injEq] at h
              obtain ⟨_, rfl⟩ := h
              have e3 := (cutAt_len _ _ _ _ hk).1
              simp at e0 e1
              omega
        · cases h
    · have : ∀ x, c :: r1 ≠ 61 :: x := fun x e => hc (List.cons.inj e).1
      split at h
      · exact absurd (by assumption) (this _)
      · cases h
theorem tag_round (s : ByteArray) (hz : s.size ≤ 1000000) (p : Nat) (hp : p ≤ s.size) (nm : ByteArray) (i K : Nat) (rs : List Raw) (hi : i ≤ s.size) (hpi : p ≤ i) (hK : s.size - i < K) (hrs : rs.length + (s.size - i) ≤ 1000000)
    (next : ∀ (i' K' : Nat) (rs' : List Raw), s.size - i' < s.size - i → i' ≤ s.size → p ≤ i' → s.size - i' < K' → rs'.length + (s.size - i') ≤ 1000000 → Ev (fun k => r4_tag.l0 k s p i' 1 nm (rs'.map (rawS s.size)) ⟨#[]⟩ p) (tagR s.size p nm (tagLoop K' ((bl s).drop i') rs'))) :
    Ev (fun k => r4_tag.l0 k s p i 1 nm (rs.map (rawS s.size)) ⟨#[]⟩ p) (tagR s.size p nm (tagLoop K ((bl s).drop i) rs)) := by
  have hs := bl_length s
  obtain ⟨K, rfl⟩ : ∃ j, K = j + 1 := ⟨K - 1, by omega⟩
  have hDi := len_at s i
  have hb := blanks_ev s hz i hi
  unfold tagLoop
  rw [skip_drop, drop_at]
  have hw := nb_le ((bl s).drop i)
  rw [hDi] at hw
  generalize hnb : nb ((bl s).drop i) = w at hb hw
  have hDj := len_at s (i + w)
  rw [hDi, hDj]
  have h62 := has_eq s ⟨#[62]⟩ (i + w) hz (by decide) (by decide) (by omega)
  have h47 := has_eq s ⟨#[47, 62]⟩ (i + w) hz (by decide) (by decide) (by omega)
  rw [show bl ⟨#[62]⟩ = [62] from rfl] at h62
  rw [show bl ⟨#[47, 62]⟩ = [47, 62] from rfl] at h47
  have dead : ∀ x : Int, Ev (fun k => r4_tag.j1 k s (p : Int) (i : Int) x true 1 nm (rs.map (rawS s.size)) ⟨#[]⟩ p) noTag := fun x => Ev.step (fun k => by simp only [r4_tag.j1]; rw [if_pos trivial]; rfl) (Ev.now _)
  refine Ev.step (f := fun k => (r4_blanks.f k s (i : Int)).bind fun t210 => ((r4_has.f s (wrap64 ((i : Int) + t210)) (⟨#[62]⟩ : ByteArray)).bind fun t211 => (if t211 = true then (some ((1 : Int), nm, rs.map (rawS s.size), (⟨#[]⟩ : ByteArray), (p : Int), wrap64 ((wrap64 ((wrap64 ((i : Int) + t210)) + 1)) - (p : Int)))) else ((r4_has.f s (wrap64 ((i : Int) + t210)) (⟨#[47, 62]⟩ : ByteArray)).bind fun t212 => (if t212 = true then (some ((3 : Int), nm, rs.map (rawS s.size), (⟨#[]⟩ : ByteArray), (p : Int), wrap64 ((wrap64 ((wrap64 ((i : Int) + t210)) + 2)) - (p : Int)))) else (if t210 = 0 then (r4_tag.j1 k s p i t210 true 1 nm (rs.map (rawS s.size)) ⟨#[]⟩ p) else (r4_tag.j1 k s p i t210 (decide ((wrap64 ((i : Int) + t210)) ≥ (s.size : Int))) 1 nm (rs.map (rawS s.size)) ⟨#[]⟩ p))))))) (fun k => ?_) (Ev.bind hb ?_)
  · simp only [r4_tag.l0]
  rw [wrap_id (n := (i : Int) + (w : Int)) (by omega) (by omega), show ((i : Int) + (w : Int)) = ((i + w : Nat) : Int) by omega]
  cases hD : (bl s).drop (i + w) with
  | nil =>
    rw [hD] at h62 h47 hDj
    simp at hDj
    rw [if_neg (by simp), if_neg (by simp)]
    refine Ev.congr (f := fun k => r4_tag.j1 k s p i (w : Int) true 1 nm (rs.map (rawS s.size)) ⟨#[]⟩ p) (fun k => ?_) (dead _)
    rw [h62, Option.bind_some, if_neg (by decide), h47, Option.bind_some, if_neg (by decide)]
    by_cases h0 : w = 0
    · rw [if_pos (by omega)]
    · rw [if_neg (by omega), decide_eq_true (by omega)]
  | cons c r =>
    rw [hD] at h62 h47 hDj
    rw [one_prefix] at h62
    simp only [List.length_cons] at hDj
    by_cases hc : c = 62
    · subst hc
      rw [if_neg (by simp), if_neg (by simp [List.isPrefixOf])]
      have hr : r.length = s.size - (i + w) - 1 := by omega
      refine Ev.congr (f := fun _ => some (tagR s.size p nm (some (1, rs, r)))) (fun k => ?_) (Ev.now _)
      rw [h62, Option.bind_some, if_pos (show ((62 : UInt8) == 62) = true from rfl), wrap_id (n := ((i + w : Nat) : Int) + 1) (by omega) (by omega), wrap_id (by omega) (by omega)]
      unfold tagR
      simp only
      rw [show (((i + w : Nat) : Int) + 1 - (p : Int)) = ((s.size - p - r.length : Nat) : Int) by omega]
      rfl
    · rw [show ((62 : UInt8) == c) = false by simpa using fun e : 62 = c => hc e.symm] at h62
      by_cases hp47 : [47, 62].isPrefixOf (c :: r) = true
      · obtain ⟨t, ht⟩ := List.isPrefixOf_iff_prefix.mp hp47
        have ht' : c :: r = 47 :: 62 :: t := ht.symm
        cases ht'
        rw [if_neg (by simp), if_pos hp47]
        have hr : t.length = s.size - (i + w) - 2 := by simp at hDj; omega
        refine Ev.congr (f := fun _ => some (tagR s.size p nm (some (3, rs, t)))) (fun k => ?_) (Ev.now _)
        rw [h62, Option.bind_some, if_neg (by decide), h47, Option.bind_some, if_pos hp47, wrap_id (n := ((i + w : Nat) : Int) + 2) (by omega) (by omega), wrap_id (by omega) (by omega)]
        unfold tagR
        simp only
        rw [show (((i + w : Nat) : Int) + 2 - (p : Int)) = ((s.size - p - t.length : Nat) : Int) by simp at hDj; omega]
        rfl
      · have hf47 : [47, 62].isPrefixOf (c :: r) = false := Bool.eq_false_iff.mpr hp47
        rw [hf47] at h47
        by_cases h0 : w = 0
        · subst h0
          rw [if_neg (fun hh => by have := hh.1; omega), if_neg hp47]
          refine Ev.congr (f := fun k => r4_tag.j1 k s p i ((0 : Nat) : Int) true 1 nm (rs.map (rawS s.size)) ⟨#[]⟩ p) (fun k => ?_) ?_
          · rw [h62, Option.bind_some, if_neg (by decide), h47, Option.bind_some, if_neg (by decide), if_pos (by rfl)]
          · split
            · rename_i heq; exact absurd (List.cons.inj heq).1 hc
            · exact dead _
        · have hA := attribute_ev s hz (i + w) (by omega)
          rw [hD] at hA
          have hlive : Ev (fun k => r4_tag.j1 k s p i (w : Int) false 1 nm (rs.map (rawS s.size)) ⟨#[]⟩ p) (tagR s.size p nm (match attrL (c :: r) with | none => none | some (a, rest) => tagLoop K rest (rs ++ [a]))) := by
            refine Ev.step (f := fun k => (r4_attribute.f k s ((i + w : Nat) : Int)).bind fun bt213 => (if bt213.2.2.2 = 0 then (some noTag) else (if (rs.map (rawS s.size)).length < 3518437208883 then (r4_tag.l0 k s p (wrap64 (((i + w : Nat) : Int) + bt213.2.2.2)) 1 nm ((rs.map (rawS s.size)) ++ [(⟨bt213.1, bt213.2.1, bt213.2.2.1⟩ : S66)]) ⟨#[]⟩ p) else (none)))) (fun k => ?_) (Ev.bind hA ?_)
            · simp only [r4_tag.j1]
              rw [if_neg (by simp), wrap_id (n := (i : Int) + (w : Int)) (by omega) (by omega)]
              rfl
            · cases ha : attrL (c :: r) with
              | none => exact Ev.congr (fun k => by simp only [attR]; rw [if_pos trivial]) (Ev.now noTag)
              | some x =>
                obtain ⟨a, rest⟩ := x
                have hlt := attrL_lt _ _ _ ha
                have hsuf := suf_drop (attrL_suf _ _ _ ha)
                simp only [List.length_cons] at hlt
                have hrest : (bl s).drop (i + w + ((c :: r).length - rest.length)) = rest := by rw [← drop_at, hD, ← hsuf]
                refine Ev.congr (f := fun k => r4_tag.l0 k s p ((i + w + ((c :: r).length - rest.length) : Nat) : Int) 1 nm ((rs ++ [a]).map (rawS s.size)) ⟨#[]⟩ p) (fun k => ?_) ?_
                · show (if ((((c :: r).length - rest.length : Nat)) : Int) = 0 then some noTag else (if (rs.map (rawS s.size)).length < 3518437208883 then (r4_tag.l0 k s p (wrap64 (((i + w : Nat) : Int) + (((c :: r).length - rest.length : Nat) : Int))) 1 nm ((rs.map (rawS s.size)) ++ [rawS s.size a]) ⟨#[]⟩ p) else none)) = _
                  simp only [List.length_cons]
                  rw [if_neg (by omega), if_pos (by rw [List.length_map]; omega), wrap_id (by omega) (by omega), List.map_append]
                  rfl
                · have := next (i + w + ((c :: r).length - rest.length)) K (rs ++ [a]) (by simp; omega) (by simp; omega) (by omega) (by simp; omega) (by simp; omega)
                  rw [hrest] at this
                  exact this
          by_cases hc47 : c = 47
          · subst hc47
            have hn : attrL (47 :: r) = none := by
              unfold attrL
              rw [if_pos (begin_zero 47 r (by decide))]
            rw [hn] at hlive
            rw [if_neg (by simp), if_neg hp47]
            refine Ev.congr (f := fun k => r4_tag.j1 k s p i (w : Int) false 1 nm (rs.map (rawS s.size)) ⟨#[]⟩ p) (fun k => ?_) ?_
            · rw [h62, Option.bind_some, if_neg (by decide), h47, Option.bind_some, if_neg (by decide), if_neg (by omega), decide_eq_false (by omega)]
            · split
              · rename_i heq; exact absurd (List.cons.inj heq).1 hc
              · exact hlive
          · rw [if_pos ⟨by omega, by simp, by simpa using hc47, by simpa using hc⟩]
            refine Ev.congr (f := fun k => r4_tag.j1 k s p i (w : Int) false 1 nm (rs.map (rawS s.size)) ⟨#[]⟩ p) (fun k => ?_) hlive
            rw [h62, Option.bind_some, if_neg (by decide), h47, Option.bind_some, if_neg (by decide), if_neg (by omega), decide_eq_false (by omega)]
theorem tag_l0 (s : ByteArray) (hz : s.size ≤ 1000000) (p : Nat) (hp : p ≤ s.size) (nm : ByteArray) : ∀ (m i K : Nat) (rs : List Raw), s.size - i ≤ m → i ≤ s.size → p ≤ i → s.size - i < K → rs.length + (s.size - i) ≤ 1000000 →
    Ev (fun k => r4_tag.l0 k s p i 1 nm (rs.map (rawS s.size)) ⟨#[]⟩ p) (tagR s.size p nm (tagLoop K ((bl s).drop i) rs)) := by
  have hs := bl_length s
  intro m
  induction m with
  | zero =>
    intro i K rs hm hi hpi hK hrs
    exact tag_round s hz p hp nm i K rs hi hpi hK hrs (fun i' K' rs' h1 => by omega)
  | succ m ih =>
    intro i K rs hm hi hpi hK hrs
    exact tag_round s hz p hp nm i K rs hi hpi hK hrs (fun i' K' rs' h1 h2 h3 h4 h5 => ih i' K' rs' (by omega) h2 h3 h4 h5)
def tagE (s : ByteArray) (p : Nat) : TagT :=
  match tagL ((bl s).drop p) with
  | none => noTag
  | some (k, n, rs, rest) => ((k : Int), ⟨n.toArray⟩, rs.map (rawS s.size), ⟨#[]⟩, (p : Int), ((s.size - p - rest.length : Nat) : Int))
theorem begin_at (s : ByteArray) (hz : s.size ≤ 1000000) (p : Nat) (hp : p ≤ s.size) : Ev (fun k => r2_Begin.f k (s.extract p s.size)) ((M.beginL ((bl s).drop p) : Nat) : Int) := by
  have := M.rBegin_ev (s.extract p s.size) (by rw [← bl_length, bl_from, len_at]; omega)
  rw [show M.bl (s.extract p s.size) = (bl s).drop p from bl_from s p] at this
  exact this
theorem tag_ev (s : ByteArray) (hz : s.size ≤ 1000000) (p : Nat) (hp : p < s.size) (t0 : List UInt8) (h60 : (bl s).drop p = 60 :: t0) : Ev (fun k => r4_tag.f k s (p : Int)) (tagE s p) := by
  have hs := bl_length s
  have hl := len_at s p
  have ht0 : (bl s).drop (p + 1) = t0 := by rw [← drop_at, h60]; rfl
  have h47 := has_eq s ⟨#[60, 47]⟩ p hz (by decide) (by decide) (by omega)
  rw [show bl ⟨#[60, 47]⟩ = [60, 47] from rfl] at h47
  by_cases hc : [60, 47].isPrefixOf ((bl s).drop p) = true
  · have h2 := (List.isPrefixOf_iff_prefix.mp hc).length_le
    rw [hl] at h2
    simp only [List.length_cons, List.length_nil] at h2
    have hB := begin_at s hz (p + 2) (by omega)
    obtain ⟨_, hn, hok, _⟩ := M.begin_max ((bl s).drop (p + 2))
    rw [len_at] at hn
    unfold tagE tagL
    rw [if_pos hc, drop_at]
    generalize M.beginL ((bl s).drop (p + 2)) = n at hB hn
    rw [drop_at, skip_drop, drop_at]
    have hb := blanks_ev s hz (p + 2 + n) (by omega)
    have hw := nb_le ((bl s).drop (p + 2 + n))
    rw [len_at] at hw
    generalize nb ((bl s).drop (p + 2 + n)) = w at hb hw
    have h62 := has_eq s ⟨#[62]⟩ (p + 2 + n + w) hz (by decide) (by decide) (by omega)
    rw [show bl ⟨#[62]⟩ = [62] from rfl] at h62
    refine Ev.congr (f := fun k => (r2_Begin.f k (s.extract (p + 2) s.size)).bind fun t205 => ((r4_blanks.f k s (wrap64 (((p + 2 : Nat) : Int) + t205))).bind fun t206 => (if t205 = 0 then (some noTag) else ((r4_has.f s (wrap64 ((wrap64 (((p + 2 : Nat) : Int) + t205)) + t206)) (⟨#[62]⟩ : ByteArray)).bind fun t207 => (if t207 = true then (if ((p + 2 : Nat) : Int) ≤ (wrap64 (((p + 2 : Nat) : Int) + t205)) then (if (wrap64 (((p + 2 : Nat) : Int) + t205)) ≤ (s.size : Int) then (some ((2 : Int), s.extract (p + 2) ((wrap64 (((p + 2 : Nat) : Int) + t205)) : Int).toNat, ([] : List S66), (⟨#[]⟩ : ByteArray), (p : Int), wrap64 ((wrap64 ((wrap64 ((wrap64 (((p + 2 : Nat) : Int) + t205)) + t206)) + 1)) - (p : Int)))) else (none)) else (none)) else (some noTag)))))) (fun k => ?_) (Ev.bind hB ?_)
    · unfold r4_tag.f
      rw [h47, Option.bind_some, if_pos hc, wrap_id (n := (p : Int) + 2) (by omega) (by omega), if_pos (by omega), if_pos (by omega)]
      rfl
    rw [wrap_id (n := ((p + 2 : Nat) : Int) + (n : Int)) (by omega) (by omega), show ((p + 2 : Nat) : Int) + (n : Int) = ((p + 2 + n : Nat) : Int) by omega]
    refine Ev.bind hb ?_
    rw [wrap_id (n := ((p + 2 + n : Nat) : Int) + (w : Int)) (by omega) (by omega), show ((p + 2 + n : Nat) : Int) + (w : Int) = ((p + 2 + n + w : Nat) : Int) by omega]
    by_cases h0 : n = 0
    · rw [if_pos h0]
      exact Ev.congr (fun k => by rw [if_pos (by omega)]) (Ev.now noTag)
    rw [if_neg h0]
    have hDl := len_at s (p + 2 + n + w)
    cases hD : (bl s).drop (p + 2 + n + w) with
    | nil =>
      rw [hD] at h62
      exact Ev.congr (fun k => by rw [if_neg (by omega), h62, Option.bind_some, if_neg (by decide)]) (Ev.now noTag)
    | cons c r =>
      rw [hD, one_prefix] at h62
      rw [hD] at hDl
      simp only [List.length_cons] at hDl
      by_cases h6 : c = 62
      · subst h6
        refine Ev.congr (fun k => ?_) (Ev.now ((2 : Int), (⟨(((bl s).drop (p + 2)).take n).toArray⟩ : ByteArray), ([] : List Raw).map (rawS s.size), (⟨#[]⟩ : ByteArray), (p : Int), ((s.size - p - r.length : Nat) : Int)))
        rw [if_neg (by omega), h62, Option.bind_some, if_pos (show ((62 : UInt8) == 62) = true from rfl), if_pos (by omega), if_pos (by omega), wrap_id (n := ((p + 2 + n + w : Nat) : Int) + 1) (by omega) (by omega), wrap_id (by omega) (by omega), show (((p + 2 + n : Nat) : Int)).toNat = p + 2 + n by omega, ex_eq, show p + 2 + n - (p + 2) = n by omega]
        rw [show ((p + 2 + n + w : Nat) : Int) + 1 - (p : Int) = ((s.size - p - r.length : Nat) : Int) by omega]
        rfl
      · rw [show ((62 : UInt8) == c) = false by simpa using fun e : 62 = c => h6 e.symm] at h62
        refine Ev.congr (f := fun _ => some noTag) (fun k => by rw [if_neg (by omega), h62, Option.bind_some, if_neg (by decide)]) ?_
        split
        · exact Ev.now _
        · rename_i heq
          split at heq
          · rename_i h; exact absurd (List.cons.inj h).1 h6
          · cases heq
  · have hB := begin_at s hz (p + 1) (by omega)
    obtain ⟨_, hn, hok, _⟩ := M.begin_max ((bl s).drop (p + 1))
    rw [len_at] at hn
    unfold tagE tagL
    rw [if_neg hc, drop_at, hl]
    generalize M.beginL ((bl s).drop (p + 1)) = n at hB hn
    rw [drop_at]
    refine Ev.congr (f := fun k => (r2_Begin.f k (s.extract (p + 1) s.size)).bind fun t208 => (if t208 = 0 then (some noTag) else (if ((p + 1 : Nat) : Int) ≤ (wrap64 (((p + 1 : Nat) : Int) + t208)) then (if (wrap64 (((p + 1 : Nat) : Int) + t208)) ≤ (s.size : Int) then (r4_tag.l0 k s p (wrap64 (((p + 1 : Nat) : Int) + t208)) 1 (s.extract (p + 1) ((wrap64 (((p + 1 : Nat) : Int) + t208)) : Int).toNat) ([] : List S66) (⟨#[]⟩ : ByteArray) p) else (none)) else (none)))) (fun k => ?_) (Ev.bind hB ?_)
    · unfold r4_tag.f
      rw [h47, Option.bind_some, if_neg hc, wrap_id (n := (p : Int) + 1) (by omega) (by omega), if_pos (by omega), if_pos (by omega)]
      rfl
    by_cases h0 : n = 0
    · rw [if_pos h0]
      exact Ev.congr (fun k => by rw [if_pos (by omega)]) (Ev.now noTag)
    rw [if_neg h0]
    have hL := tag_l0 s hz p (by omega) ⟨(((bl s).drop (p + 1)).take n).toArray⟩ (s.size - (p + 1 + n)) (p + 1 + n) (s.size - p) [] (Nat.le_refl _) (by omega) (by omega) (by omega) (by simp; omega)
    refine Ev.congr (f := fun k => r4_tag.l0 k s p ((p + 1 + n : Nat) : Int) 1 ⟨(((bl s).drop (p + 1)).take n).toArray⟩ (([] : List Raw).map (rawS s.size)) ⟨#[]⟩ p) (fun k => ?_) ?_
    · rw [if_neg (by omega), wrap_id (by omega) (by omega), if_pos (by omega), if_pos (by omega), show (((p + 1 : Nat) : Int) + (n : Int)).toNat = p + 1 + n by omega, ex_eq, show p + 1 + n - (p + 1) = n by omega]
      rfl
    · cases ht : tagLoop (s.size - p) ((bl s).drop (p + 1 + n)) [] with
      | none => rw [ht] at hL; exact hL
      | some x => rw [ht] at hL; exact hL
end Go.Proofs.YtpknhgejnfmijaaGreatDoor.T
end
section
namespace Go.Proofs.YtpknhgejnfmijaaGreatDoor.E
open Go Go.RowKit Go.Proofs.YtpknhgejnfmijaaGreatDoorW.PrintWords Go.Proofs.YtpknhgejnfmijaaGreatDoor.U Go.Proofs.YtpknhgejnfmijaaGreatDoor.PU Go.Proofs.YtpknhgejnfmijaaGreatDoor.PC
set_option linter.unusedVariables false
set_option linter.unusedSimpArgs false
theorem beg_eq (s t : ByteArray) (hs : s.size ≤ 140737488351232) : r3_begins.f s t = some (beg (bl s) (bl t)) := by
  unfold r3_begins.f
  by_cases h : t.size ≤ s.size
  · rw [if_pos (by omega), if_pos (by omega), if_pos (by omega)]
    congr 1
    rw [toList_bl, toList_bl, bl_extract, List.drop_zero, Nat.sub_zero, Int.toNat_natCast, Bool.eq_iff_iff, beq_iff_eq, beg_iff]
    constructor
    · intro e
      exact ⟨(bl s).drop t.size, by rw [← e, List.take_append_drop]⟩
    · rintro ⟨r, hr⟩
      rw [hr, List.take_left' (by rw [bl_length])]
  · rw [if_neg (by omega)]
    congr 1
    symm
    rw [Bool.eq_false_iff]
    intro e
    obtain ⟨r, hr⟩ := (beg_iff _ _).mp e
    have := congrArg List.length hr
    rw [List.length_append, bl_length, bl_length] at this
    omega
def digI (c : UInt8) : Int := if dig c = 99 then -1 else (dig c : Int)
theorem dig_ev (c : UInt8) : Ev (fun k => r3_digit.f k (c.toNat : Int)) (digI c) := by
  have hc := c.toNat_lt
  unfold digI dig
  unfold r3_digit.f
  by_cases h1 : 48 ≤ c.toNat ∧ c.toNat ≤ 57
  · refine Ev.congr (f := fun k => r3_digit.j0 k (c.toNat : Int) true) (fun k => ?_) (Ev.step (f := fun _ => some (((c.toNat - 48 : Nat)) : Int)) (fun k => ?_) ?_)
    · rw [if_pos (by omega), decide_eq_true (by omega)]
    · simp only [r3_digit.j0]
      rw [if_pos trivial]
      congr 1
      omega
    · rw [if_pos h1, if_neg (by omega)]
      exact Ev.now _
  · refine Ev.congr (f := fun k => r3_digit.j0 k (c.toNat : Int) false) (fun k => ?_) ?_
    · by_cases h2 : 48 ≤ c.toNat
      · rw [if_pos (by omega), decide_eq_false (by omega)]
      · rw [if_neg (by omega)]
    · rw [if_neg h1]
      by_cases h2 : 97 ≤ c.toNat ∧ c.toNat ≤ 102
      · refine Ev.step (f := fun k => r3_digit.j1 k (c.toNat : Int) true) (fun k => ?_) (Ev.step (f := fun _ => some (((c.toNat - 87 : Nat)) : Int)) (fun k => ?_) ?_)
        · simp only [r3_digit.j0]
          rw [if_neg (by simp), if_pos (by omega), decide_eq_true (by omega)]
        · simp only [r3_digit.j1]
          rw [if_pos trivial]
          congr 1
          omega
        · rw [if_pos h2, if_neg (by omega)]
          exact Ev.now _
      · rw [if_neg h2]
        refine Ev.step (f := fun k => r3_digit.j1 k (c.toNat : Int) false) (fun k => ?_) ?_
        · simp only [r3_digit.j0]
          rw [if_neg (by simp)]
          by_cases h3 : 97 ≤ c.toNat
          · rw [if_pos (by omega), decide_eq_false (by omega)]
          · rw [if_neg (by omega)]
        · by_cases h4 : 65 ≤ c.toNat ∧ c.toNat ≤ 70
          · refine Ev.step (f := fun _ => some (((c.toNat - 55 : Nat)) : Int)) (fun k => ?_) ?_
            · simp only [r3_digit.j1]
              rw [if_neg (by simp), if_pos (by omega), if_pos (by omega)]
              congr 1
              omega
            · rw [if_pos h4, if_neg (by omega)]
              exact Ev.now _
          · refine Ev.step (f := fun _ => some (-1)) (fun k => ?_) ?_
            · simp only [r3_digit.j1]
              rw [if_neg (by simp)]
              by_cases h5 : 65 ≤ c.toNat
              · rw [if_pos (by omega), if_neg (by omega)]
              · rw [if_neg (by omega)]
            · rw [if_neg h4, if_pos rfl]
              exact Ev.now _
theorem ref_put (n : Nat) : r1_Put.f (n : Int) = some ⟨(put n).toArray⟩ := by
  rw [ref_Put_eq, X.isI_nat, Int.toNat_natCast]
  unfold put
  split
  · rfl
  · rfl
theorem bt_at (s : ByteArray) (i : Nat) (c : UInt8) (h : (bl s)[i]? = some c) : bt s (i : Int) = (c.toNat : Int) := by
  rw [bt_bl, List.getD, h]
  rfl
def stopI (s : ByteArray) (n i : Nat) : Option (ByteArray × Int) := if (i : Int) = 0 then (some ((⟨#[]⟩ : ByteArray), 0)) else (if (i : Int) ≥ (s.size : Int) then (some ((⟨#[]⟩ : ByteArray), 0)) else (if (bt s (i : Int)) = 59 then ((r1_Put.f n).bind fun t => (some (t, (i : Int)))) else (some ((⟨#[]⟩ : ByteArray), 0))))
def goI (k : Nat) (s : ByteArray) (b m n i : Nat) : Option (ByteArray × Int) :=
  (r3_digit.f k (bt s (i : Int))).bind fun t117 => if t117 ≥ 0 then ((r3_digit.f k (bt s (i : Int))).bind fun t118 => (if t118 < (b : Int) then ((r3_digit.f k (bt s (i : Int))).bind fun t119 => (r3_number.l0 k s b m (wrap64 ((wrap64 ((n : Int) * b)) + t119)) (wrap64 ((i : Int) + 1)))) else stopI s n i)) else stopI s n i
theorem l0_go (k : Nat) (s : ByteArray) (b m n i : Nat) (h : i < s.size) (hm : i < m) : r3_number.l0 (k + 1) s b m n i = goI k s b m n i := by
  simp only [r3_number.l0]
  rw [if_pos (by omega), if_pos (by omega), if_pos (by omega)]
  rfl
theorem l0_stop (k : Nat) (s : ByteArray) (b m n i : Nat) (h : i < s.size) (hm : ¬ i < m) : r3_number.l0 (k + 1) s b m n i = stopI s n i := by
  simp only [r3_number.l0]
  rw [if_pos (by omega), if_neg (by omega)]
  unfold stopI
  by_cases h0 : (i : Int) = 0
  · rw [if_pos h0, if_pos h0]
  · have hge : ¬ ((i : Int) ≥ (s.size : Int)) := by omega
    rw [if_neg h0, if_neg h0, if_neg hge, if_neg hge, if_pos (show (0 : Int) ≤ (i : Int) by omega)]
theorem l0_end (k : Nat) (s : ByteArray) (b m n i : Nat) (h : ¬ i < s.size) : r3_number.l0 (k + 1) s b m n i = some ((⟨#[]⟩ : ByteArray), 0) := by
  simp only [r3_number.l0]
  rw [if_neg (by omega)]
  by_cases h0 : (i : Int) = 0
  · rw [if_pos h0]
  · rw [if_neg h0, if_pos (by omega)]
theorem semi_ne (c : UInt8) (h : c ≠ 59) : ¬ (c.toNat : Int) = 59 := by
  intro e
  exact h (UInt8.toNat_inj.mp (by have : (59 : UInt8).toNat = 59 := rfl; omega))
theorem stop_eq (s : ByteArray) (n i : Nat) (c : UInt8) (h : i < s.size) (hbt : bt s (i : Int) = (c.toNat : Int)) :
    stopI s n i = some ((⟨(if i = 0 then (([], 0) : List UInt8 × Nat) else if c = 59 then (put n, i) else ([], 0)).1.toArray⟩ : ByteArray), ((if i = 0 then (([], 0) : List UInt8 × Nat) else if c = 59 then (put n, i) else ([], 0)).2 : Int)) := by
  unfold stopI
  by_cases h0 : i = 0
  · rw [if_pos (by omega), if_pos h0]
    rfl
  · rw [if_neg (by omega), if_neg h0, if_neg (by omega), hbt]
    by_cases h59 : c = 59
    · subst h59
      rw [if_pos (by rfl), if_pos rfl, ref_put]
      rfl
    · rw [if_neg (semi_ne c h59), if_neg h59]
      rfl
theorem num_next (b n : Nat) (hb : b ≤ 16) (hn : n < 268435456) (d : Nat) (hd : d < 99) : wrap64 ((wrap64 ((n : Int) * b)) + (d : Int)) = ((n * b + d : Nat) : Int) := by
  have hmul : n * b ≤ n * 16 := Nat.mul_le_mul_left n hb
  have e1 : ((n : Int) * (b : Int)) = ((n * b : Nat) : Int) := by push_cast; rfl
  rw [e1]
  generalize n * b = q at hmul
  rw [wrap_id (n := (q : Int)) (by omega) (by omega), wrap_id (by omega) (by omega)]
  push_cast
  rfl
theorem i_next (i : Nat) (h : i ≤ 140737488351232) : wrap64 ((i : Int) + 1) = ((i + 1 : Nat) : Int) := by rw [wrap_id (by omega) (by omega)]; push_cast; rfl
theorem goI_stop99 (s : ByteArray) (b m n i : Nat) (c : UInt8) (hbt : bt s (i : Int) = (c.toNat : Int)) (h : dig c = 99 ∨ b ≤ dig c) (r : ByteArray × Int) (hr : stopI s n i = some r) : Ev (fun k => goI k s b m n i) r := by
  unfold goI
  rw [hbt]
  refine Ev.bind (dig_ev c) ?_
  by_cases h99 : dig c = 99
  · have e : digI c = -1 := by unfold digI; rw [if_pos h99]
    refine Ev.congr (f := fun _ => stopI s n i) (fun k => ?_) (by rw [hr]; exact Ev.now r)
    rw [e]
    exact if_neg (by omega)
  · have e : digI c = (dig c : Int) := by unfold digI; rw [if_neg h99]
    rw [e]
    refine Ev.congr (f := fun k => (r3_digit.f k (c.toNat : Int)).bind fun t118 => (if t118 < (b : Int) then ((r3_digit.f k (c.toNat : Int)).bind fun t119 => (r3_number.l0 k s b m (wrap64 ((wrap64 ((n : Int) * b)) + t119)) (wrap64 ((i : Int) + 1)))) else stopI s n i)) (fun k => if_pos (by omega)) ?_
    refine Ev.bind (dig_ev c) ?_
    rw [e]
    exact Ev.congr (f := fun _ => stopI s n i) (fun k => if_neg (by omega)) (by rw [hr]; exact Ev.now r)
theorem goI_on (s : ByteArray) (b m n i : Nat) (hb : b ≤ 16) (hn : n < 268435456) (hi : i ≤ 140737488351232) (c : UInt8) (hbt : bt s (i : Int) = (c.toNat : Int)) (h : dig c < b) (r : ByteArray × Int) (hr : Ev (fun k => r3_number.l0 k s b m ((n * b + dig c : Nat) : Int) ((i + 1 : Nat) : Int)) r) : Ev (fun k => goI k s b m n i) r := by
  unfold goI
  rw [hbt]
  have e : digI c = (dig c : Int) := by unfold digI; rw [if_neg (by omega)]
  refine Ev.bind (dig_ev c) ?_
  rw [e]
  refine Ev.congr (f := fun k => (r3_digit.f k (c.toNat : Int)).bind fun t118 => (if t118 < (b : Int) then ((r3_digit.f k (c.toNat : Int)).bind fun t119 => (r3_number.l0 k s b m (wrap64 ((wrap64 ((n : Int) * b)) + t119)) (wrap64 ((i : Int) + 1)))) else stopI s n i)) (fun k => if_pos (by omega)) ?_
  refine Ev.bind (dig_ev c) ?_
  rw [e]
  refine Ev.congr (f := fun k => (r3_digit.f k (c.toNat : Int)).bind fun t119 => (r3_number.l0 k s b m (wrap64 ((wrap64 ((n : Int) * b)) + t119)) (wrap64 ((i : Int) + 1)))) (fun k => if_pos (by omega)) ?_
  refine Ev.bind (dig_ev c) ?_
  rw [e, num_next b n hb hn (dig c) (by omega), i_next i hi]
  exact hr
theorem number_from (s : ByteArray) (hz : s.size ≤ 140737488351232) (b m : Nat) (hb : b ≤ 16) (hm : m ≤ 7) : ∀ (d i n : Nat), i + d = s.size → i ≤ m → n < 16 ^ i →
    Ev (fun k => r3_number.l0 k s b m n i) ((⟨(numF b m n i ((bl s).drop i)).1.toArray⟩ : ByteArray), ((numF b m n i ((bl s).drop i)).2 : Int)) := by
  intro d
  induction d with
  | zero =>
    intro i n hi him hn
    have he : (bl s).drop i = [] := List.drop_of_length_le (by rw [bl_length]; omega)
    rw [he]
    exact Ev.step (f := fun _ => some ((⟨#[]⟩ : ByteArray), 0)) (fun k => l0_end k s b m n i (by omega)) (Ev.now _)
  | succ d ih =>
    intro i n hi him hn
    have hil : i < (bl s).length := by rw [bl_length]; omega
    obtain ⟨c, hc⟩ : ∃ c, (bl s)[i]? = some c := ⟨_, List.getElem?_eq_getElem hil⟩
    have hdr : (bl s).drop i = c :: (bl s).drop (i + 1) := by
      rw [List.drop_eq_getElem_cons hil]
      congr 1
      have := List.getElem?_eq_getElem hil
      rw [hc] at this
      exact (Option.some.inj this).symm
    have hbt := bt_at s i c hc
    have hn7 : n < 268435456 := by
      have := Nat.pow_le_pow_right (n := 16) (by omega) (show i ≤ 7 by omega)
      have e : (16 : Nat) ^ 7 = 268435456 := by decide
      omega
    have hst := stop_eq s n i c (by omega) hbt
    rw [hdr]
    simp only [numF]
    by_cases hm2 : i < m
    · refine Ev.step (fun k => l0_go k s b m n i (by omega) hm2) ?_
      by_cases hd : dig c < b
      · rw [if_pos ⟨hm2, hd⟩]
        have hmul : n * b ≤ n * 16 := Nat.mul_le_mul_left n hb
        exact goI_on s b m n i hb hn7 (by omega) c hbt hd _ (ih (i + 1) (n * b + dig c) (by omega) (by omega) (by rw [Nat.pow_succ]; omega))
      · rw [if_neg (fun x => hd x.2)]
        exact goI_stop99 s b m n i c hbt (.inr (by omega)) _ hst
    · rw [if_neg (fun x => hm2 x.1)]
      refine Ev.step (f := fun _ => stopI s n i) (fun k => l0_stop k s b m n i (by omega) hm2) ?_
      rw [hst]
      exact Ev.now _
theorem number_ev (s : ByteArray) (hz : s.size ≤ 140737488351232) (b m : Nat) (hb : b ≤ 16) (hm : m ≤ 7) :
    Ev (fun k => r3_number.f k s b m) ((⟨(numF b m 0 0 (bl s)).1.toArray⟩ : ByteArray), ((numF b m 0 0 (bl s)).2 : Int)) :=
  number_from s hz b m hb hm s.size 0 0 (by omega) (by omega) (by decide)
end Go.Proofs.YtpknhgejnfmijaaGreatDoor.E
end
section
namespace Go.Proofs.YtpknhgejnfmijaaGreatDoor.E
open Go Go.RowKit Go.Proofs.YtpknhgejnfmijaaGreatDoorW.PrintWords Go.Proofs.YtpknhgejnfmijaaGreatDoor.U Go.Proofs.YtpknhgejnfmijaaGreatDoor.PU Go.Proofs.YtpknhgejnfmijaaGreatDoor.PC
set_option linter.unusedVariables false
set_option linter.unusedSimpArgs false
abbrev L5 : List ByteArray := [(⟨#[38, 97, 109, 112, 59]⟩ : ByteArray), (⟨#[38, 108, 116, 59]⟩ : ByteArray), (⟨#[38, 103, 116, 59]⟩ : ByteArray), (⟨#[38, 113, 117, 111, 116, 59]⟩ : ByteArray), (⟨#[38, 97, 112, 111, 115, 59]⟩ : ByteArray)]
theorem ref_step (k : Nat) (s : ByteArray) (hz : s.size ≤ 140737488351232) (i : Nat) (hi : i < 5) (p : ByteArray) (hp : rdOf ByteArray.empty L5 (i : Int) = p) :
    r3_Reference.l0 (k + 1) s L5 (i : Int) = if beg (bl s) (bl p) = true then some ((⟨#[38, 60, 62, 34, 39]⟩ : ByteArray).extract i (i + 1), (p.size : Int)) else r3_Reference.l0 k s L5 ((i + 1 : Nat) : Int) := by
  simp only [r3_Reference.l0]
  have h5 : ((L5.length : Nat) : Int) = 5 := rfl
  have hw : wrap64 ((i : Int) + 1) = ((i + 1 : Nat) : Int) := by rw [wrap_id (by omega) (by omega)]; push_cast; rfl
  rw [h5, if_pos (by omega), if_pos (by omega), hp, beg_eq s p hz]
  simp only [Option.bind_some]
  by_cases hb : beg (bl s) (bl p) = true
  · rw [if_pos hb, if_pos hb, hw, if_pos (by omega), if_pos (by omega), Int.toNat_natCast, Int.toNat_natCast]
  · rw [if_neg hb, if_neg hb, hw]
theorem wrap_add_one (c n : Nat) (h : c + n ≤ 1000) : wrap64 ((wrap64 ((c : Int) + (n : Int))) + 1) = ((c + n + 1 : Nat) : Int) := by
  rw [wrap_id (n := (c : Int) + (n : Int)) (by omega) (by omega), wrap_id (by omega) (by omega)]
  push_cast
  rfl
theorem bl_drop3 (s : ByteArray) (t : List UInt8) (a b c : UInt8) (h : bl s = a :: b :: c :: t) : bl (s.extract 3 s.size) = t := by rw [bl_from, h]; rfl
theorem bl_drop2 (s : ByteArray) (t : List UInt8) (a b : UInt8) (h : bl s = a :: b :: t) : bl (s.extract 2 s.size) = t := by rw [bl_from, h]; rfl
theorem ref_last (s : ByteArray) (hz : s.size ≤ 140737488351232) (h0 : beg (bl s) [38, 97, 109, 112, 59] = false) (h1 : beg (bl s) [38, 108, 116, 59] = false) (h2 : beg (bl s) [38, 103, 116, 59] = false) (h3 : beg (bl s) [38, 113, 117, 111, 116, 59] = false) (h4 : beg (bl s) [38, 97, 112, 111, 115, 59] = false) :
    Ev (fun k => r3_Reference.l0 k s L5 ((5 : Nat) : Int)) ((⟨(refR (bl s)).1.toArray⟩ : ByteArray), ((refR (bl s)).2 : Int)) := by
  have e1 := beg_eq s ⟨#[38, 35, 120]⟩ hz
  have e2 := beg_eq s ⟨#[38, 35]⟩ hz
  have h5 : ¬ (((5 : Nat) : Int) < ((L5.length : Nat) : Int)) := by show ¬ ((5 : Int) < 5); omega
  by_cases hx : beg (bl s) [38, 35, 120] = true
  · obtain ⟨t, ht⟩ := (beg_iff _ _).mp hx
    have ht' : bl s = 38 :: 35 :: 120 :: t := ht
    have hl : 3 ≤ s.size := by rw [← bl_length, ht']; simp
    have hb3 := bl_drop3 s t _ _ _ ht'
    have hz3 : (s.extract 3 s.size).size ≤ 140737488351232 := by rw [← bl_length, hb3]; have := congrArg List.length ht'; rw [bl_length] at this; simp at this; omega
    rw [ht', ref_hex]
    refine Ev.step (f := fun k => (r3_number.f k (s.extract 3 s.size) 16 6).bind fun bt130 => (if bt130.1.toList = ([] : List UInt8) then (some ((⟨#[]⟩ : ByteArray), 0)) else (some (bt130.1, wrap64 ((wrap64 (3 + bt130.2)) + 1))))) (fun k => ?_) ?_
    · simp only [r3_Reference.l0]
      rw [if_neg h5, e1, show beg (bl s) (bl ⟨#[38, 35, 120]⟩) = true from hx]
      simp only [Option.bind_some, if_true]
      rw [if_pos (by omega)]
    · refine Ev.bind (number_ev (s.extract 3 s.size) hz3 16 6 (by decide) (by decide)) ?_
      rw [hb3]
      refine ⟨0, fun k _ => ?_⟩
      have hn2 : (numF 16 6 0 0 t).2 ≤ 6 := by
        rw [numF_cut 16 6 (by decide) t 0 0 (by decide)]
        cases cut t with
        | none => simp
        | some h =>
          simp only
          split
          · rename_i hh; simp only; omega
          · simp
      generalize numF 16 6 0 0 t = q at hn2
      obtain ⟨o, n⟩ := q
      simp only at hn2 ⊢
      rw [toList_bl]
      by_cases ho : o = []
      · rw [if_pos (show bl ⟨o.toArray⟩ = [] from ho), if_pos ho]
        rfl
      · rw [if_neg (show ¬ bl ⟨o.toArray⟩ = [] from ho), if_neg ho, (show wrap64 ((wrap64 (3 + (n : Int))) + 1) = ((3 + n + 1 : Nat) : Int) from wrap_add_one 3 n (by omega))]
  · have hx' : beg (bl s) [38, 35, 120] = false := by simpa using hx
    by_cases hd : beg (bl s) [38, 35] = true
    · obtain ⟨t, ht⟩ := (beg_iff _ _).mp hd
      have ht' : bl s = 38 :: 35 :: t := ht
      have hl : 2 ≤ s.size := by rw [← bl_length, ht']; simp
      have hb2 := bl_drop2 s t _ _ ht'
      have hz2 : (s.extract 2 s.size).size ≤ 140737488351232 := by rw [← bl_length, hb2]; have := congrArg List.length ht'; rw [bl_length] at this; simp at this; omega
      have hnx : ∀ h, t ≠ 120 :: h := by
        rintro h rfl
        exact hx ((beg_iff _ _).mpr ⟨h, ht'⟩)
      rw [ht', ref_dec t hnx]
      refine Ev.step (f := fun k => (r3_number.f k (s.extract 2 s.size) 10 7).bind fun bt133 => (if bt133.1.toList = ([] : List UInt8) then (some ((⟨#[]⟩ : ByteArray), 0)) else (some (bt133.1, wrap64 ((wrap64 (2 + bt133.2)) + 1))))) (fun k => ?_) ?_
      · simp only [r3_Reference.l0]
        rw [if_neg h5, e1, show beg (bl s) (bl ⟨#[38, 35, 120]⟩) = false from hx', e2, show beg (bl s) (bl ⟨#[38, 35]⟩) = true from hd]
        simp only [Option.bind_some, if_true, Bool.false_eq_true, if_false]
        rw [if_pos (by omega)]
      · refine Ev.bind (number_ev (s.extract 2 s.size) hz2 10 7 (by decide) (by decide)) ?_
        rw [hb2]
        refine ⟨0, fun k _ => ?_⟩
        have hn2 : (numF 10 7 0 0 t).2 ≤ 7 := by
          rw [numF_cut 10 7 (by decide) t 0 0 (by decide)]
          cases cut t with
          | none => simp
          | some h =>
            simp only
            split
            · rename_i hh; simp only; omega
            · simp
        generalize numF 10 7 0 0 t = q at hn2
        obtain ⟨o, n⟩ := q
        simp only at hn2 ⊢
        rw [toList_bl]
        by_cases ho : o = []
        · rw [if_pos (show bl ⟨o.toArray⟩ = [] from ho), if_pos ho]
          rfl
        · rw [if_neg (show ¬ bl ⟨o.toArray⟩ = [] from ho), if_neg ho, (show wrap64 ((wrap64 (2 + (n : Int))) + 1) = ((2 + n + 1 : Nat) : Int) from wrap_add_one 2 n (by omega))]
    · have hd' : beg (bl s) [38, 35] = false := by simpa using hd
      rw [ref_rest (bl s) h0 h1 h2 h3 h4 hd']
      refine Ev.step (f := fun _ => some ((⟨#[]⟩ : ByteArray), 0)) (fun k => ?_) (Ev.now _)
      simp only [r3_Reference.l0]
      rw [if_neg h5, e1, show beg (bl s) (bl ⟨#[38, 35, 120]⟩) = false from hx', e2, show beg (bl s) (bl ⟨#[38, 35]⟩) = false from hd']
      simp
theorem ref_Reference_ev (s : ByteArray) (hz : s.size ≤ 140737488351232) : Ev (fun k => r3_Reference.f k s) ((⟨(refR (bl s)).1.toArray⟩ : ByteArray), ((refR (bl s)).2 : Int)) := by
  have hit : ∀ (nm x : List UInt8), nameR nm = x → x ≠ [] → (59 : UInt8) ∉ nm → beg (bl s) (38 :: (nm ++ [59])) = true → refR (bl s) = (x, nm.length + 2) := fun nm x h1 h2 h3 h4 => ref_beg _ nm x h1 h2 h3 h4
  show Ev (fun k => r3_Reference.l0 k s L5 ((0 : Nat) : Int)) _
  refine Ev.step (fun k => ref_step k s hz 0 (by decide) ⟨#[38, 97, 109, 112, 59]⟩ rfl) ?_
  by_cases b0 : beg (bl s) [38, 97, 109, 112, 59] = true
  · rw [hit [97, 109, 112] [38] (by decide) (by decide) (by decide) b0]
    exact ⟨0, fun k _ => (if_pos b0).trans (by rfl)⟩
  refine Ev.congr (f := fun k => r3_Reference.l0 k s L5 ((1 : Nat) : Int)) (fun k => if_neg b0) ?_
  refine Ev.step (fun k => ref_step k s hz 1 (by decide) ⟨#[38, 108, 116, 59]⟩ rfl) ?_
  by_cases b1 : beg (bl s) [38, 108, 116, 59] = true
  · rw [hit [108, 116] [60] (by decide) (by decide) (by decide) b1]
    exact ⟨0, fun k _ => (if_pos b1).trans (by rfl)⟩
  refine Ev.congr (f := fun k => r3_Reference.l0 k s L5 ((2 : Nat) : Int)) (fun k => if_neg b1) ?_
  refine Ev.step (fun k => ref_step k s hz 2 (by decide) ⟨#[38, 103, 116, 59]⟩ rfl) ?_
  by_cases b2 : beg (bl s) [38, 103, 116, 59] = true
  · rw [hit [103, 116] [62] (by decide) (by decide) (by decide) b2]
    exact ⟨0, fun k _ => (if_pos b2).trans (by rfl)⟩
  refine Ev.congr (f := fun k => r3_Reference.l0 k s L5 ((3 : Nat) : Int)) (fun k => if_neg b2) ?_
  refine Ev.step (fun k => ref_step k s hz 3 (by decide) ⟨#[38, 113, 117, 111, 116, 59]⟩ rfl) ?_
  by_cases b3 : beg (bl s) [38, 113, 117, 111, 116, 59] = true
  · rw [hit [113, 117, 111, 116] [34] (by decide) (by decide) (by decide) b3]
    exact ⟨0, fun k _ => (if_pos b3).trans (by rfl)⟩
  refine Ev.congr (f := fun k => r3_Reference.l0 k s L5 ((4 : Nat) : Int)) (fun k => if_neg b3) ?_
  refine Ev.step (fun k => ref_step k s hz 4 (by decide) ⟨#[38, 97, 112, 111, 115, 59]⟩ rfl) ?_
  by_cases b4 : beg (bl s) [38, 97, 112, 111, 115, 59] = true
  · rw [hit [97, 112, 111, 115] [39] (by decide) (by decide) (by decide) b4]
    exact ⟨0, fun k _ => (if_pos b4).trans (by rfl)⟩
  refine Ev.congr (f := fun k => r3_Reference.l0 k s L5 ((5 : Nat) : Int)) (fun k => if_neg b4) ?_
  exact ref_last s hz (by simpa using b0) (by simpa using b1) (by simpa using b2) (by simpa using b3) (by simpa using b4)
end Go.Proofs.YtpknhgejnfmijaaGreatDoor.E
end
section
namespace Go.Proofs.YtpknhgejnfmijaaGreatDoor.E
open Go Go.RowKit Go.Proofs.YtpknhgejnfmijaaGreatDoorW.PrintWords Go.Proofs.YtpknhgejnfmijaaGreatDoor.U Go.Proofs.YtpknhgejnfmijaaGreatDoor.PU Go.Proofs.YtpknhgejnfmijaaGreatDoor.PC
set_option linter.unusedVariables false
set_option linter.unusedSimpArgs false
def nextI (k : Nat) (s out : ByteArray) (pos : Nat) : Option (ByteArray × Int × Int) :=
  (r1_Next.f k (s.extract pos s.size)).bind fun bt137 => (if bt137.2.2 = 0 then (if (pos : Int) ≤ (wrap64 ((pos : Int) + bt137.2.1)) then (if (wrap64 ((pos : Int) + bt137.2.1)) ≤ (s.size : Int) then (if out.size + (s.extract pos ((wrap64 ((pos : Int) + bt137.2.1)) : Int).toNat).size ≤ 9223372036854775807 then (r3_Decode.l0 k s (out ++ (s.extract pos ((wrap64 ((pos : Int) + bt137.2.1)) : Int).toNat)) (wrap64 ((pos : Int) + bt137.2.1))) else (none)) else (none)) else (none)) else (some ((⟨#[]⟩ : ByteArray), (pos : Int), bt137.2.2)))
def bodyI (k : Nat) (s out : ByteArray) (pos : Nat) : Option (ByteArray × Int × Int) :=
  (r3_Reference.f k (s.extract pos s.size)).bind fun bt135 => (if bt135.2 > 0 then (if out.size + bt135.1.size ≤ 9223372036854775807 then (r3_Decode.l0 k s (out ++ bt135.1) (wrap64 ((pos : Int) + bt135.2))) else (none)) else (if (bt s (pos : Int)) = 38 then (some ((⟨#[]⟩ : ByteArray), (pos : Int), 30)) else nextI k s out pos))
theorem dec_body (k : Nat) (s out : ByteArray) (pos : Nat) (h : pos < s.size) : r3_Decode.l0 (k + 1) s out pos = bodyI k s out pos := by
  simp only [r3_Decode.l0]
  rw [if_pos (by omega), if_pos (by omega), if_pos (by omega), Int.toNat_natCast]
  rfl
theorem dec_stop (k : Nat) (s out : ByteArray) (pos : Nat) (h : ¬ pos < s.size) : r3_Decode.l0 (k + 1) s out pos = some (out, 0, 0) := by
  simp only [r3_Decode.l0]
  rw [if_neg (by omega)]
theorem pos_add (pos n : Nat) (h : pos + n ≤ 1000000000) : wrap64 ((pos : Int) + (n : Int)) = ((pos + n : Nat) : Int) := by
  rw [wrap_id (by omega) (by omega)]
  push_cast
  rfl
theorem size_mk (l : List UInt8) : (⟨l.toArray⟩ : ByteArray).size = l.length := by rw [← bl_length]
variable {s out : ByteArray} {pos : Nat} {rest : List UInt8} {r : ByteArray × Int × Int}
theorem body_ref (hz : s.size ≤ 1000000000) (hp : pos ≤ s.size) (ho : out.size ≤ 4000000000) (hrest : rest = (bl s).drop pos) (hr : (refR rest).2 ≠ 0)
    (h : Ev (fun k => r3_Decode.l0 k s (out ++ ⟨(refR rest).1.toArray⟩) ((pos + (refR rest).2 : Nat) : Int)) r) : Ev (fun k => bodyI k s out pos) r := by
  have hbl : bl (s.extract pos s.size) = rest := by rw [bl_from, hrest]
  have hrl : rest.length = s.size - pos := by rw [hrest, List.length_drop, bl_length]
  have hxz : (s.extract pos s.size).size ≤ 140737488351232 := by rw [← bl_length, hbl, hrl]; omega
  have h1 := refR_le rest
  have h4 := X.refR_out_le rest
  have hE := ref_Reference_ev _ hxz
  rw [hbl] at hE
  unfold bodyI
  refine Ev.bind hE ?_
  refine Ev.congr (fun k => ?_) h
  simp only
  rw [if_pos (by omega), if_pos (by have := size_mk (refR rest).1; omega), pos_add pos _ (by omega)]
theorem body_other (hz : s.size ≤ 1000000000) (hp : pos ≤ s.size) (hrest : rest = (bl s).drop pos) (hr : (refR rest).2 = 0)
    (h : Ev (fun k => if (bt s (pos : Int)) = 38 then (some ((⟨#[]⟩ : ByteArray), (pos : Int), 30)) else nextI k s out pos) r) : Ev (fun k => bodyI k s out pos) r := by
  have hbl : bl (s.extract pos s.size) = rest := by rw [bl_from, hrest]
  have hrl : rest.length = s.size - pos := by rw [hrest, List.length_drop, bl_length]
  have hxz : (s.extract pos s.size).size ≤ 140737488351232 := by rw [← bl_length, hbl, hrl]; omega
  have hE := ref_Reference_ev _ hxz
  rw [hbl, hr] at hE
  unfold bodyI
  refine Ev.bind hE ?_
  refine Ev.congr (fun k => ?_) h
  exact if_neg (by show ¬ ((0 : Nat) : Int) > 0; omega)
theorem next_bad (hz : s.size ≤ 1000000000) (hp : pos ≤ s.size) (hrest : rest = (bl s).drop pos) (hne : rest ≠ []) (hx : (nx rest).2 = 0) : Ev (fun k => nextI k s out pos) ((⟨#[]⟩ : ByteArray), (pos : Int), 10) := by
  have hbl : bl (s.extract pos s.size) = rest := by rw [bl_from, hrest]
  have hrl : rest.length = s.size - pos := by rw [hrest, List.length_drop, bl_length]
  have hxz : (s.extract pos s.size).size ≤ 140737488351232 := by rw [← bl_length, hbl, hrl]; omega
  have hE := ref_Next_ev _ hxz
  rw [hbl, nextR_err rest hne hx] at hE
  unfold nextI
  refine Ev.bind hE ?_
  exact ⟨0, fun k _ => if_neg (by decide)⟩
theorem next_good (hz : s.size ≤ 1000000000) (hp : pos ≤ s.size) (ho : out.size ≤ 4000000000) (hrest : rest = (bl s).drop pos) (hx : (nx rest).2 ≠ 0)
    (h : Ev (fun k => r3_Decode.l0 k s (out ++ ⟨(rest.take (nx rest).2).toArray⟩) ((pos + (nx rest).2 : Nat) : Int)) r) : Ev (fun k => nextI k s out pos) r := by
  have hbl : bl (s.extract pos s.size) = rest := by rw [bl_from, hrest]
  have hrl : rest.length = s.size - pos := by rw [hrest, List.length_drop, bl_length]
  have hxz : (s.extract pos s.size).size ≤ 140737488351232 := by rw [← bl_length, hbl, hrl]; omega
  obtain ⟨_, _, _, _, _, h6, h7, h8, _⟩ := nx_good rest hx
  have hE := ref_Next_ev _ hxz
  rw [hbl, nextR_ok rest hx] at hE
  have hex : s.extract pos (pos + (nx rest).2) = ⟨(rest.take (nx rest).2).toArray⟩ := by
    apply bl_inj
    rw [bl_extract, ← hrest, Nat.add_sub_cancel_left]
  unfold nextI
  refine Ev.bind hE ?_
  refine Ev.congr (fun k => ?_) h
  simp only
  rw [if_pos trivial, pos_add pos _ (by omega), if_pos (by omega), if_pos (by omega), Int.toNat_natCast, hex, if_pos (by have := size_mk (rest.take (nx rest).2); rw [List.length_take] at this; omega)]
def told (s out : ByteArray) (pos : Nat) (rest : List UInt8) : ByteArray × Int × Int :=
  if (D rest).2.2 = 0 then (out ++ ⟨(D rest).1.toArray⟩, 0, 0) else ((⟨#[]⟩ : ByteArray), ((pos + (D rest).2.1 : Nat) : Int), ((D rest).2.2 : Int))
theorem told_go (s out : ByteArray) (pos : Nat) (hne : rest ≠ []) (o : List UInt8) (n : Nat) (hs : stepR rest = (o, n, 0)) : told s out pos rest = told s (out ++ ⟨o.toArray⟩) (pos + n) (rest.drop n) := by
  unfold told
  rw [D_go rest hne (by rw [hs]), hs]
  simp only
  have ea : out ++ (⟨o.toArray⟩ : ByteArray) ++ ⟨(D (rest.drop n)).1.toArray⟩ = out ++ ⟨(o ++ (D (rest.drop n)).1).toArray⟩ := by
    apply bl_inj
    rw [bl_append, bl_append, bl_append]
    simp
  rw [ea, Nat.add_assoc]
theorem told_bad (s out : ByteArray) (pos : Nat) (hne : rest ≠ []) (e : Nat) (he : e ≠ 0) (hs : (stepR rest).2.2 = e) : told s out pos rest = ((⟨#[]⟩ : ByteArray), (pos : Int), (e : Int)) := by
  unfold told
  rw [D_bad rest hne (by rw [hs]; exact he), hs, if_neg he]
  rfl
theorem ref_Decode_from (s : ByteArray) (hz : s.size ≤ 1000000000) : ∀ (d pos : Nat) (out : ByteArray), pos + d = s.size → out.size ≤ 4 * pos →
    Ev (fun k => r3_Decode.l0 k s out pos) (told s out pos ((bl s).drop pos)) := by
  intro d
  induction d using Nat.strongRecOn with
  | _ d ih =>
    intro pos out hd ho
    by_cases h0 : d = 0
    · have he : (bl s).drop pos = [] := List.drop_of_length_le (by rw [bl_length]; omega)
      have et : told s out pos [] = (out, 0, 0) := by
        unfold told
        rw [D_nil, if_pos rfl]
        have e : out ++ (⟨([] : List UInt8).toArray⟩ : ByteArray) = out := by
          apply bl_inj
          rw [bl_append]
          simp
        rw [e]
      rw [he, et]
      exact Ev.step (f := fun _ => some (out, 0, 0)) (fun k => dec_stop k s out pos (by omega)) (Ev.now _)
    · obtain ⟨rest, hrest⟩ : ∃ rest, rest = (bl s).drop pos := ⟨_, rfl⟩
      have hrl : rest.length = s.size - pos := by rw [hrest, List.length_drop, bl_length]
      have hne : rest ≠ [] := by intro e; rw [e] at hrl; simp at hrl; omega
      have hle := stepR_le rest
      have hol := X.stepR_out_le rest
      have hdrop : ∀ n, rest.drop n = (bl s).drop (pos + n) := fun n => by rw [hrest, List.drop_drop]
      have goOn : ∀ (o : List UInt8) (n : Nat), stepR rest = (o, n, 0) → Ev (fun k => r3_Decode.l0 k s (out ++ ⟨o.toArray⟩) ((pos + n : Nat) : Int)) (told s out pos rest) := by
        intro o n hs
        have hp := stepR_pos rest (by rw [hs])
        rw [hs] at hle hol hp
        simp only at hle hol hp
        rw [told_go s out pos hne o n hs, hdrop]
        exact ih (d - n) (by omega) (pos + n) (out ++ ⟨o.toArray⟩) (by omega) (by have := size_mk o; rw [ByteArray.size_append]; omega)
      rw [← hrest]
      refine Ev.step (fun k => dec_body k s out pos (by omega)) ?_
      by_cases hr : (refR rest).2 = 0
      · refine body_other hz (by omega) hrest hr ?_
        obtain ⟨c, rt, hc⟩ : ∃ c rt, rest = c :: rt := by
          cases rest with
          | nil => exact absurd rfl hne
          | cons c rt => exact ⟨c, rt, rfl⟩
        have hbt := bt_at s pos c (by
          have : ((bl s).drop pos)[0]? = some c := by rw [← hrest, hc]; rfl
          rwa [List.getElem?_drop, Nat.add_zero] at this)
        rw [hbt]
        by_cases h38 : c = 38
        · subst h38
          rw [told_bad s out pos hne 30 (by decide) (by unfold stepR; rw [if_neg (by rw [hr]; decide), if_pos (by rw [hc]; rfl)])]
          exact ⟨0, fun k _ => if_pos rfl⟩
        · have hh : rest.head? ≠ some 38 := by rw [hc]; intro e; exact h38 (by simpa using e)
          have hst : stepR rest = if (nx rest).2 = 0 then ([], 0, 10) else (rest.take (nx rest).2, (nx rest).2, 0) := by
            unfold stepR
            rw [if_neg (by rw [hr]; decide), if_neg hh]
          refine Ev.congr (f := fun k => nextI k s out pos) (fun k => if_neg (by intro e; exact h38 (UInt8.toNat_inj.mp (by have : (38 : UInt8).toNat = 38 := rfl; omega)))) ?_
          by_cases hx0 : (nx rest).2 = 0
          · rw [if_pos hx0] at hst
            rw [told_bad s out pos hne 10 (by decide) (by rw [hst])]
            exact next_bad hz (by omega) hrest hne hx0
          · rw [if_neg hx0] at hst
            exact next_good hz (by omega) (by omega) hrest hx0 (goOn _ _ hst)
      · have hs : stepR rest = ((refR rest).1, (refR rest).2, 0) := by unfold stepR; rw [if_pos hr]
        exact body_ref hz (by omega) (by omega) hrest hr (goOn _ _ hs)
theorem ref_Decode_ev (s : ByteArray) (hz : s.size ≤ 1000000000) : Ev (fun k => r3_Decode.f k s) ((⟨(X.decR (bl s)).1.toArray⟩ : ByteArray), (X.decR (bl s)).2.1, (X.decR (bl s)).2.2) := by
  have h := ref_Decode_from s hz s.size 0 ⟨#[]⟩ (by omega) (by decide)
  rw [List.drop_zero] at h
  have e : told s ⟨#[]⟩ 0 (bl s) = ((⟨(X.decR (bl s)).1.toArray⟩ : ByteArray), (X.decR (bl s)).2.1, (X.decR (bl s)).2.2) := by
    unfold told X.decR
    by_cases h0 : (D (bl s)).2.2 = 0
    · rw [if_pos h0, if_pos h0]
      have e : (⟨#[]⟩ : ByteArray) ++ ⟨(D (bl s)).1.toArray⟩ = ⟨(D (bl s)).1.toArray⟩ := by
        apply bl_inj
        rw [bl_append]
        rfl
      rw [e]
    · rw [if_neg h0, if_neg h0, Nat.zero_add]
  rw [e] at h
  exact h
end Go.Proofs.YtpknhgejnfmijaaGreatDoor.E
end
section
namespace Go.Proofs.YtpknhgejnfmijaaGreatDoor.T
open Go.Proofs.YtpknhgejnfmijaaGreatDoor.M (wrap_id)
open Go.Proofs.YtpknhgejnfmijaaGreatDoor.U (bl bl_length bl_extract toList_bl bl_from bl_inj)
open Go Go.RowKit Go.Proofs.YtpknhgejnfmijaaGreatDoorW.PrintWords Go.Proofs.YtpknhgejnfmijaaGreatDoorW.PrintMore Go.Proofs.YtpknhgejnfmijaaGreatDoor.K Go.Proofs.YtpknhgejnfmijaaGreatDoor.PC Go.Proofs.YtpknhgejnfmijaaGreatDoor.X
set_option linter.unusedVariables false
set_option linter.unusedSimpArgs false
theorem readL_acc (al : Nat) : ∀ (rs : List Raw) (acc acc' : List (List UInt8 × List UInt8)), (readL al rs acc).2 = (readL al rs acc').2 := by
  intro rs
  induction rs with
  | nil => intro _ _; rfl
  | cons a rs ih =>
    intro acc acc'
    unfold readL
    by_cases he : (E.D a.value).2.2 ≠ 0
    · rw [if_pos he, if_pos he]
    · rw [if_neg he, if_neg he]
      exact ih _ _
theorem readL_map (al : Nat) : ∀ (rs : List Raw) (acc : List (List UInt8 × List UInt8)), (readL al rs acc).2.2 = 0 → (readL al rs acc).1 = acc ++ rs.map fun r => (r.name, (E.D r.value).1) := by
  intro rs
  induction rs with
  | nil => intro acc _; simp [readL]
  | cons a rs ih =>
    intro acc h
    unfold readL at h ⊢
    by_cases he : (E.D a.value).2.2 ≠ 0
    · rw [if_pos he] at h; exact absurd h he
    · rw [if_neg he] at h ⊢
      rw [ih _ h]
      simp
def decS (al : Nat) (r : Raw) : S66 := ⟨⟨r.name.toArray⟩, ⟨(E.D r.value).1.toArray⟩, ((al - r.left : Nat) : Int)⟩
abbrev ReadT := Int × ByteArray × (List S66) × ByteArray × Int × Int × Int
def readE (al p : Nat) (kd : Int) (nm : ByteArray) (rs : List Raw) (tx : ByteArray) (y : Nat × Nat) : ReadT :=
  if y.2 ≠ 0 then (0, ⟨#[]⟩, [], ⟨#[]⟩, 0, (y.1 : Int), (y.2 : Int)) else if 32 < rs.length then (0, ⟨#[]⟩, [], ⟨#[]⟩, 0, (p : Int), 3) else (kd, nm, rs.map (decS al), tx, (p : Int), 0, 0)
theorem rdS (l : List S66) (i : Nat) (h : i < l.length) : rd_T66 l (i : Int) = l[i] := rdR l i h
theorem read_l0 (al p : Nat) (kd : Int) (nm : ByteArray) (tx : ByteArray) (rs : List Raw) (hal : al ≤ 1000000) (hr : ∀ a ∈ rs, a.left ≤ al ∧ a.value.length ≤ a.left) (hn : rs.length ≤ 1000000) : ∀ (d i : Nat), i + d = rs.length →
    Ev (fun k => r4_read.l0 k i kd nm ((rs.take i).map (decS al) ++ (rs.drop i).map (rawS al)) tx p) (readE al p kd nm rs tx (readL al (rs.drop i) []).2) := by
  intro d
  induction d with
  | zero =>
    intro i hi
    obtain rfl : i = rs.length := by omega
    rw [List.drop_length, List.take_length]
    refine Ev.step (f := fun _ => some (readE al p kd nm rs tx (0, 0))) (fun k => ?_) (Ev.now _)
    simp only [r4_read.l0, List.map_nil, List.append_nil, List.length_map]
    rw [if_neg (by omega)]
    have e : readE al p kd nm rs tx (0, 0) = if 32 < rs.length then (0, ⟨#[]⟩, [], ⟨#[]⟩, 0, (p : Int), 3) else (kd, nm, rs.map (decS al), tx, (p : Int), 0, 0) := if_neg (show ¬ ((0, 0) : Nat × Nat).2 ≠ 0 by simp)
    rw [e]
    by_cases h : 32 < rs.length
    · rw [if_pos (by omega), if_pos h]
    · rw [if_neg (by omega), if_neg h]
  | succ d ih =>
    intro i hi
    have hlt : i < rs.length := by omega
    obtain ⟨h1, h2⟩ := hr rs[i] (List.getElem_mem hlt)
    have hlen : (((rs.take i).map (decS al) ++ (rs.drop i).map (rawS al)).length : Int) = rs.length := by
      rw [List.length_append, List.length_map, List.length_map, List.length_take, List.length_drop]; omega
    have hget : rd_T66 ((rs.take i).map (decS al) ++ (rs.drop i).map (rawS al)) (i : Int) = rawS al rs[i] := by
      rw [rdS _ i (by omega), List.getElem_append_right (by rw [List.length_map, List.length_take]; omega)]
      simp [List.length_take, Nat.min_eq_left (Nat.le_of_lt hlt)]
    have hset : ∀ v, ((rs.take i).map (decS al) ++ (rs.drop i).map (rawS al)).set i v = (rs.take i).map (decS al) ++ v :: (rs.drop (i + 1)).map (rawS al) := by
      intro v
      have hz : i - ((rs.take i).map (decS al)).length = 0 := by rw [List.length_map, List.length_take]; omega
      rw [List.set_append_right _ _ (by rw [List.length_map, List.length_take]; omega), List.drop_eq_getElem_cons hlt, hz]
      rfl
    have hsz : (⟨(rs[i]).value.toArray⟩ : ByteArray).size = (rs[i]).value.length := by simp [ByteArray.size]
    have hD := E.ref_Decode_ev ⟨(rs[i]).value.toArray⟩ (by omega)
    rw [show bl ⟨(rs[i]).value.toArray⟩ = (rs[i]).value from rfl] at hD
    have hDle := (E.D_le _ (rs[i]).value (Nat.le_refl _)).1
    rw [List.drop_eq_getElem_cons hlt]
    unfold readL
    refine Ev.step (f := fun k => ((r3_Decode.f k (⟨(rs[i]).value.toArray⟩ : ByteArray)).bind fun bt224 => (if bt224.2.2 = 0 then (r4_read.l0 k ((i + 1 : Nat) : Int) kd nm ((rs.take i).map (decS al) ++ (⟨(rawS al rs[i]).f0, bt224.1, (rawS al rs[i]).f2⟩ : S66) :: (rs.drop (i + 1)).map (rawS al)) tx p) else (some ((0 : Int), (⟨#[]⟩ : ByteArray), ([] : List S66), (⟨#[]⟩ : ByteArray), (0 : Int), wrap64 (((rawS al rs[i]).f2) + bt224.2.1), bt224.2.2))))) (fun k => ?_) (Ev.bind hD ?_)
    · rw [← List.drop_eq_getElem_cons hlt]
      simp only [r4_read.l0]
      rw [if_pos (by omega), if_pos (by omega), hget, wrap_id (n := (i : Int) + 1) (by omega) (by omega)]
      simp only [Int.toNat_natCast, hset]
      rfl
    · unfold decR
      by_cases he : (E.D (rs[i]).value).2.2 = 0
      · rw [if_pos he, if_neg (by simpa using he)]
        simp only
        refine Ev.congr (fun k => by rw [if_pos trivial]) ?_
        have := ih (i + 1) (by omega)
        rw [List.take_succ_eq_append_getElem hlt, List.map_append, List.append_assoc] at this
        rw [readL_acc al (rs.drop (i + 1)) _ []]
        exact this
      · rw [if_neg he, if_pos he]
        simp only
        refine Ev.congr (fun k => ?_) (Ev.now _)
        rw [if_neg (by omega)]
        unfold readE rawS
        simp only
        rw [if_pos he, wrap_id (by omega) (by omega)]
        rfl
theorem read_ev (al p : Nat) (kd : Int) (nm : ByteArray) (tx : ByteArray) (rs : List Raw) (hal : al ≤ 1000000) (hr : ∀ a ∈ rs, a.left ≤ al ∧ a.value.length ≤ a.left) (hn : rs.length ≤ 1000000) :
    Ev (fun k => r4_read.f k kd nm (rs.map (rawS al)) tx p) (readE al p kd nm rs tx (readL al rs []).2) := read_l0 al p kd nm tx rs hal hr hn rs.length 0 (by omega)
structure RefTok (x : S36) (t : Tok) : Prop where
  k : x.f0 = (t.kind : Int)
  n : x.f1 = ⟨t.name.toArray⟩
  a : x.f2.map (fun a => (a.f0, a.f1)) = t.attrs.map fun a => ((⟨a.1.toArray⟩ : ByteArray), (⟨a.2.toArray⟩ : ByteArray))
  tx : x.f3 = ⟨t.text.toArray⟩
  at_ : x.f4 = (t.at_ : Int)
def Refs : List S36 → List Tok → Prop
  | [], [] => True
  | x :: xs, t :: ts => RefTok x t ∧ Refs xs ts
  | _, _ => False
theorem Refs.snoc {x : S36} {t : Tok} (h : RefTok x t) : ∀ {xs ts}, Refs xs ts → Refs (xs ++ [x]) (ts ++ [t]) := by
  intro xs
  induction xs with
  | nil =>
    intro ts hr
    cases ts with
    | nil => exact ⟨h, trivial⟩
    | cons u ts => exact hr.elim
  | cons y xs ih =>
    intro ts hr
    cases ts with
    | nil => exact hr.elim
    | cons u ts => exact ⟨hr.1, ih hr.2⟩
theorem Refs.at_ : ∀ {xs ts}, Refs xs ts → xs.length = ts.length ∧ ∀ i (h1 : i < xs.length) (h2 : i < ts.length), RefTok xs[i] ts[i] := by
  intro xs
  induction xs with
  | nil =>
    intro ts hr
    cases ts with
    | nil => exact ⟨rfl, fun i h1 => absurd h1 (by simp)⟩
    | cons u ts => exact hr.elim
  | cons y xs ih =>
    intro ts hr
    cases ts with
    | nil => exact hr.elim
    | cons u ts =>
      obtain ⟨h1, h2⟩ := ih hr.2
      refine ⟨by simp [h1], fun i => ?_⟩
      cases i with
      | zero => exact fun _ _ => hr.1
      | succ i => exact fun a b => h2 i (by simpa using a) (by simpa using b)
end Go.Proofs.YtpknhgejnfmijaaGreatDoor.T
end
section
namespace Go.Proofs.YtpknhgejnfmijaaGreatDoor.T
open Go.Proofs.YtpknhgejnfmijaaGreatDoor.M (wrap_id)
open Go.Proofs.YtpknhgejnfmijaaGreatDoor.U (bl bl_length bl_extract toList_bl bl_from bl_inj)
open Go Go.RowKit Go.Proofs.YtpknhgejnfmijaaGreatDoorW.PrintWords Go.Proofs.YtpknhgejnfmijaaGreatDoorW.PrintMore Go.Proofs.YtpknhgejnfmijaaGreatDoor.K Go.Proofs.YtpknhgejnfmijaaGreatDoor.PC Go.Proofs.YtpknhgejnfmijaaGreatDoor.X
set_option linter.unusedVariables false
set_option linter.unusedSimpArgs false
abbrev OutT := (List S36) × Int × Int
def Tells (g : Nat → Option OutT) (z : List Tok × Nat × Nat) : Prop := ∃ ys, Ev g (ys, (z.2.1 : Int), (z.2.2 : Int)) ∧ Refs ys z.1
theorem Tells.step {g f : Nat → Option OutT} {z} (h : ∀ k, g (k + 1) = f k) (k : Tells f z) : Tells g z := let ⟨ys, h1, h2⟩ := k; ⟨ys, Ev.step h h1, h2⟩
theorem Tells.congr {g f : Nat → Option OutT} {z} (h : ∀ k, g k = f k) (k : Tells f z) : Tells g z := let ⟨ys, h1, h2⟩ := k; ⟨ys, Ev.congr h h1, h2⟩
theorem Tells.bind {α : Type} {g : Nat → Option α} {f : Nat → α → Option OutT} {a : α} {z} (h : Ev g a) (k : Tells (fun n => f n a) z) : Tells (fun n => (g n).bind (f n)) z := let ⟨ys, h1, h2⟩ := k; ⟨ys, Ev.bind h h1, h2⟩
theorem Tells.fail (p e : Nat) : Tells (fun _ => some ([], (p : Int), (e : Int))) ([], p, e) := ⟨[], Ev.now _, trivial⟩
theorem Tokens_text (s : ByteArray) (hz : s.size ≤ 65536) (m p : Nat) (acc : List Tok) (xs : List S36) (hp : p < s.size) (hr : Refs xs acc) (hx : xs.length + (s.size - p) ≤ 1000000) (c : UInt8) (t0 : List UInt8) (hc : c ≠ 60) (hD : (bl s).drop p = c :: t0)
    (next : ∀ p' acc' xs', p < p' → p' ≤ s.size → Refs xs' acc' → xs'.length + (s.size - p') ≤ 1000000 → Tells (fun k => r4_Tokens.l0 k s xs' (p' : Int)) (tokensF s.size m ((bl s).drop p') acc')) :
    Tells (fun k => r4_Tokens.l0 k s xs (p : Int)) (tokensF s.size (m + 1) ((bl s).drop p) acc) := by
  have hs := bl_length s
  have hl := len_at s p
  have hbt : bt s (p : Int) = (c.toNat : Int) := by
    rw [btA s p (by omega)]
    have : (bl s)[p]'(by omega) = c := by
      have h := List.drop_eq_getElem_cons (l := bl s) (i := p) (by omega)
      rw [hD] at h
      exact (List.cons.inj h).1.symm
    rw [this]
  have hne : ¬ (c.toNat : Int) = 60 := fun h => hc (UInt8.toNat_inj.mp (by have : (60 : UInt8).toNat = 60 := rfl; omega))
  obtain ⟨hw1, hw2⟩ := while_find ((bl s).drop p)
  have hfe := find_ev s ⟨#[60]⟩ (by omega) (by decide) (by decide) (s.size - p) p (by omega) rfl
  unfold findI at hfe
  rw [show bl ⟨#[60]⟩ = [60] from rfl] at hfe
  obtain ⟨e, he0, hee, he1, hfind⟩ : ∃ e, 0 < e ∧ p + e ≤ s.size ∧ (findL [60] ((bl s).drop p)).getD ((bl s).drop p).length = e ∧ ((findL [60] ((bl s).drop p) = none ∧ p + e = s.size) ∨ findL [60] ((bl s).drop p) = some e) := by
    cases hf : findL [60] ((bl s).drop p) with
    | none => exact ⟨s.size - p, by omega, by omega, hl, .inl ⟨rfl, by omega⟩⟩
    | some i =>
      have h1 := (findL_lt _ _ _ hf).1
      refine ⟨i, ?_, by omega, rfl, .inr rfl⟩
      cases i with
      | succ i => omega
      | zero =>
        have := (findL_lt _ _ _ hf).2
        rw [List.drop_zero, hD, one_prefix] at this
        exact absurd (by simpa using this) (fun h : 60 = c => hc h.symm)
  rw [he1] at hw1 hw2
  have hbx : bl (s.extract p (p + e)) = ((bl s).drop p).take e := by rw [bl_extract, Nat.add_sub_cancel_left]
  have hDec := E.ref_Decode_ev (s.extract p (p + e)) (by rw [← bl_length, hbx, List.length_take]; omega)
  rw [hbx] at hDec
  have hDle := (E.D_le _ (((bl s).drop p).take e) (Nat.le_refl _)).1
  rw [List.length_take, hl] at hDle
  have hrem : remarkL ((bl s).drop p) = none := by
    rw [hD]
    unfold remarkL
    rw [if_neg (fun hh => hc (pre_head _ _ _ _ hh).symm), if_neg (fun hh => hc (pre_head _ _ _ _ hh).symm)]
  rw [tokensF, if_neg (by rw [hD]; simp), hrem]
  simp only
  unfold tokenL
  rw [if_neg (show ¬ ((bl s).drop p).head? = some 60 by rw [hD]; simpa using hc), hw1, hw2, drop_at, hl, show s.size - (s.size - p) = p by omega]
  have body : Tells (fun k => (r3_Decode.f k (s.extract p (p + e))).bind fun bt232 => (if bt232.2.2 = 0 then (if xs.length < 1954687338268 then (r4_Tokens.l0 k s (xs ++ [(⟨4, (⟨#[]⟩ : ByteArray), ([] : List S66), bt232.1, (p : Int)⟩ : S36)]) ((p + e : Nat) : Int)) else (none)) else (some (([] : List S36), wrap64 ((p : Int) + bt232.2.1), bt232.2.2))))
      (if (if (E.D (((bl s).drop p).take e)).2.2 ≠ 0 then ((⟨0, [], [], [], 0⟩ : Tok), p + (E.D (((bl s).drop p).take e)).2.1, (E.D (((bl s).drop p).take e)).2.2, ([] : List UInt8)) else (⟨4, [], [], (E.D (((bl s).drop p).take e)).1, p⟩, 0, 0, (bl s).drop (p + e))).2.2.1 ≠ 0 then ([], (if (E.D (((bl s).drop p).take e)).2.2 ≠ 0 then ((⟨0, [], [], [], 0⟩ : Tok), p + (E.D (((bl s).drop p).take e)).2.1, (E.D (((bl s).drop p).take e)).2.2, ([] : List UInt8)) else (⟨4, [], [], (E.D (((bl s).drop p).take e)).1, p⟩, 0, 0, (bl s).drop (p + e))).2.1, (if (E.D (((bl s).drop p).take e)).2.2 ≠ 0 then ((⟨0, [], [], [], 0⟩ : Tok), p + (E.D (((bl s).drop p).take e)).2.1, (E.D (((bl s).drop p).take e)).2.2, ([] : List UInt8)) else (⟨4, [], [], (E.D (((bl s).drop p).take e)).1, p⟩, 0, 0, (bl s).drop (p + e))).2.2.1)
       else tokensF s.size m (if (E.D (((bl s).drop p).take e)).2.2 ≠ 0 then ((⟨0, [], [], [], 0⟩ : Tok), p + (E.D (((bl s).drop p).take e)).2.1, (E.D (((bl s).drop p).take e)).2.2, ([] : List UInt8)) else (⟨4, [], [], (E.D (((bl s).drop p).take e)).1, p⟩, 0, 0, (bl s).drop (p + e))).2.2.2 (acc ++ [(if (E.D (((bl s).drop p).take e)).2.2 ≠ 0 then ((⟨0, [], [], [], 0⟩ : Tok), p + (E.D (((bl s).drop p).take e)).2.1, (E.D (((bl s).drop p).take e)).2.2, ([] : List UInt8)) else (⟨4, [], [], (E.D (((bl s).drop p).take e)).1, p⟩, 0, 0, (bl s).drop (p + e))).1])) := by
    refine Tells.bind hDec ?_
    unfold decR
    by_cases hE : (E.D (((bl s).drop p).take e)).2.2 = 0
    · simp only [hE, ne_eq, not_true_eq_false, if_false, if_true]
      refine Tells.congr (fun k => ?_) (next (p + e) (acc ++ [(⟨4, [], [], (E.D (((bl s).drop p).take e)).1, p⟩ : Tok)]) (xs ++ [⟨4, ⟨#[]⟩, [], ⟨(E.D (((bl s).drop p).take e)).1.toArray⟩, (p : Int)⟩]) (by omega) hee (Refs.snoc ⟨rfl, rfl, rfl, rfl, rfl⟩ hr) (by simp; omega))
      rw [if_pos (by omega)]
    · simp only [hE, ne_eq, not_false_eq_true, if_true, if_false]
      refine Tells.congr (fun k => ?_) (Tells.fail _ _)
      rw [if_neg (by omega), wrap_id (by omega) (by omega)]
      rfl
  refine Tells.step (f := fun k => (r4_find.f k s (p : Int) (⟨#[60]⟩ : ByteArray)).bind fun t231 => (if t231 < 0 then (if (p : Int) ≤ (s.size : Int) then (if (s.size : Int) ≤ (s.size : Int) then ((r3_Decode.f k (s.extract (p : Int).toNat ((s.size : Int) : Int).toNat)).bind fun bt232 => (if bt232.2.2 = 0 then (if xs.length < 1954687338268 then (r4_Tokens.l0 k s (xs ++ [(⟨4, (⟨#[]⟩ : ByteArray), ([] : List S66), bt232.1, (p : Int)⟩ : S36)]) (s.size : Int)) else (none)) else (some (([] : List S36), wrap64 ((p : Int) + bt232.2.1), bt232.2.2)))) else (none)) else (none)) else (if (p : Int) ≤ t231 then (if t231 ≤ (s.size : Int) then ((r3_Decode.f k (s.extract (p : Int).toNat (t231 : Int).toNat)).bind fun bt238 => (if bt238.2.2 = 0 then (if xs.length < 1954687338268 then (r4_Tokens.l0 k s (xs ++ [(⟨4, (⟨#[]⟩ : ByteArray), ([] : List S66), bt238.1, (p : Int)⟩ : S36)]) t231) else (none)) else (some (([] : List S36), wrap64 ((p : Int) + bt238.2.1), bt238.2.2)))) else (none)) else (none)))) (fun k => ?_) (Tells.bind hfe ?_)
  · simp only [r4_Tokens.l0]
    rw [if_pos (by omega), if_pos (by omega), hbt, if_neg hne]
  · rcases hfind with ⟨hf, hpe⟩ | hf
    · rw [hf]
      simp only
      refine Tells.congr (fun k => ?_) body
      rw [if_pos (by decide), if_pos (by omega), if_pos (by omega), hpe]
      simp only [Int.toNat_natCast]
    · rw [hf]
      simp only
      refine Tells.congr (fun k => ?_) body
      rw [if_neg (by omega), if_pos (by omega), if_pos (by omega)]
      simp only [Int.toNat_natCast]
theorem Tokens_tag (s : ByteArray) (hz : s.size ≤ 65536) (m p : Nat) (acc : List Tok) (xs : List S36) (hp : p < s.size) (hr : Refs xs acc) (hx : xs.length + (s.size - p) ≤ 1000000) (t0 : List UInt8) (hD : (bl s).drop p = 60 :: t0)
    (next : ∀ p' acc' xs', p < p' → p' ≤ s.size → Refs xs' acc' → xs'.length + (s.size - p') ≤ 1000000 → Tells (fun k => r4_Tokens.l0 k s xs' (p' : Int)) (tokensF s.size m ((bl s).drop p') acc')) :
    Tells (fun k => r4_Tokens.l0 k s xs (p : Int)) (tokensF s.size (m + 1) ((bl s).drop p) acc) := by
  have hs := bl_length s
  have hl := len_at s p
  have hbt : bt s (p : Int) = 60 := by
    rw [btA s p (by omega)]
    have : (bl s)[p]'(by omega) = 60 := by
      have h := List.drop_eq_getElem_cons (l := bl s) (i := p) (by omega)
      rw [hD] at h
      exact (List.cons.inj h).1.symm
    rw [this]
    rfl
  rw [tokensF, if_neg (by rw [hD]; simp)]
  have hR := remark_ev s (by omega) p (by omega)
  have hT := tag_ev s (by omega) p hp t0 hD
  refine Tells.step (f := fun k => (r4_remark.f k s (p : Int)).bind fun t244 => (if t244 > 0 then (r4_Tokens.l0 k s xs (wrap64 ((p : Int) + t244))) else ((r4_tag.f k s (p : Int)).bind fun bt245 => (if bt245.2.2.2.2.2 = 0 then (some (([] : List S36), (p : Int), (40 : Int))) else ((r4_read.f k bt245.1 bt245.2.1 bt245.2.2.1 bt245.2.2.2.1 bt245.2.2.2.2.1).bind fun bt254 => (if bt254.2.2.2.2.2.2 = 0 then (if xs.length < 1954687338268 then (r4_Tokens.l0 k s (xs ++ [(⟨bt254.1, bt254.2.1, bt254.2.2.1, bt254.2.2.2.1, bt254.2.2.2.2.1⟩ : S36)]) (wrap64 ((p : Int) + bt245.2.2.2.2.2))) else (none)) else (some (([] : List S36), bt254.2.2.2.2.2.1, bt254.2.2.2.2.2.2)))))))) (fun k => ?_) (Tells.bind hR ?_)
  · simp only [r4_Tokens.l0]
    rw [if_pos (by omega), if_pos (by omega), hbt, if_pos rfl]
  unfold remN
  cases hrm : remarkL ((bl s).drop p) with
  | some r =>
    have h1 := remark_lt _ _ hrm
    have h2 := suf_drop (remarkL_suf _ _ hrm)
    rw [drop_at] at h2
    simp only
    refine Tells.congr (f := fun k => r4_Tokens.l0 k s xs ((p + (((bl s).drop p).length - r.length) : Nat) : Int)) (fun k => ?_) ?_
    · rw [if_pos (by omega), wrap_id (by omega) (by omega)]
      rfl
    · have := next (p + (((bl s).drop p).length - r.length)) acc xs (by omega) (by omega) hr (by omega)
      rw [← h2] at this
      exact this
  | none =>
    simp only
    refine Tells.congr (fun k => by rw [if_neg (by omega)]) (Tells.bind hT ?_)
    unfold tokenL tagE
    rw [if_pos (show ((bl s).drop p).head? = some 60 by rw [hD]; rfl), hl, show s.size - (s.size - p) = p by omega]
    cases htg : tagL ((bl s).drop p) with
    | none =>
      simp only
      refine Tells.congr (fun k => ?_) (Tells.fail p 40)
      rw [if_pos (show noTag.2.2.2.2.2 = 0 from rfl)]
      rfl
    | some x =>
      obtain ⟨kd, n, rs, rest⟩ := x
      have h1 := (tagL_suf _ _ _ _ _ htg).1.trans (drop_suf 1 _)
      have h1l := (tagL_suf _ _ _ _ _ htg).1.length_le
      rw [List.length_drop, hl] at h1l
      have h2 := suf_drop h1
      rw [drop_at, hl] at h2
      have h3 := tagL_left _ _ _ _ _ htg
      have h4 : rs.length ≤ s.size - p := by have := (tagL_more _ _ _ _ _ htg).2.1; omega
      have hRd := read_ev s.size p (kd : Int) ⟨n.toArray⟩ ⟨#[]⟩ rs (by omega) (fun a ha => ⟨by have := (h3 a ha).1; omega, (h3 a ha).2⟩) (by omega)
      simp only
      refine Tells.congr (fun k => by rw [if_neg (by omega)]) (Tells.bind hRd ?_)
      have hmap := readL_map s.size rs []
      unfold readE
      generalize hy : readL s.size rs [] = Y at hmap
      obtain ⟨ax, pl, er⟩ := Y
      simp only at hmap ⊢
      by_cases he : er ≠ 0
      · simp only [if_pos he]
        refine Tells.congr (fun k => ?_) (Tells.fail pl er)
        rw [if_neg (by omega)]
      · simp only [if_neg he]
        by_cases h32 : 32 < rs.length
        · simp only [if_pos h32]
          refine Tells.congr (fun k => ?_) (Tells.fail p 3)
          rw [if_neg (by decide)]
          rfl
        · simp only [if_neg h32]
          obtain rfl : er = 0 := by omega
          refine Tells.congr (f := fun k => r4_Tokens.l0 k s (xs ++ [⟨(kd : Int), ⟨n.toArray⟩, rs.map (decS s.size), ⟨#[]⟩, (p : Int)⟩]) ((p + (s.size - p - rest.length) : Nat) : Int)) (fun k => ?_) ?_
          · rw [if_pos trivial, if_pos (by omega), wrap_id (by omega) (by omega)]
            rfl
          · rw [if_neg (by simp)]
            have := next (p + (s.size - p - rest.length)) (acc ++ [(⟨kd, n, ax, [], p⟩ : Tok)]) (xs ++ [⟨(kd : Int), ⟨n.toArray⟩, rs.map (decS s.size), ⟨#[]⟩, (p : Int)⟩]) (by omega) (by omega) (Refs.snoc ⟨rfl, rfl, by rw [hmap rfl]; simp [decS, Function.comp_def], rfl, rfl⟩ hr) (by simp; omega)
            rw [← h2] at this
            exact this
end Go.Proofs.YtpknhgejnfmijaaGreatDoor.T
end
section
namespace Go.Proofs.YtpknhgejnfmijaaGreatDoor.T
open Go.Proofs.YtpknhgejnfmijaaGreatDoor.M (wrap_id)
open Go.Proofs.YtpknhgejnfmijaaGreatDoor.U (bl bl_length bl_extract toList_bl bl_from bl_inj)
open Go Go.RowKit Go.Proofs.YtpknhgejnfmijaaGreatDoorW.PrintWords Go.Proofs.YtpknhgejnfmijaaGreatDoorW.PrintMore Go.Proofs.YtpknhgejnfmijaaGreatDoor.K Go.Proofs.YtpknhgejnfmijaaGreatDoor.PC Go.Proofs.YtpknhgejnfmijaaGreatDoor.X
set_option linter.unusedVariables false
set_option linter.unusedSimpArgs false
theorem Tokens_l0 (s : ByteArray) (hz : s.size ≤ 65536) : ∀ (m p : Nat) (acc : List Tok) (xs : List S36), s.size - p ≤ m → p ≤ s.size → Refs xs acc → xs.length + (s.size - p) ≤ 1000000 → Tells (fun k => r4_Tokens.l0 k s xs (p : Int)) (tokensF s.size m ((bl s).drop p) acc) := by
  have hs := bl_length s
  have fin : ∀ (m : Nat) (acc : List Tok) (xs : List S36), Refs xs acc → Tells (fun k => r4_Tokens.l0 k s xs (s.size : Int)) (tokensF s.size m ((bl s).drop s.size) acc) := by
    intro m acc xs hr
    have hD : (bl s).drop s.size = [] := List.drop_of_length_le (by omega)
    have e : tokensF s.size m ((bl s).drop s.size) acc = (acc, 0, 0) := by
      rw [hD]
      cases m <;> simp [tokensF]
    rw [e]
    refine ⟨xs, Ev.step (f := fun _ => some (xs, 0, 0)) (fun k => ?_) (Ev.now _), hr⟩
    simp only [r4_Tokens.l0]
    rw [if_neg (by omega)]
  intro m
  induction m with
  | zero =>
    intro p acc xs hm hp hr hx
    obtain rfl : p = s.size := by omega
    exact fin _ acc xs hr
  | succ m ih =>
    intro p acc xs hm hp hr hx
    by_cases hpe : p = s.size
    · subst hpe; exact fin _ acc xs hr
    · have hlt : p < s.size := by omega
      cases hD : (bl s).drop p with
      | nil =>
        have := len_at s p
        rw [hD] at this
        simp at this
        omega
      | cons c t0 =>
        rw [← hD]
        by_cases hc : c = 60
        · subst hc
          exact Tokens_tag s hz m p acc xs hlt hr hx t0 hD (fun p' acc' xs' h1 h2 h3 h4 => ih p' acc' xs' (by omega) h2 h3 h4)
        · exact Tokens_text s hz m p acc xs hlt hr hx c t0 hc hD (fun p' acc' xs' h1 h2 h3 h4 => ih p' acc' xs' (by omega) h2 h3 h4)
theorem Tokens_ev (s : ByteArray) (hz : s.size ≤ 140737488351232) : Tells (fun k => r4_Tokens.f k s) (tokensL (bl s)) := by
  have hs := bl_length s
  unfold tokensL
  by_cases h : 65536 < s.size
  · rw [if_pos (by omega)]
    refine Tells.congr (fun k => ?_) (Tells.fail 0 3)
    unfold r4_Tokens.f
    rw [if_pos (by omega)]
    rfl
  · rw [if_neg (by omega)]
    refine Tells.congr (f := fun k => (r1_Valid.f k s).bind fun bt229 => (if bt229.2 = 0 then (r4_Tokens.l0 k s ([] : List S36) 0) else (some (([] : List S36), bt229.1, bt229.2)))) (fun k => ?_) (Tells.bind (U.ref_Valid_ev s hz) ?_)
    · unfold r4_Tokens.f
      rw [if_neg (by omega)]
    · have hv : U.validR (bl s) = ((((U.validR (bl s)).1.toNat : Nat) : Int), (U.validR (bl s)).2) ∧ ((U.validR (bl s)).2 = 0 ∨ (U.validR (bl s)).2 = 10) := by
        unfold U.validR
        split
        · exact ⟨by simp, .inr rfl⟩
        · exact ⟨rfl, .inl rfl⟩
      by_cases h0 : (U.validR (bl s)).2 = 0
      · rw [if_neg (by omega)]
        refine Tells.congr (fun k => by rw [if_pos h0]) ?_
        have := Tokens_l0 s (by omega) (bl s).length 0 [] [] (by omega) (by omega) trivial (by simp; omega)
        rw [List.drop_zero, ← hs] at this
        exact this
      · rw [if_pos h0]
        refine Tells.congr (fun k => ?_) (Tells.fail _ 10)
        rw [if_neg h0]
        have h10 := hv.2.resolve_left h0
        rw [h10]
        have h1 := congrArg Prod.fst hv.1
        simp only at h1
        rw [h1]
        rfl
structure Kept (x0 x : List S33) (i : Nat) : Prop where
  len : x.length = x0.length
  at_ : ∀ j, i ≤ j → x[j]? = x0[j]?
theorem rdK (x : List S33) (i : Nat) (t : S33) (h : x[i]? = some t) : rd_T33 x (i : Int) = t := by
  unfold rd_T33
  rw [Int.toNat_natCast, List.getD_eq_getElem?_getD, h]
  rfl
theorem cuts_l2 (s : ByteArray) (ys : List S36) (p e : Int) (n : Nat) (x0 : List S33) (i : Nat) (hi : i < x0.length) (hb : ∀ t ∈ x0, t.f2.length ≤ 1000000) (hl : x0.length ≤ 1000000)
    (next : ∀ x, Kept x0 x (i + 1) → Ev (fun k => w4_TokenCuts.l1 k s ys p e (n : Int) x ((i + 1 : Nat) : Int)) true) :
    ∀ (d j : Nat) (x : List S33) (t : S33), x[i]? = some t → j + d = t.f2.length → t.f2.length ≤ 1000000 → Kept x0 x (i + 1) → Ev (fun k => w4_TokenCuts.l2 k s ys p e (n : Int) x (i : Int) (j : Int)) true := by
  intro d
  induction d with
  | zero =>
    intro j x t hx hj ht hk
    have hrd := rdK x i t hx
    have hil := hk.len
    refine Ev.step (f := fun k => w4_TokenCuts.l1 k s ys p e (n : Int) (x.set i ⟨0, ⟨#[]⟩, [], ⟨#[]⟩, 0⟩) ((i + 1 : Nat) : Int)) (fun k => ?_) (next _ ⟨by rw [List.length_set]; exact hk.len, fun j hj => by rw [List.getElem?_set_ne (by omega)]; exact hk.at_ j hj⟩)
    simp only [w4_TokenCuts.l2, hrd, Int.toNat_natCast]
    rw [if_pos (by omega), if_pos (by omega), if_neg (by omega), wrap_id (by omega) (by omega)]
    rfl
  | succ d ih =>
    intro j x t hx hj ht hk
    have hrd := rdK x i t hx
    have hil := hk.len
    refine Ev.step (f := fun k => w4_TokenCuts.l2 k s ys p e (n : Int) (x.set i ⟨t.f0, t.f1, t.f2.set j ⟨⟨#[]⟩, ⟨#[]⟩⟩, t.f3, t.f4⟩) (i : Int) ((j + 1 : Nat) : Int)) (fun k => ?_) (ih (j + 1) _ ⟨t.f0, t.f1, t.f2.set j ⟨⟨#[]⟩, ⟨#[]⟩⟩, t.f3, t.f4⟩ (by rw [List.getElem?_set_self (by omega)]) (by simp only [List.length_set]; omega) (by simp only [List.length_set]; omega) ⟨by rw [List.length_set]; exact hk.len, fun j hj => by rw [List.getElem?_set_ne (by omega)]; exact hk.at_ j hj⟩)
    conv => lhs; simp only [w4_TokenCuts.l2, hrd, Int.toNat_natCast]
    rw [if_pos (by omega), if_pos (by omega), if_pos (by omega), if_pos (by omega), wrap_id (by omega) (by omega)]
    rfl
theorem rdY (l : List S36) (i : Nat) (h : i < l.length) : rd_T36 l (i : Int) = l[i] := by
  unfold rd_T36
  rw [Int.toNat_natCast, List.getD_eq_getElem?_getD, List.getElem?_eq_getElem h]
  rfl
theorem is_ref (x : S36) (t : Tok) (h : RefTok x t) (hb : t.attrs.length ≤ 1000000) : Ev (fun k => w4_is.f k (tokS t).f0 (tokS t).f1 (tokS t).f2 (tokS t).f3 (tokS t).f4 x.f0 x.f1 x.f2 x.f3 x.f4) true := by
  obtain ⟨h1, h2, h3, h4, h5⟩ := h
  rw [h1, h2, h4, h5]
  have hl : t.attrs.length = x.f2.length := by
    have := congrArg List.length h3
    simpa using this.symm
  refine is_ev _ _ _ _ _ _ (by simp [tokS, hl]) (by simp only [tokS, List.length_map]; exact hb) (fun i a b => ?_)
  have := congrArg (fun l => l[i]?) h3
  simp only [List.getElem?_map, tokS, List.length_map] at this a ⊢
  rw [List.getElem?_eq_getElem b, List.getElem?_eq_getElem a] at this
  simp only [Option.map_some, Option.some.injEq, Prod.mk.injEq] at this
  simp only [List.getElem_map, attrS]
  exact ⟨this.1.symm, this.2.symm⟩
theorem cuts_l1 (s : ByteArray) (ys : List S36) (p e : Int) (n : Nat) (ts : List Tok) (hr : Refs ys ts) (hb : ∀ t ∈ ts, t.attrs.length ≤ 32) (hl : ts.length ≤ 1000000)
    (next : Ev (fun k => w4_TokenCuts.l0 k s ys p e (wrap64 ((n : Int) + 1))) true) : ∀ (d i : Nat) (x : List S33), i + d = ts.length → Kept (ts.map tokS) x i → Ev (fun k => w4_TokenCuts.l1 k s ys p e (n : Int) x (i : Int)) true := by
  obtain ⟨hyl, hya⟩ := hr.at_
  intro d
  induction d with
  | zero =>
    intro i x hi hk
    have hxl := hk.len
    rw [List.length_map] at hxl
    refine Ev.step (fun k => ?_) next
    simp only [w4_TokenCuts.l1]
    rw [if_neg (by omega)]
  | succ d ih =>
    intro i x hi hk
    have hxl := hk.len
    rw [List.length_map] at hxl
    have hil : i < ts.length := by omega
    have hx : x[i]? = some (tokS ts[i]) := by rw [hk.at_ i (Nat.le_refl _), List.getElem?_map, List.getElem?_eq_getElem hil]; rfl
    have hrd := rdK x i _ hx
    have hry := rdY ys i (by omega)
    have hat := hb ts[i] (List.getElem_mem hil)
    refine Ev.step (f := fun k => (w4_is.f k (tokS ts[i]).f0 (tokS ts[i]).f1 (tokS ts[i]).f2 (tokS ts[i]).f3 (tokS ts[i]).f4 (ys[i]'(by omega)).f0 (ys[i]'(by omega)).f1 (ys[i]'(by omega)).f2 (ys[i]'(by omega)).f3 (ys[i]'(by omega)).f4).bind fun t289 => (if t289 = true then (w4_TokenCuts.l2 k s ys p e (n : Int) x (i : Int) 0) else (some false))) (fun k => ?_) (Ev.bind (is_ref _ _ (hya i (by omega) hil) (by omega)) ?_)
    · simp only [w4_TokenCuts.l1, hrd, hry]
      rw [if_pos (by omega), if_pos (by omega), if_pos (by omega)]
    · refine Ev.congr (fun k => by rw [if_pos rfl]) ?_
      exact cuts_l2 s ys p e n (ts.map tokS) i (by rw [List.length_map]; omega) (fun t ht => by
        obtain ⟨u, hu, rfl⟩ := List.mem_map.mp ht
        have := hb u hu
        simp only [tokS, List.length_map]
        omega) (by rw [List.length_map]; omega) (fun x' hk' => ih (i + 1) x' (by omega) hk') (tokS ts[i]).f2.length 0 x (tokS ts[i]) hx (by omega) (by simp only [tokS, List.length_map]; omega) ⟨hk.len, fun j hj => hk.at_ j (by omega)⟩
theorem cuts_l0 (s : ByteArray) (hz : s.size ≤ 140737488351232) (ys : List S36) (hr : Refs ys (tokensL (bl s)).1) (hb : ∀ t ∈ (tokensL (bl s)).1, t.attrs.length ≤ 32) (hl : (tokensL (bl s)).1.length ≤ 1000000) :
    ∀ (d n : Nat), n + d = 2 → Ev (fun k => w4_TokenCuts.l0 k s ys ((tokensL (bl s)).2.1 : Int) ((tokensL (bl s)).2.2 : Int) (n : Int)) true := by
  obtain ⟨hyl, _⟩ := hr.at_
  intro d
  induction d with
  | zero =>
    intro n hn
    obtain rfl : n = 2 := by omega
    refine Ev.step (f := fun k => (r4_Blank.f k s).bind fun t280 => (if ((bl s).all blank == t280) = true then ((w4_works.f k).bind fun t281 => (some t281)) else (some false))) (fun k => ?_) (Ev.bind (Blank_ev s hz) ?_)
    · simp only [w4_TokenCuts.l0]
      rw [if_neg (by omega)]
      simp only [token_Blank.f]
      rw [if_pos hz, Option.bind_some]
    · exact Ev.congr (fun k => by rw [if_pos (by simp)]) works_bind
  | succ d ih =>
    intro n hn
    have hnext : Ev (fun k => w4_TokenCuts.l0 k s ys ((tokensL (bl s)).2.1 : Int) ((tokensL (bl s)).2.2 : Int) (wrap64 ((n : Int) + 1))) true := by
      have := ih (n + 1) (by omega)
      refine Ev.congr (fun k => ?_) this
      rw [wrap_id (by omega) (by omega)]
      rfl
    refine Ev.step (f := fun k => w4_TokenCuts.j2 k s ys ((tokensL (bl s)).2.1 : Int) ((tokensL (bl s)).2.2 : Int) (n : Int) ((tokensL (bl s)).1.map tokS) false) (fun k => ?_) (Ev.step (f := fun k => w4_TokenCuts.l1 k s ys ((tokensL (bl s)).2.1 : Int) ((tokensL (bl s)).2.2 : Int) (n : Int) ((tokensL (bl s)).1.map tokS) ((0 : Nat) : Int)) (fun k => ?_) (cuts_l1 s ys _ _ n _ hr hb hl hnext (tokensL (bl s)).1.length 0 _ (Nat.zero_add _) ⟨rfl, fun _ _ => rfl⟩))
    · simp only [w4_TokenCuts.l0]
      rw [if_pos (by omega)]
      simp only [token_Tokens.f, Option.bind_some]
      have hyl' : ys.length = (tokensL s.data.toList).1.length := hyl
      rw [if_pos (by rw [List.length_map]; omega), if_pos trivial, show ((((tokensL s.data.toList).2.2 : Nat) : Int) != (((tokensL s.data.toList).2.2 : Nat) : Int)) = false by simp]
    · simp only [w4_TokenCuts.j2]
      rw [if_neg (by simp)]
      rfl
theorem token_attrs (al : Nat) (l : List UInt8) : (tokenL al l).1.attrs.length ≤ 32 := by
  unfold tokenL
  by_cases h0 : l.head? = some 60
  · rw [if_pos h0]
    cases ht : tagL l with
    | none => exact Nat.zero_le _
    | some x =>
      obtain ⟨k, n, rs, rest⟩ := x
      simp only
      by_cases hr : (readL al rs []).2.2 ≠ 0
      · rw [if_pos hr]; exact Nat.zero_le _
      · rw [if_neg hr]
        by_cases h32 : 32 < rs.length
        · rw [if_pos h32]; exact Nat.zero_le _
        · rw [if_neg h32]
          have := readL_lens al rs [] (by omega)
          simp only [List.length_nil] at this
          show (readL al rs []).1.length ≤ 32
          omega
  · rw [if_neg h0]
    split <;> exact Nat.zero_le _
theorem tokensF_attrs (al : Nat) : ∀ (k : Nat) (l : List UInt8) (acc : List Tok), (∀ t ∈ acc, t.attrs.length ≤ 32) → ∀ t ∈ (tokensF al k l acc).1, t.attrs.length ≤ 32 := by
  intro k
  induction k with
  | zero => intro l acc h; exact h
  | succ k ih =>
    intro l acc h
    unfold tokensF
    by_cases h0 : l = []
    · rw [if_pos h0]; exact h
    · rw [if_neg h0]
      cases hr : remarkL l with
      | some r => exact ih r acc h
      | none =>
        simp only
        by_cases he : (tokenL al l).2.2.1 ≠ 0
        · rw [if_pos he]; intro t ht; cases ht
        · rw [if_neg he]
          refine ih _ _ (fun t ht => ?_)
          rcases List.mem_append.mp ht with ht | ht
          · exact h t ht
          · simp only [List.mem_singleton] at ht
            subst ht
            exact token_attrs al l
theorem law_TokenCuts (s : ByteArray) (hz : s.size ≤ 140737488351232) : Ev (fun k => w4_TokenCuts.f k s) true := by
  have hs := bl_length s
  have body : Ev (fun k => w4_TokenCuts.j0 k s false) true := by
    obtain ⟨ys, h1, h2⟩ := Tokens_ev s hz
    have hcnt : (tokensL (bl s)).1.length ≤ 1000000 ∧ ∀ t ∈ (tokensL (bl s)).1, t.attrs.length ≤ 32 := by
      have hc := (tokensL_zero (bl s)).2
      unfold tokensL at hc ⊢
      split
      · exact ⟨by simp, fun t ht => by cases ht⟩
      · rename_i h
        rw [if_neg h] at hc
        split
        · exact ⟨by simp, fun t ht => by cases ht⟩
        · rename_i h'
          rw [if_neg h'] at hc
          exact ⟨by omega, tokensF_attrs _ _ _ _ (fun t ht => by cases ht)⟩
    refine Ev.step (f := fun k => (r4_Tokens.f k s).bind fun bt274 => (w4_TokenCuts.l0 k s bt274.1 bt274.2.1 bt274.2.2 0)) (fun k => ?_) (Ev.bind h1 (cuts_l0 s hz ys h2 hcnt.2 hcnt.1 2 0 rfl))
    simp only [w4_TokenCuts.j0]
    rw [if_neg (by simp)]
  have yes : Ev (fun k => w4_TokenCuts.j0 k s true) true := Ev.step (fun k => by simp only [w4_TokenCuts.j0]; rw [if_pos trivial]) works_bind
  by_cases h : (s.size : Int) > 800
  · by_cases h2 : (s.size : Int) ≤ 65536
    · exact Ev.congr (fun k => by unfold w4_TokenCuts.f; rw [if_pos h, decide_eq_true h2]) yes
    · exact Ev.congr (fun k => by unfold w4_TokenCuts.f; rw [if_pos h, decide_eq_false h2]) body
  · exact Ev.congr (fun k => by unfold w4_TokenCuts.f; rw [if_neg h]) body
end Go.Proofs.YtpknhgejnfmijaaGreatDoor.T
end
