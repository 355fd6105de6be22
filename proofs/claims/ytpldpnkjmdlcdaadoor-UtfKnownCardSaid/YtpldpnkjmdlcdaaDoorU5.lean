/- The statement on pieces of the stage utf, in plain Lean. -/
import Derived.Test.YtpldpnkjmdlcdaaDoorU4
namespace Go.Proofs.YtpldpnkjmdlcdaaDoor.U
open Go Go.RowKit Go.Proofs.YtpldpnkjmdlcdaaDoorW.PrintWords Go.Proofs.YtpldpnkjmdlcdaaDoor.PU
set_option linter.unusedVariables false
set_option linter.unusedSimpArgs false

/-- One round of the loop of the law on pieces, over plain numbers. -/
theorem pieces_step (k : Nat) (s t : ByteArray) (e : Int) (E p n c w : Nat) (hE : E ≤ 300) (hw : p + w ≤ E) (hEs : E ≤ s.size) (hs : s.size ≤ 300) (hn : n ≤ 300) (h1 : 1 ≤ w)
    (hnx : utf_Next.f (s.extract p s.size) = some ((c : Int), (w : Int), 0)) (hx : isx c = true) (he : enc c = ((bl s).drop p).take w) :
    hopscotchlaw01_UtfPieces.l0 (k + 1) s t e E p n = hopscotchlaw01_UtfPieces.l0 k s t e E ((p + w : Nat) : Int) ((n + 1 : Nat) : Int) := by
  simp only [hopscotchlaw01_UtfPieces.l0]
  rw [if_pos (by omega), if_pos (by omega), if_pos (by omega), Int.toNat_natCast, hnx]
  simp only [Option.bind_some]
  have hw1 : wrap64 ((E : Int) - (p : Int)) = (E : Int) - (p : Int) := wrap_id (by omega) (by omega)
  have hw2 : wrap64 ((p : Int) + (w : Int)) = ((p + w : Nat) : Int) := by rw [wrap_id (by omega) (by omega)]; omega
  have hw3 : wrap64 ((n : Int) + 1) = ((n + 1 : Nat) : Int) := by rw [wrap_id (by omega) (by omega)]; omega
  have hput : X.utf_Put.f (c : Int) = some ⟨(enc c).toArray⟩ := by
    rw [utf_Put_eq, X.isI_nat, if_pos hx, Int.toNat_natCast]
  rw [if_pos trivial, if_neg (by omega), hw1, if_neg (by omega), hput, Option.bind_some, hw2, hw3, if_pos (by omega), if_pos (by omega), if_pos]
  rw [toList_bl, toList_bl, bl_mk, bl_extract, he]
  congr 1
  omega

/-- The loop of the law on pieces. -/
theorem pieces_loop (Rf : List UInt8 → Nat × Nat) (stop : ∀ l, (nx l).2 = 0 → Rf l = (0, 0)) (go : ∀ l, (nx l).2 ≠ 0 → Rf l = ((Rf (l.drop (nx l).2)).1 + 1, (Rf (l.drop (nx l).2)).2 + (nx l).2)) (le : ∀ l : List UInt8, (Rf l).2 ≤ l.length ∧ (Rf l).1 ≤ (Rf l).2)
    (fin : ∀ a : List UInt8, (nx (a.drop (Rf a).2)).2 = 0) (s t : ByteArray) (cnt : utf_Count.f s = some ((Rf (bl s)).1 : Int)) (e : Int) (hz : s.size ≤ 300) : ∀ (d p n : Nat), p + d = (Rf (bl s)).2 → n + (Rf ((bl s).drop p)).1 = (Rf (bl s)).1 → p + (Rf ((bl s).drop p)).2 = (Rf (bl s)).2 → n ≤ 300 →
    Ev (fun k => hopscotchlaw01_UtfPieces.j3 k s t e ((Rf (bl s)).2 : Int) ((Rf (bl s)).1 : Int) false) true → Ev (fun k => hopscotchlaw01_UtfPieces.l0 k s t e ((Rf (bl s)).2 : Int) p n) true := by
  intro d
  have hR := le (bl s)
  rw [bl_length] at hR
  induction d using Nat.strongRecOn with
  | _ d ih =>
    intro p n hp hn hb hn3 hj
    by_cases hd : d = 0
    · subst hd
      have hp' : p = (Rf (bl s)).2 := by omega
      have h0 := fin (bl s)
      rw [hp', stop _ h0] at hn
      have hn' : n = (Rf (bl s)).1 := by simpa using hn
      rw [hp', hn']
      refine Ev.step (f := fun k => hopscotchlaw01_UtfPieces.j3 k s t e ((Rf (bl s)).2 : Int) ((Rf (bl s)).1 : Int) false) (fun k => ?_) hj
      simp only [hopscotchlaw01_UtfPieces.l0]
      rw [if_neg (by omega), if_pos trivial, cnt]
      simp
    · by_cases h : (nx ((bl s).drop p)).2 = 0
      · rw [stop _ h] at hb
        simp only at hb
        omega
      · obtain ⟨_, _, hx, he, h5, h6, h7, h8, _⟩ := nx_good _ h
        have hnx : utf_Next.f (s.extract p s.size) = some (((nx ((bl s).drop p)).1 : Int), ((nx ((bl s).drop p)).2 : Int), 0) := by
          rw [utf_Next_eq _ (by rw [← bl_length, bl_from, List.length_drop, bl_length]; omega), bl_from, nextR_ok _ h]
        rw [go _ h] at hn hb
        rw [List.length_drop, bl_length] at h6
        simp only [List.drop_drop] at hn hb
        generalize nx ((bl s).drop p) = q at *
        obtain ⟨c, w⟩ := q
        simp only at *
        have hRd := le ((bl s).drop (p + w))
        refine Ev.step (f := fun k => hopscotchlaw01_UtfPieces.l0 k s t e ((Rf (bl s)).2 : Int) ((p + w : Nat) : Int) ((n + 1 : Nat) : Int)) (fun k => ?_) (ih (d - w) (by omega) (p + w) (n + 1) (by omega) (by omega) (by omega) (by omega) hj)
        exact pieces_step k s t e (Rf (bl s)).2 p n c w (by omega) (by omega) (by omega) hz hn3 h7 hnx hx he

theorem pieces_j3_bad (k : Nat) (s t : ByteArray) (e n : Int) (E : Nat) (he : ¬ e = 0) (hE : E ≤ s.size) (hnx : utf_Next.f (s.extract E s.size) = some (0, 0, 10)) :
    hopscotchlaw01_UtfPieces.j3 (k + 1) s t e E n false = some true := by
  simp only [hopscotchlaw01_UtfPieces.j3]
  rw [if_neg (by simp), if_neg he, if_pos (by omega), if_pos (by omega), Int.toNat_natCast, hnx, Option.bind_some, works]
  rfl

theorem pieces_j3_good (k : Nat) (s t : ByteArray) (E n p1 p2 e2 m m2 : Int) (hs : s.size ≤ 300) (ht : t.size ≤ 300) (h1 : utf_Valid.f (s ++ t) = some (p1, e2)) (h2 : utf_Valid.f t = some (p2, e2))
    (c1 : utf_Count.f (s ++ t) = some m) (c2 : utf_Count.f t = some m2) (hm : m = wrap64 (n + m2)) (hp : ¬ e2 = 0 → p1 = wrap64 (p2 + (s.size : Int))) :
    hopscotchlaw01_UtfPieces.j3 (k + 1) s t 0 E n false = some true := by
  simp only [hopscotchlaw01_UtfPieces.j3]
  rw [if_neg (by simp), if_pos trivial, if_pos (by omega), h1, Option.bind_some, h2, Option.bind_some, if_pos rfl]
  by_cases h : e2 = 0
  · rw [if_pos h, c1, Option.bind_some, c2, Option.bind_some, if_pos hm, works]
    rfl
  · rw [if_neg h, if_pos (hp h), c1, Option.bind_some, c2, Option.bind_some, if_pos hm, works]
    rfl

theorem pieces_j0 (k : Nat) (s t : ByteArray) (p e : Int) (hv : utf_Valid.f s = some (p, e)) :
    hopscotchlaw01_UtfPieces.j0 (k + 1) s t false = hopscotchlaw01_UtfPieces.j1 k s t e (if e = 0 then (s.size : Int) else p) := by
  simp only [hopscotchlaw01_UtfPieces.j0]
  rw [if_neg (by simp), hv, Option.bind_some]
  by_cases h : e = 0
  · rw [if_pos h, if_pos h]
  · rw [if_neg h, if_neg h]

/-- The law behind its guards, over numbers: what the text and the other one hold. -/
theorem pieces_at (s t : ByteArray) (hs : s.size ≤ 300) (ht : t.size ≤ 300) (p e : Int) (hv : utf_Valid.f s = some (p, e)) (E : Nat) (hE : (if e = 0 then (s.size : Int) else p) = (E : Int))
    (hEv : Ev (fun k => hopscotchlaw01_UtfPieces.l0 k s t e E ((0 : Nat) : Int) ((0 : Nat) : Int)) true) : Ev (fun k => hopscotchlaw01_UtfPieces.f k s t) true := by
  refine Ev.congr (f := fun k => hopscotchlaw01_UtfPieces.j0 k s t false) (fun k => ?_) ?_
  · unfold hopscotchlaw01_UtfPieces.f
    rw [if_neg (by omega), decide_eq_false (by omega)]
  · refine Ev.step (fun k => pieces_j0 k s t p e hv) ?_
    rw [hE]
    exact Ev.step (fun k => by simp only [hopscotchlaw01_UtfPieces.j1]; rfl) hEv

theorem pieces_valid (Rf : List UInt8 → Nat × Nat) (stop : ∀ l, (nx l).2 = 0 → Rf l = (0, 0)) (go : ∀ l, (nx l).2 ≠ 0 → Rf l = ((Rf (l.drop (nx l).2)).1 + 1, (Rf (l.drop (nx l).2)).2 + (nx l).2)) (le : ∀ l : List UInt8, (Rf l).2 ≤ l.length ∧ (Rf l).1 ≤ (Rf l).2)
    (fin : ∀ a : List UInt8, (nx (a.drop (Rf a).2)).2 = 0) (app : ∀ a b : List UInt8, (Rf a).2 = a.length → Rf (a ++ b) = ((Rf a).1 + (Rf b).1, (Rf a).2 + (Rf b).2))
    (cnt : ∀ s : ByteArray, s.size ≤ 140737488351232 → utf_Count.f s = some ((Rf (bl s)).1 : Int))
    (val : ∀ s : ByteArray, s.size ≤ 140737488351232 → utf_Valid.f s = some (if (Rf (bl s)).2 < (bl s).length then (((Rf (bl s)).2 : Int), 10) else (0, 0)))
    (s t : ByteArray) (hs : s.size ≤ 300) (ht : t.size ≤ 300) : Ev (fun k => hopscotchlaw01_UtfPieces.f k s t) true := by
  have hR := le (bl s)
  have hRt := le (bl t)
  have vs := val s (by omega)
  have vt := val t (by omega)
  have cs := cnt s (by omega)
  have ct := cnt t (by omega)
  have hsum : (s ++ t).size = s.size + t.size := by rw [ByteArray.size_append]
  have vst := val (s ++ t) (by omega)
  have cst := cnt (s ++ t) (by omega)
  rw [bl_append] at vst cst
  by_cases hb : (Rf (bl s)).2 < (bl s).length
  · rw [if_pos hb] at vs
    refine pieces_at s t hs ht _ _ vs (Rf (bl s)).2 (by rw [if_neg (by decide)]) ?_
    refine pieces_loop Rf stop go le fin s t cs 10 hs (Rf (bl s)).2 0 0 (by omega) (by simp) (by simp) (by omega) ?_
    rw [bl_length] at hb
    refine Ev.step (f := fun _ => some true) (fun k => pieces_j3_bad k s t 10 _ (Rf (bl s)).2 (by decide) (by omega) ?_) (Ev.now _)
    rw [utf_Next_eq _ (by rw [← bl_length, bl_from, List.length_drop, bl_length]; omega), bl_from, nextR_err _ ?_ (fin (bl s))]
    intro e
    have := congrArg List.length e
    rw [List.length_drop, bl_length] at this
    simp at this
    omega
  · rw [if_neg hb] at vs
    have hb' : (Rf (bl s)).2 = (bl s).length := by omega
    have hA := app (bl s) (bl t) hb'
    refine pieces_at s t hs ht _ _ vs (Rf (bl s)).2 (by rw [if_pos rfl, hb', bl_length]) ?_
    refine pieces_loop Rf stop go le fin s t cs 0 hs (Rf (bl s)).2 0 0 (by omega) (by simp) (by simp) (by omega) ?_
    rw [hA, List.length_append] at vst
    rw [hA] at cst
    simp only at vst cst
    rw [bl_length] at hb' hR hRt
    rw [bl_length, bl_length] at vst
    rw [bl_length] at vt
    by_cases hv : (Rf (bl t)).2 < t.size
    · rw [if_pos hv] at vt
      rw [if_pos (by omega)] at vst
      refine Ev.step (f := fun _ => some true) (fun k => pieces_j3_good k s t _ _ _ _ _ _ _ hs ht vst vt cst ct ?_ (fun _ => ?_)) (Ev.now _)
      · rw [wrap_id (by omega) (by omega)]
        omega
      · rw [wrap_id (by omega) (by omega)]
        omega
    · rw [if_neg hv] at vt
      rw [if_neg (by omega)] at vst
      refine Ev.step (f := fun _ => some true) (fun k => pieces_j3_good k s t _ _ _ _ _ _ _ hs ht vst vt cst ct ?_ (fun h => absurd rfl h)) (Ev.now _)
      rw [wrap_id (by omega) (by omega)]
      omega

theorem law_UtfPieces (s t : ByteArray) : Ev (fun k => hopscotchlaw01_UtfPieces.f k s t) true := by
  have skip : ∀ b : Bool, b = true → Ev (fun k => hopscotchlaw01_UtfPieces.j0 k s t b) true := by
    rintro b rfl
    refine Ev.step (f := fun _ => some true) (fun k => ?_) (Ev.now _)
    simp only [hopscotchlaw01_UtfPieces.j0]
    rw [if_pos trivial, works]
    rfl
  by_cases h : s.size > 300
  · refine Ev.congr (fun k => ?_) (skip true rfl)
    unfold hopscotchlaw01_UtfPieces.f
    rw [if_pos (by omega)]
  · by_cases h2 : t.size > 300
    · refine Ev.congr (fun k => ?_) (skip (decide ((t.size : Int) > 300)) (decide_eq_true (by omega)))
      unfold hopscotchlaw01_UtfPieces.f
      rw [if_neg (by omega)]
    · exact pieces_valid R R_stop R_go (fun l => R_le _ l (Nat.le_refl _)) (fun a => nx_end _ a (Nat.le_refl _)) (fun a b => R_append _ a b (Nat.le_refl _)) utf_Count_eq utf_Valid_eq s t (by omega) (by omega)
end Go.Proofs.YtpldpnkjmdlcdaaDoor.U
