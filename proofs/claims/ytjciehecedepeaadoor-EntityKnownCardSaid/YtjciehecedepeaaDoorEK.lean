/- A text of the claim, with what no other text of it needs taken out. -/
import Derived.Test.YtjciehecedepeaaDoorEH
import Derived.Test.YtjciehecedepeaaDoorPE4
import Derived.Test.YtjciehecedepeaaDoorPE5
namespace Go.Proofs.YtjciehecedepeaaDoor.E
open Go Go.RowKit Go.Proofs.YtjciehecedepeaaDoorW.PrintWords Go.Proofs.YtjciehecedepeaaDoor.U Go.Proofs.YtjciehecedepeaaDoor.PU Go.Proofs.YtjciehecedepeaaDoor.PE
set_option linter.unusedVariables false
set_option linter.unusedSimpArgs false
theorem encR_ok (a : Bool) (l : List UInt8) (h : Ok l) : encR a l = (⟨(enR a l).toArray⟩, 0) := by
  have : validR l = (0, 0) := by unfold validR; rw [if_neg (by unfold Ok at h; omega)]
  unfold encR
  rw [this, if_pos rfl]
theorem R_le' (l : List UInt8) : (R l).2 ≤ l.length := (R_le l.length l (Nat.le_refl _)).1
theorem encR_bad (a : Bool) (l : List UInt8) (h : ¬ Ok l) : encR a l = (⟨#[]⟩, 10) := by
  have hr := R_le' l
  have : validR l = (((R l).2 : Int), 10) := by unfold validR; rw [if_pos (by unfold Ok at h; omega)]
  unfold encR
  rw [this, if_neg (show ¬ (10 : Int) = 0 by decide)]
theorem encR_ok_iff (a : Bool) (l : List UInt8) : (encR a l).2 = 0 ↔ Ok l := by
  by_cases h : Ok l
  · rw [encR_ok a l h]; simp [h]
  · rw [encR_bad a l h]; simp [h]
theorem decR_ok (l : List UInt8) (h : (D l).2.2 = 0) : X.decR l = ((D l).1, 0, 0) := by unfold X.decR; rw [if_pos h]
theorem decR_bad (l : List UInt8) (h : (D l).2.2 ≠ 0) : X.decR l = ([], ((D l).2.1 : Int), ((D l).2.2 : Int)) := by unfold X.decR; rw [if_neg h]
theorem toList_mk (l : List UInt8) : (⟨l.toArray⟩ : ByteArray).toList = l := by rw [toList_bl]
theorem D_out_le : ∀ (n : Nat) (l : List UInt8), l.length ≤ n → (D l).1.length ≤ 4 * l.length := by
  intro n
  induction n with
  | zero =>
    intro l hl
    have : l = [] := List.length_eq_zero_iff.mp (by omega)
    subst this
    simp [D_nil]
  | succ n ih =>
    intro l hl
    by_cases h0 : l = []
    · subst h0; simp [D_nil]
    · by_cases h : (stepR l).2.2 = 0
      · have hp := stepR_pos l h
        have hle := stepR_le l
        have h4 := X.stepR_out_le l
        have := ih (l.drop (stepR l).2.1) (by rw [List.length_drop]; omega)
        rw [D_go l h0 h, List.length_append]
        rw [List.length_drop] at this
        omega
      · rw [D_bad l h0 h]; simp
theorem back_j2 (k : Nat) (s : ByteArray) (a : Bool) (hz : s.size ≤ 500) : hopscotchlaw03_EntityBack.j2 (k + 1) s a = some true := by
  simp only [hopscotchlaw03_EntityBack.j2]
  rw [dec_eq s (by omega)]
  simp only [Option.bind_some]
  by_cases h : (D (bl s)).2.2 = 0
  · rw [decR_ok (bl s) h]
    have hlen := D_out_le _ (bl s) (Nat.le_refl _)
    rw [bl_length] at hlen
    have hsz := size_mk (D (bl s)).1
    simp only
    rw [if_pos trivial, enc_eq _ a (by omega)]
    simp only [Option.bind_some]
    rw [if_pos ((encR_ok_iff a _).mpr (ok_D _ (bl s) (Nat.le_refl _))), works]
    rfl
  · rw [decR_bad (bl s) h]
    simp only
    rw [if_neg (by omega), toList_mk, if_pos rfl, works]
    rfl
theorem back_l0 (s w : ByteArray) (a : Bool) (hz : s.size ≤ 500) (hw : w.size ≤ 10000) (hf : ∀ x ∈ bl w, fine a x = true) : ∀ (d i : Nat), i + d = w.size → Ev (fun k => hopscotchlaw03_EntityBack.l0 k s a w i) true := by
  intro d
  induction d with
  | zero =>
    intro i hi
    refine Ev.step (f := fun k => hopscotchlaw03_EntityBack.j2 k s a) (fun k => ?_) (Ev.step (f := fun _ => some true) (fun k => back_j2 k s a hz) (Ev.now _))
    simp only [hopscotchlaw03_EntityBack.l0]
    rw [if_neg (by omega)]
  | succ d ih =>
    intro i hi
    have hil : i < (bl w).length := by rw [bl_length]; omega
    obtain ⟨c, hc⟩ : ∃ c, (bl w)[i]? = some c := ⟨_, List.getElem?_eq_getElem hil⟩
    have hbt := bt_at w i c hc
    have hfc := hf c (List.mem_of_getElem? hc)
    unfold fine at hfc
    have hi1 := i_next i (by omega)
    refine Ev.step (f := fun k => hopscotchlaw03_EntityBack.l0 k s a w ((i + 1 : Nat) : Int)) (fun k => ?_) (ih (i + 1) (by omega))
    simp only [hopscotchlaw03_EntityBack.l0]
    rw [if_pos (by omega), if_pos (by omega), hbt, hi1]
    cases a with
    | true =>
      simp at hfc
      obtain ⟨⟨⟨h1, h2⟩, h3⟩, ⟨h4, h5⟩, h6⟩ := hfc
      rw [if_neg (byte_ne c 60 60 rfl h1), if_neg (byte_ne c 62 62 rfl h2), if_neg (byte_ne c 13 13 rfl h3), if_pos rfl, if_neg (byte_ne c 34 34 rfl h4), if_neg (byte_ne c 9 9 rfl h5), if_neg (byte_ne c 10 10 rfl h6)]
    | false =>
      simp at hfc
      obtain ⟨⟨h1, h2⟩, h3⟩ := hfc
      rw [if_neg (byte_ne c 60 60 rfl h1), if_neg (byte_ne c 62 62 rfl h2), if_neg (byte_ne c 13 13 rfl h3), if_neg (by decide)]
theorem law_EntityBack (s : ByteArray) (a : Bool) : Ev (fun k => hopscotchlaw03_EntityBack.f k s a) true := by
  by_cases h : s.size > 500
  · refine ⟨0, fun k _ => ?_⟩
    show hopscotchlaw03_EntityBack.f k s a = _
    unfold hopscotchlaw03_EntityBack.f
    rw [if_pos (by omega), works]
    rfl
  · have hz : s.size ≤ 500 := by omega
    by_cases hok : Ok (bl s)
    · have hen : (enR a (bl s)).length ≤ 6 * s.size := by have := X.enR_le a (bl s); rw [bl_length] at this; exact this
      have hsz := size_mk (enR a (bl s))
      obtain ⟨d1, d2⟩ := D_enR a _ (bl s) (Nat.le_refl _) hok
      refine Ev.congr (f := fun k => hopscotchlaw03_EntityBack.j0 k s a ⟨(enR a (bl s)).toArray⟩ false) (fun k => ?_) ?_
      · unfold hopscotchlaw03_EntityBack.f
        rw [if_neg (by omega), enc_eq s a (by omega), encR_ok a (bl s) hok]
        simp only [Option.bind_some]
        rw [if_pos trivial, dec_eq _ (by omega)]
        have e : X.decR (bl (⟨(enR a (bl s)).toArray⟩ : ByteArray)) = (bl s, 0, 0) := by
          show X.decR (enR a (bl s)) = _
          rw [decR_ok _ d2, d1]
        rw [e]
        simp only [Option.bind_some]
        rw [if_pos trivial, toList_mk]
        simp
      · refine Ev.step (f := fun k => hopscotchlaw03_EntityBack.l0 k s a ⟨(enR a (bl s)).toArray⟩ ((0 : Nat) : Int)) (fun k => ?_) (back_l0 s _ a hz (by omega) (fun x hx => fine_enR a (bl s) x hx) (⟨(enR a (bl s)).toArray⟩ : ByteArray).size 0 (by omega))
        simp only [hopscotchlaw03_EntityBack.j0]
        rw [if_neg (by decide)]
        rfl
    · refine Ev.congr (f := fun k => hopscotchlaw03_EntityBack.j2 k s a) (fun k => ?_) (Ev.step (f := fun _ => some true) (fun k => back_j2 k s a hz) (Ev.now _))
      unfold hopscotchlaw03_EntityBack.f
      rw [if_neg (by omega), enc_eq s a (by omega), encR_bad a (bl s) hok]
      simp only [Option.bind_some]
      rw [if_neg (by decide)]
theorem pieces_j2 (k : Nat) (s t : ByteArray) (hs : s.size ≤ 300) (ht : t.size ≤ 300) : hopscotchlaw03_EntityPieces.j2 (k + 1) s t = some true := by
  simp only [hopscotchlaw03_EntityPieces.j2]
  have hsum : (s ++ t).size = s.size + t.size := by rw [ByteArray.size_append]
  rw [dec_eq s (by omega), dec_eq t (by omega)]
  simp only [Option.bind_some]
  by_cases h : (D (bl s)).2.2 = 0
  · have hA := D_append _ (bl s) (bl t) (Nat.le_refl _) h
    rw [decR_ok (bl s) h]
    simp only
    rw [if_pos trivial, if_pos (by omega), dec_eq (s ++ t) (by omega), bl_append]
    simp only [Option.bind_some]
    have ls := D_out_le _ (bl s) (Nat.le_refl _)
    have lt := D_out_le _ (bl t) (Nat.le_refl _)
    rw [bl_length] at ls lt
    have zs := size_mk (D (bl s)).1
    have zt := size_mk (D (bl t)).1
    by_cases h2 : (D (bl t)).2.2 = 0
    · rw [decR_ok (bl t) h2, decR_ok (bl s ++ bl t) (by rw [hA]; exact h2), hA]
      simp only
      rw [if_pos trivial, if_pos trivial, if_pos (by omega), if_pos, works]
      · rfl
      · rw [toList_bl, toList_bl, bl_append]
    · have hle := (D_le _ (bl t) (Nat.le_refl _)).1
      rw [bl_length] at hle
      rw [decR_bad (bl t) h2, decR_bad (bl s ++ bl t) (by rw [hA]; exact h2), hA]
      simp only
      rw [if_pos trivial, if_neg (by omega), if_pos, works]
      · rfl
      · rw [bl_length, wrap_id (by omega) (by omega)]
        push_cast
        omega
  · rw [decR_bad (bl s) h]
    simp only
    rw [if_neg (by omega), works]
    rfl
theorem law_EntityPieces (s t : ByteArray) (a : Bool) : Ev (fun k => hopscotchlaw03_EntityPieces.f k s t a) true := by
  have skip : ∀ b : Bool, b = true → Ev (fun k => hopscotchlaw03_EntityPieces.j0 k s t a b) true := by
    rintro b rfl
    refine Ev.step (f := fun _ => some true) (fun k => ?_) (Ev.now _)
    simp only [hopscotchlaw03_EntityPieces.j0]
    rw [if_pos trivial, works]
    rfl
  by_cases h : s.size > 300
  · refine Ev.congr (fun k => ?_) (skip true rfl)
    unfold hopscotchlaw03_EntityPieces.f
    rw [if_pos (by omega)]
  by_cases h2 : t.size > 300
  · refine Ev.congr (fun k => ?_) (skip (decide ((t.size : Int) > 300)) (decide_eq_true (by omega)))
    unfold hopscotchlaw03_EntityPieces.f
    rw [if_neg (by omega)]
  have hs : s.size ≤ 300 := by omega
  have ht : t.size ≤ 300 := by omega
  have hsum : (s ++ t).size = s.size + t.size := by rw [ByteArray.size_append]
  have fin : Ev (fun k => hopscotchlaw03_EntityPieces.j2 k s t) true := Ev.step (f := fun _ => some true) (fun k => pieces_j2 k s t hs ht) (Ev.now _)
  refine Ev.congr (f := fun k => hopscotchlaw03_EntityPieces.j0 k s t a false) (fun k => ?_) ?_
  · unfold hopscotchlaw03_EntityPieces.f
    rw [if_neg (by omega), decide_eq_false (by omega)]
  refine Ev.step (f := fun k => hopscotchlaw03_EntityPieces.j1 k s t a (encR a (bl s)).1 (encR a (bl t)).1 (decide ((encR a (bl s)).2 = 0) && ((encR a (bl t)).2 == 0))) (fun k => ?_) ?_
  · simp only [hopscotchlaw03_EntityPieces.j0]
    rw [if_neg (by decide), enc_eq s a (by omega), enc_eq t a (by omega)]
    simp only [Option.bind_some]
    by_cases he : (encR a (bl s)).2 = 0
    · rw [if_pos he]; simp [he]
    · rw [if_neg he]; simp [he]
  by_cases hb : Ok (bl s) ∧ Ok (bl t)
  · obtain ⟨o1, o2⟩ := hb
    rw [encR_ok a (bl s) o1, encR_ok a (bl t) o2]
    have l1 := X.enR_le a (bl s)
    have l2 := X.enR_le a (bl t)
    rw [bl_length] at l1 l2
    have z1 := size_mk (enR a (bl s))
    have z2 := size_mk (enR a (bl t))
    refine Ev.step (fun k => ?_) fin
    simp only [hopscotchlaw03_EntityPieces.j1]
    rw [if_pos (by decide), if_pos (by omega), enc_eq (s ++ t) a (by omega), bl_append, encR_ok a _ (o1.append o2)]
    simp only [Option.bind_some]
    rw [if_pos trivial, if_pos (by omega), if_pos]
    rw [toList_bl, toList_bl, bl_append]
    show enR a (bl s ++ bl t) = enR a (bl s) ++ enR a (bl t)
    exact enR_append a _ _
  · refine Ev.step (fun k => ?_) fin
    simp only [hopscotchlaw03_EntityPieces.j1]
    rw [if_neg]
    intro e
    simp only [Bool.and_eq_true, decide_eq_true_eq, beq_iff_eq] at e
    exact hb ⟨(encR_ok_iff a _).mp e.1, (encR_ok_iff a _).mp e.2⟩
end Go.Proofs.YtjciehecedepeaaDoor.E
