/- The statements of the stage utf, in plain Lean: each printed law tells true, with enough rounds. -/
import Derived.Test.YtpldpnkjmdlcdaaDoorU3
import Derived.Test.YtpldpnkjmdlcdaaDoorPU5
namespace Go.Proofs.YtpldpnkjmdlcdaaDoor.U
open Go Go.RowKit Go.Proofs.YtpldpnkjmdlcdaaDoorW.PrintWords Go.Proofs.YtpldpnkjmdlcdaaDoor.PU
set_option linter.unusedVariables false
set_option linter.unusedSimpArgs false

theorem works : hopscotchlaw01_works.f = some true := by decide +kernel

theorem works_bind {α : Type} (k : Nat) : ((hopscotchlaw01_works.f).bind fun t => (some t)) = some true := by rw [works]; rfl

theorem law_UtfNext (s : ByteArray) : Ev (fun k => hopscotchlaw01_UtfNext.f k s) true := by
  by_cases h : s.size > 300
  · refine ⟨0, fun k _ => ?_⟩
    show hopscotchlaw01_UtfNext.f k s = _
    unfold hopscotchlaw01_UtfNext.f
    rw [if_pos (by omega), works]
    rfl
  · have hb : (nextR (bl s)).1 ≤ 1114111 ∧ 0 ≤ (nextR (bl s)).1 := by
      by_cases h0 : (nx (bl s)).2 = 0
      · by_cases hn : bl s = []
        · rw [hn]; decide
        · rw [nextR_err _ hn h0]; decide
      · rw [nextR_ok _ h0]
        have := (nx_good _ h0).2.2.1
        rw [isx_iff] at this
        simp only
        omega
    refine Ev.congr (f := fun k => (hopscotchref01_Next.f k s).bind fun bt149 => (if (wrap64 ((nextR (bl s)).1)) = bt149.1 then (if (nextR (bl s)).2.1 = bt149.2.1 then (if (nextR (bl s)).2.2 = bt149.2.2 then ((hopscotchlaw01_works.f).bind fun t152 => (some t152)) else (some false)) else (some false)) else (some false))) (fun k => ?_) ?_
    · unfold hopscotchlaw01_UtfNext.f
      rw [if_neg (by omega), utf_Next_eq s (by omega)]
      rfl
    · refine Ev.bind (ref_Next_ev s (by omega)) ?_
      refine ⟨0, fun k _ => ?_⟩
      simp only
      rw [wrap_id (by omega) (by omega)]
      simp [works]

theorem law_UtfPut (c : Int) (s : ByteArray) (hc : -2147483648 ≤ c ∧ c ≤ 2147483647) : Ev (fun k => hopscotchlaw01_UtfPut.f k c s) true := by
  by_cases h : s.size > 100
  · refine ⟨0, fun k _ => ?_⟩
    show hopscotchlaw01_UtfPut.f k c s = _
    unfold hopscotchlaw01_UtfPut.f
    rw [if_pos (by omega), works]
    rfl
  · have hw : wrap64 c = c := wrap_id (by omega) (by omega)
    by_cases hi : X.isI c = true
    · have h0 : 0 ≤ c := by
        simp only [X.isI, Bool.or_eq_true, decide_eq_true_eq] at hi
        omega
      have hx : isx c.toNat = true := by rw [← X.isI_nat, Int.toNat_of_nonneg h0]; exact hi
      have hp := enc_pos c.toNat
      have hl4 : (enc c.toNat).length ≤ 4 := by
        rw [enc_length]
        repeat' split
        all_goals omega
      obtain ⟨wv, hwv⟩ : ∃ wv : ByteArray, wv = ⟨(enc c.toNat).toArray⟩ := ⟨_, rfl⟩
      have hb : bl wv = enc c.toNat := by rw [hwv]
      have hne : ¬ wv.toList = [] := by
        rw [toList_bl, hb]
        intro e
        rw [e] at hp
        simp at hp
      have hsz : wv.size = (enc c.toNat).length := by rw [← hb, bl_length]
      refine Ev.congr (f := fun k => hopscotchlaw01_UtfPut.j0 k c s wv false) (fun k => ?_) ?_
      · unfold hopscotchlaw01_UtfPut.f
        rw [if_neg (by omega), utf_Put_eq, if_pos hi, hw, ref_Put_eq, if_pos hi, ref_Is_eq, hi, ← hwv]
        simp only [Option.bind_some, if_true]
        congr 1
        simp [hne]
      · refine Ev.step (f := fun _ => some true) (fun k => ?_) (Ev.now _)
        simp only [hopscotchlaw01_UtfPut.j0]
        rw [if_neg (by simp), if_neg hne, if_pos (by omega), utf_Next_eq _ (by rw [ByteArray.size_append]; omega), bl_append, hb]
        simp only [Option.bind_some]
        have hn := nx_enc c.toNat hx (bl s)
        rw [nextR_ok _ (by rw [hn]; simp only; omega), hn]
        simp only
        rw [if_pos (by omega), if_pos (by omega), if_pos trivial, works]
        rfl
    · have hi' : X.isI c = false := by simpa using hi
      refine Ev.congr (f := fun k => hopscotchlaw01_UtfPut.j0 k c s ⟨#[]⟩ false) (fun k => ?_) ?_
      · unfold hopscotchlaw01_UtfPut.f
        rw [if_neg (by omega), utf_Put_eq, if_neg hi, hw, ref_Put_eq, if_neg hi, ref_Is_eq, hi']
        have e : (⟨#[]⟩ : ByteArray).toList = [] := by rw [toList_bl]
        simp [e]
      · refine Ev.step (f := fun _ => some true) (fun k => ?_) (Ev.now _)
        simp only [hopscotchlaw01_UtfPut.j0]
        have e : (⟨#[]⟩ : ByteArray).toList = [] := by rw [toList_bl]
        rw [if_neg (by simp), if_pos e, works]
        rfl

theorem law_UtfValid (s : ByteArray) : Ev (fun k => hopscotchlaw01_UtfValid.f k s) true := by
  by_cases h : s.size > 600
  · refine ⟨0, fun k _ => ?_⟩
    show hopscotchlaw01_UtfValid.f k s = _
    unfold hopscotchlaw01_UtfValid.f
    rw [if_pos (by omega), works]
    rfl
  · refine Ev.congr (f := fun k => (hopscotchref01_Valid.f k s).bind fun bt171 => (if (validR (bl s)).1 = bt171.1 then (if (validR (bl s)).2 = bt171.2 then ((hopscotchref01_Count.f k s).bind fun t174 => (if ((R (bl s)).1 : Int) = t174 then ((hopscotchlaw01_works.f).bind fun t175 => (some t175)) else (some false))) else (some false)) else (some false))) (fun k => ?_) ?_
    · unfold hopscotchlaw01_UtfValid.f
      rw [if_neg (by omega), utf_Valid_eq s (by omega), utf_Count_eq s (by omega)]
      rfl
    · refine Ev.bind (ref_Valid_ev s (by omega)) ?_
      refine Ev.congr (f := fun k => (hopscotchref01_Count.f k s).bind fun t174 => (if ((R (bl s)).1 : Int) = t174 then ((hopscotchlaw01_works.f).bind fun t175 => (some t175)) else (some false))) (fun k => ?_) ?_
      · simp only
        rw [if_pos trivial, if_pos trivial]
      · refine Ev.bind (ref_Count_ev s (by omega)) ?_
        refine ⟨0, fun k _ => ?_⟩
        simp only
        rw [if_pos trivial, works]
        rfl

/-- Valid texts one behind the other. -/
theorem R_append : ∀ (n : Nat) (a b : List UInt8), a.length ≤ n → (R a).2 = a.length → R (a ++ b) = ((R a).1 + (R b).1, (R a).2 + (R b).2) := by
  intro n
  induction n with
  | zero =>
    intro a b ha _
    have : a = [] := List.length_eq_zero_iff.mp (by omega)
    subst this
    simp [R_nil]
  | succ n ih =>
    intro a b ha hr
    by_cases h : (nx a).2 = 0
    · rw [R_stop a h] at hr
      have : a = [] := List.length_eq_zero_iff.mp hr.symm
      subst this
      simp [R_nil]
    · obtain ⟨h0, _, hx, he, h5, h6, h7, _⟩ := nx_good a h
      have hn : nx (a ++ b) = nx a := by
        have := nx_of_take (nx a).1 hx (a ++ b) (by rw [← h5, List.take_append_of_le_length h6, he])
        rw [this]
        exact Prod.ext rfl h5.symm
      have hd : (a ++ b).drop (nx a).2 = a.drop (nx a).2 ++ b := List.drop_append_of_le_length h6
      rw [R_go a h] at hr ⊢
      have := ih (a.drop (nx a).2) b (by rw [List.length_drop]; omega) (by rw [List.length_drop]; simp only at hr; omega)
      rw [R_go (a ++ b) (by rw [hn]; exact h), hn, hd, this]
      refine Prod.ext ?_ ?_
      · simp only; omega
      · simp only; omega

/-- Behind all its characters a text has no further one. -/
theorem nx_end : ∀ (n : Nat) (a : List UInt8), a.length ≤ n → (nx (a.drop (R a).2)).2 = 0 := by
  intro n
  induction n with
  | zero =>
    intro a ha
    have : a = [] := List.length_eq_zero_iff.mp (by omega)
    subst this
    rfl
  | succ n ih =>
    intro a ha
    by_cases h : (nx a).2 = 0
    · rw [R_stop a h]
      exact h
    · obtain ⟨_, _, _, _, _, h6, h7, _⟩ := nx_good a h
      rw [R_go a h]
      have := ih (a.drop (nx a).2) (by rw [List.length_drop]; omega)
      rw [List.drop_drop] at this
      show (nx (a.drop ((R (a.drop (nx a).2)).2 + (nx a).2))).2 = 0
      rw [Nat.add_comm]
      exact this

theorem validR_ok (l : List UInt8) (h : (R l).2 = l.length) : validR l = (0, 0) := by
  unfold validR
  rw [if_neg (by omega)]
theorem validR_bad (l : List UInt8) (h : (R l).2 < l.length) : validR l = (((R l).2 : Int), 10) := by
  unfold validR
  rw [if_pos h]

end Go.Proofs.YtpldpnkjmdlcdaaDoor.U
