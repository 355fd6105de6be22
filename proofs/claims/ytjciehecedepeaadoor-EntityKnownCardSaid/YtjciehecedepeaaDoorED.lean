/- A text of the claim, with what no other text of it needs taken out. -/
import Derived.Test.YtjciehecedepeaaDoorEC
import Derived.Test.YtjciehecedepeaaDoorPE3
namespace Go.Proofs.YtjciehecedepeaaDoor.E
open Go Go.RowKit Go.Proofs.YtjciehecedepeaaDoorW.PrintWords Go.Proofs.YtjciehecedepeaaDoor.U Go.Proofs.YtjciehecedepeaaDoor.PU Go.Proofs.YtjciehecedepeaaDoor.PE
set_option linter.unusedVariables false
set_option linter.unusedSimpArgs false
abbrev L5 : List ByteArray := [(⟨#[38, 97, 109, 112, 59]⟩ : ByteArray), (⟨#[38, 108, 116, 59]⟩ : ByteArray), (⟨#[38, 103, 116, 59]⟩ : ByteArray), (⟨#[38, 113, 117, 111, 116, 59]⟩ : ByteArray), (⟨#[38, 97, 112, 111, 115, 59]⟩ : ByteArray)]
theorem ref_step (k : Nat) (s : ByteArray) (hz : s.size ≤ 140737488351232) (i : Nat) (hi : i < 5) (p : ByteArray) (hp : rdOf ByteArray.empty L5 (i : Int) = p) :
    hopscotchref03_Reference.l0 (k + 1) s L5 (i : Int) = if beg (bl s) (bl p) = true then some ((⟨#[38, 60, 62, 34, 39]⟩ : ByteArray).extract i (i + 1), (p.size : Int)) else hopscotchref03_Reference.l0 k s L5 ((i + 1 : Nat) : Int) := by
  simp only [hopscotchref03_Reference.l0]
  have h5 : ((L5.length : Nat) : Int) = 5 := rfl
  have hw : wrap64 ((i : Int) + 1) = ((i + 1 : Nat) : Int) := by rw [wrap_id (by omega) (by omega)]; push_cast; rfl
  rw [h5, if_pos (by omega), if_pos (by omega), hp, beg_eq s p hz]
  simp only [Option.bind_some]
  by_cases hb : beg (bl s) (bl p) = true
  · rw [if_pos hb, if_pos hb, hw, if_pos (by omega), if_pos (by omega), Int.toNat_natCast, Int.toNat_natCast]
  · rw [if_neg hb, if_neg hb, hw]
theorem wrap_add_one (c n : Nat) (h : c + n ≤ 1000) : wrap64 ((wrap64 ((c : Int) + (n : Int))) + 1) = ((c + n + 1 : Nat) : Int) := by
  rw [wrap_id (n := (c : Int) + (n : Int)) (by omega) (by omega), wrap_id (by omega) (by omega)]
  push_cast
  rfl
theorem bl_drop3 (s : ByteArray) (t : List UInt8) (a b c : UInt8) (h : bl s = a :: b :: c :: t) : bl (s.extract 3 s.size) = t := by rw [bl_from, h]; rfl
theorem bl_drop2 (s : ByteArray) (t : List UInt8) (a b : UInt8) (h : bl s = a :: b :: t) : bl (s.extract 2 s.size) = t := by rw [bl_from, h]; rfl
theorem ref_last (s : ByteArray) (hz : s.size ≤ 140737488351232) (h0 : beg (bl s) [38, 97, 109, 112, 59] = false) (h1 : beg (bl s) [38, 108, 116, 59] = false) (h2 : beg (bl s) [38, 103, 116, 59] = false) (h3 : beg (bl s) [38, 113, 117, 111, 116, 59] = false) (h4 : beg (bl s) [38, 97, 112, 111, 115, 59] = false) :
    Ev (fun k => hopscotchref03_Reference.l0 k s L5 ((5 : Nat) : Int)) ((⟨(refR (bl s)).1.toArray⟩ : ByteArray), ((refR (bl s)).2 : Int)) := by
  have e1 := beg_eq s ⟨#[38, 35, 120]⟩ hz
  have e2 := beg_eq s ⟨#[38, 35]⟩ hz
  have h5 : ¬ (((5 : Nat) : Int) < ((L5.length : Nat) : Int)) := by show ¬ ((5 : Int) < 5); omega
  by_cases hx : beg (bl s) [38, 35, 120] = true
  · obtain ⟨t, ht⟩ := (beg_iff _ _).mp hx
    have ht' : bl s = 38 :: 35 :: 120 :: t := ht
    have hl : 3 ≤ s.size := by rw [← bl_length, ht']; simp
    have hb3 := bl_drop3 s t _ _ _ ht'
    have hz3 : (s.extract 3 s.size).size ≤ 140737488351232 := by rw [← bl_length, hb3]; have := congrArg List.length ht'; rw [bl_length] at this; simp at this; omega
    rw [ht', ref_hex]
    refine Ev.step (f := fun k => (hopscotchref03_number.f k (s.extract 3 s.size) 16 6).bind fun bt130 => (if bt130.1.toList = ([] : List UInt8) then (some ((⟨#[]⟩ : ByteArray), 0)) else (some (bt130.1, wrap64 ((wrap64 (3 + bt130.2)) + 1))))) (fun k => ?_) ?_
    · simp only [hopscotchref03_Reference.l0]
      rw [if_neg h5, e1, show beg (bl s) (bl ⟨#[38, 35, 120]⟩) = true from hx]
      simp only [Option.bind_some, if_true]
      rw [if_pos (by omega)]
    · refine Ev.bind (number_ev (s.extract 3 s.size) hz3 16 6 (by decide) (by decide)) ?_
      rw [hb3]
      refine ⟨0, fun k _ => ?_⟩
      have hn2 : (numF 16 6 0 0 t).2 ≤ 6 := by
        rw [numF_cut 16 6 (by decide) t 0 0 (by decide)]
        cases cut t with
        | none => simp
        | some h =>
          simp only
          split
          · rename_i hh; simp only; omega
          · simp
      generalize numF 16 6 0 0 t = q at hn2
      obtain ⟨o, n⟩ := q
      simp only at hn2 ⊢
      rw [toList_bl]
      by_cases ho : o = []
      · rw [if_pos (show bl ⟨o.toArray⟩ = [] from ho), if_pos ho]
        rfl
      · rw [if_neg (show ¬ bl ⟨o.toArray⟩ = [] from ho), if_neg ho, (show wrap64 ((wrap64 (3 + (n : Int))) + 1) = ((3 + n + 1 : Nat) : Int) from wrap_add_one 3 n (by omega))]
  · have hx' : beg (bl s) [38, 35, 120] = false := by simpa using hx
    by_cases hd : beg (bl s) [38, 35] = true
    · obtain ⟨t, ht⟩ := (beg_iff _ _).mp hd
      have ht' : bl s = 38 :: 35 :: t := ht
      have hl : 2 ≤ s.size := by rw [← bl_length, ht']; simp
      have hb2 := bl_drop2 s t _ _ ht'
      have hz2 : (s.extract 2 s.size).size ≤ 140737488351232 := by rw [← bl_length, hb2]; have := congrArg List.length ht'; rw [bl_length] at this; simp at this; omega
      have hnx : ∀ h, t ≠ 120 :: h := by
        rintro h rfl
        exact hx ((beg_iff _ _).mpr ⟨h, ht'⟩)
      rw [ht', ref_dec t hnx]
      refine Ev.step (f := fun k => (hopscotchref03_number.f k (s.extract 2 s.size) 10 7).bind fun bt133 => (if bt133.1.toList = ([] : List UInt8) then (some ((⟨#[]⟩ : ByteArray), 0)) else (some (bt133.1, wrap64 ((wrap64 (2 + bt133.2)) + 1))))) (fun k => ?_) ?_
      · simp only [hopscotchref03_Reference.l0]
        rw [if_neg h5, e1, show beg (bl s) (bl ⟨#[38, 35, 120]⟩) = false from hx', e2, show beg (bl s) (bl ⟨#[38, 35]⟩) = true from hd]
        simp only [Option.bind_some, if_true, Bool.false_eq_true, if_false]
        rw [if_pos (by omega)]
      · refine Ev.bind (number_ev (s.extract 2 s.size) hz2 10 7 (by decide) (by decide)) ?_
        rw [hb2]
        refine ⟨0, fun k _ => ?_⟩
        have hn2 : (numF 10 7 0 0 t).2 ≤ 7 := by
          rw [numF_cut 10 7 (by decide) t 0 0 (by decide)]
          cases cut t with
          | none => simp
          | some h =>
            simp only
            split
            · rename_i hh; simp only; omega
            · simp
        generalize numF 10 7 0 0 t = q at hn2
        obtain ⟨o, n⟩ := q
        simp only at hn2 ⊢
        rw [toList_bl]
        by_cases ho : o = []
        · rw [if_pos (show bl ⟨o.toArray⟩ = [] from ho), if_pos ho]
          rfl
        · rw [if_neg (show ¬ bl ⟨o.toArray⟩ = [] from ho), if_neg ho, (show wrap64 ((wrap64 (2 + (n : Int))) + 1) = ((2 + n + 1 : Nat) : Int) from wrap_add_one 2 n (by omega))]
    · have hd' : beg (bl s) [38, 35] = false := by simpa using hd
      rw [ref_rest (bl s) h0 h1 h2 h3 h4 hd']
      refine Ev.step (f := fun _ => some ((⟨#[]⟩ : ByteArray), 0)) (fun k => ?_) (Ev.now _)
      simp only [hopscotchref03_Reference.l0]
      rw [if_neg h5, e1, show beg (bl s) (bl ⟨#[38, 35, 120]⟩) = false from hx', e2, show beg (bl s) (bl ⟨#[38, 35]⟩) = false from hd']
      simp
theorem ref_Reference_ev (s : ByteArray) (hz : s.size ≤ 140737488351232) : Ev (fun k => hopscotchref03_Reference.f k s) ((⟨(refR (bl s)).1.toArray⟩ : ByteArray), ((refR (bl s)).2 : Int)) := by
  have hit : ∀ (nm x : List UInt8), nameR nm = x → x ≠ [] → (59 : UInt8) ∉ nm → beg (bl s) (38 :: (nm ++ [59])) = true → refR (bl s) = (x, nm.length + 2) := fun nm x h1 h2 h3 h4 => ref_beg _ nm x h1 h2 h3 h4
  show Ev (fun k => hopscotchref03_Reference.l0 k s L5 ((0 : Nat) : Int)) _
  refine Ev.step (fun k => ref_step k s hz 0 (by decide) ⟨#[38, 97, 109, 112, 59]⟩ rfl) ?_
  by_cases b0 : beg (bl s) [38, 97, 109, 112, 59] = true
  · rw [hit [97, 109, 112] [38] (by decide) (by decide) (by decide) b0]
    exact ⟨0, fun k _ => (if_pos b0).trans (by rfl)⟩
  refine Ev.congr (f := fun k => hopscotchref03_Reference.l0 k s L5 ((1 : Nat) : Int)) (fun k => if_neg b0) ?_
  refine Ev.step (fun k => ref_step k s hz 1 (by decide) ⟨#[38, 108, 116, 59]⟩ rfl) ?_
  by_cases b1 : beg (bl s) [38, 108, 116, 59] = true
  · rw [hit [108, 116] [60] (by decide) (by decide) (by decide) b1]
    exact ⟨0, fun k _ => (if_pos b1).trans (by rfl)⟩
  refine Ev.congr (f := fun k => hopscotchref03_Reference.l0 k s L5 ((2 : Nat) : Int)) (fun k => if_neg b1) ?_
  refine Ev.step (fun k => ref_step k s hz 2 (by decide) ⟨#[38, 103, 116, 59]⟩ rfl) ?_
  by_cases b2 : beg (bl s) [38, 103, 116, 59] = true
  · rw [hit [103, 116] [62] (by decide) (by decide) (by decide) b2]
    exact ⟨0, fun k _ => (if_pos b2).trans (by rfl)⟩
  refine Ev.congr (f := fun k => hopscotchref03_Reference.l0 k s L5 ((3 : Nat) : Int)) (fun k => if_neg b2) ?_
  refine Ev.step (fun k => ref_step k s hz 3 (by decide) ⟨#[38, 113, 117, 111, 116, 59]⟩ rfl) ?_
  by_cases b3 : beg (bl s) [38, 113, 117, 111, 116, 59] = true
  · rw [hit [113, 117, 111, 116] [34] (by decide) (by decide) (by decide) b3]
    exact ⟨0, fun k _ => (if_pos b3).trans (by rfl)⟩
  refine Ev.congr (f := fun k => hopscotchref03_Reference.l0 k s L5 ((4 : Nat) : Int)) (fun k => if_neg b3) ?_
  refine Ev.step (fun k => ref_step k s hz 4 (by decide) ⟨#[38, 97, 112, 111, 115, 59]⟩ rfl) ?_
  by_cases b4 : beg (bl s) [38, 97, 112, 111, 115, 59] = true
  · rw [hit [97, 112, 111, 115] [39] (by decide) (by decide) (by decide) b4]
    exact ⟨0, fun k _ => (if_pos b4).trans (by rfl)⟩
  refine Ev.congr (f := fun k => hopscotchref03_Reference.l0 k s L5 ((5 : Nat) : Int)) (fun k => if_neg b4) ?_
  exact ref_last s hz (by simpa using b0) (by simpa using b1) (by simpa using b2) (by simpa using b3) (by simpa using b4)
end Go.Proofs.YtjciehecedepeaaDoor.E
