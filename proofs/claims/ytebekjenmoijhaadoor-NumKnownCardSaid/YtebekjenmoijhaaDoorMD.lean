/- A text of the claim, with what no other text of it needs taken out. -/
import Derived.Test.YtebekjenmoijhaaDoorMC
import Derived.Test.YtebekjenmoijhaaDoorPM8
namespace Go.Proofs.YtebekjenmoijhaaDoor.M
open Go Go.RowKit Go.Proofs.YtebekjenmoijhaaDoorW.PrintWords Go.Proofs.YtebekjenmoijhaaDoorW.PrintMore Go.Proofs.YtebekjenmoijhaaDoor.PM Go.Proofs.YtebekjenmoijhaaDoor.PL
set_option linter.unusedVariables false
set_option linter.unusedSimpArgs false
theorem back_j3 {a b : Int} (ha : I a) (hb : I b) (h : b ≠ 0) : Ev (fun k => hopscotchlaw06_NumBack.j3 k a b (toldR (a.tdiv b)).1 (toldR (a.tdiv b)).2 (a.tmod b) false) true := by
  by_cases hm : a = -9223372036854775808 ∧ b = -1
  · obtain ⟨rfl, rfl⟩ := hm
    refine Ev.step (fun k => ?_) works_some
    rw [show toldR ((-9223372036854775808 : Int).tdiv (-1)) = (0, 60) by decide, show (-9223372036854775808 : Int).tmod (-1) = 0 by decide]
    simp only [hopscotchlaw06_NumBack.j3]
    rfl
  · have hq := tdiv_I ha hb h hm
    have e := Int.mul_tdiv_add_tmod a b
    have f1 := tmod_le a b
    obtain ⟨f0, f2, f3, _⟩ := tmod_fact ha hb h
    have hp : I (a.tdiv b * b) := by
      rw [Int.mul_comm] at e
      generalize a.tdiv b * b = p at e
      unfold I at *
      omega
    have hs : a.tdiv b * b + a.tmod b = a := by rw [Int.mul_comm]; exact e
    rw [toldR_in hq]
    refine Ev.step (f := fun k => (num_Mul.f k (a.tdiv b) b).bind fun p => if p.2 = 0 then (num_Add.f p.1 (a.tmod b)).bind fun s => if s.2 = 0 then if s.1 = a then (hopscotchlaw06_works.f k).bind fun t => some t else some false else some false else some false) (fun k => ?_) ?_
    · simp only [hopscotchlaw06_NumBack.j3]
      rfl
    · have hM := Mul_ev hq hb
      rw [toldR_in hp] at hM
      refine Ev.bind hM ?_
      simp only [if_true, Add_eq hp f0, hs, toldR_in ha, Option.bind_some]
      exact works_some
theorem back_j2 {a b : Int} (ha : I a) (hb : I b) : Ev (fun k => hopscotchlaw06_NumBack.j2 k a b) true := by
  refine Ev.step (fun k => by simp only [hopscotchlaw06_NumBack.j2]; rfl) ?_
  refine Ev.bind (Div_ev ha hb) (Ev.bind (Mod_ev ha hb) ?_)
  unfold divR modR
  by_cases h : b = 0
  · simp only [if_pos h, if_true]
    exact works_some
  · have h3 := back_j3 ha hb h
    obtain ⟨f0, f1, f2, f3, f4⟩ := tmod_fact ha hb h
    simp only [if_neg h, toldR_in f0, if_true]
    generalize toldR (a.tdiv b) = q at h3 ⊢
    generalize a.tmod b = r at *
    refine Ev.congr (fun k => ?_) h3
    unfold I at f0 hb
    have w1 : 0 < b → wrap64 (-b) = -b := fun h => wrap_id (by omega) (by omega)
    have w2 : wrap64 (-r) = -r := wrap_id (by omega) (by omega)
    repeat' split
    all_goals first
      | rfl
      | (exfalso; omega)
      | (rw [decide_eq_false (by omega)])
theorem back_j1 {a b : Int} (ha : I a) (hb : I b) : Ev (fun k => hopscotchlaw06_NumBack.j1 k a b false) true := by
  have h2 := back_j2 ha hb
  refine Ev.step (f := fun k => (num_Add.f a b).bind fun p => if p.2 = 0 then (num_Sub.f p.1 b).bind fun q => if q.2 = 0 then if q.1 = a then hopscotchlaw06_NumBack.j2 k a b else some false else some false else hopscotchlaw06_NumBack.j2 k a b) (fun k => ?_) ?_
  · simp only [hopscotchlaw06_NumBack.j1]
    rfl
  · rw [Add_eq ha hb]
    simp only [Option.bind_some]
    by_cases h : I (a + b)
    · rw [toldR_in h]
      simp only [if_true, Sub_eq h hb, show a + b - b = a by omega, toldR_in ha, Option.bind_some]
      exact h2
    · have : toldR (a + b) = (0, 60) := by unfold toldR; exact if_neg h
      rw [this]
      simp only [if_neg (show ¬ (60 : Int) = 0 by decide)]
      exact h2
theorem law_NumBack (a b : Int) (s : ByteArray) (ha : I a) (hb : I b) : Ev (fun k => hopscotchlaw06_NumBack.f k a b s) true := by
  unfold hopscotchlaw06_NumBack.f
  by_cases h : (s.size : Int) > 60
  · simp only [if_pos h]; exact works_some
  · simp only [if_neg h, Put_eq ha, Option.bind_some]
    have hlen : (⟨(Lib.itoa a).toArray⟩ : ByteArray).size ≤ 140737488351232 := by
      rw [← bl_length, bl_mk, itoa_put]
      have hz : (dg a.natAbs).length ≤ 20 := dg_length_le 20 _ (by unfold I at ha; omega)
      unfold putR
      split
      · simp
      · split <;> simp <;> omega
    have h1 := Parse_ev ⟨(Lib.itoa a).toArray⟩ hlen
    rw [bl_mk, pR_itoa ha] at h1
    refine Ev.bind h1 ?_
    simp only [if_true, bne_self_eq_false]
    have h2 := Parse_ev s (by omega)
    refine Ev.step (f := fun k => (X.num_Parse.f k s).bind fun p => if p.2 = 0 then (num_Put.f p.1).bind fun t => if t.toList = s.toList then hopscotchlaw06_NumBack.j1 k a b false else hopscotchlaw06_NumBack.j1 k a b true else hopscotchlaw06_NumBack.j1 k a b (p.1 != 0)) (fun k => ?_) ?_
    · simp only [hopscotchlaw06_NumBack.j0]
      rfl
    · refine Ev.bind h2 ?_
      by_cases h0 : (pR (bl s)).2 = 0
      · have e := itoa_pR h0
        simp only [if_pos h0, Put_eq (pR_I _), Option.bind_some]
        rw [e]
        refine Ev.congr (fun k => ?_) (back_j1 ha hb)
        rw [if_pos (by rw [toList_bl])]
      · simp only [if_neg h0, pR_zero h0, bne_self_eq_false]
        exact back_j1 ha hb
end Go.Proofs.YtebekjenmoijhaaDoor.M
