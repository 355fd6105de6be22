/- A text of the claim, with what no other text of it needs taken out. -/
import Derived.Test.YtebekjenmoijhaaDoorM6
namespace Go.Proofs.YtebekjenmoijhaaDoor.M
open Go Go.RowKit Go.Proofs.YtebekjenmoijhaaDoorW.PrintWords Go.Proofs.YtebekjenmoijhaaDoorW.PrintMore Go.Proofs.YtebekjenmoijhaaDoor.PM
set_option linter.unusedVariables false
set_option linter.unusedSimpArgs false
theorem Ev.det {α : Type} {g : Nat → Option α} {a b : α} (h1 : Ev g a) (h2 : Ev g b) : a = b := by
  obtain ⟨K, h1⟩ := h1
  obtain ⟨K', h2⟩ := h2
  have e1 := h1 (max K K') (by omega)
  have e2 := h2 (max K K') (by omega)
  rw [e1] at e2
  exact Option.some.inj e2
theorem tmod_fact {a b : Int} (ha : I a) (hb : I b) (h : b ≠ 0) : I (a.tmod b) ∧ (a.tmod b < 0 → a < 0) ∧ (0 < a.tmod b → 0 < a) ∧ (0 < b → -b < a.tmod b ∧ a.tmod b < b) ∧ (b < 0 → b < a.tmod b ∧ a.tmod b < -b) := by
  rw [← sg_mod]
  unfold I at ha hb ⊢
  have h1 : a.natAbs % b.natAbs < b.natAbs := Nat.mod_lt _ (by omega)
  have h2 : a.natAbs % b.natAbs ≤ a.natAbs := Nat.mod_le _ _
  generalize a.natAbs % b.natAbs = q at h1 h2 ⊢
  unfold sg
  by_cases h0 : a < 0
  · rw [decide_eq_true h0, if_pos rfl]; omega
  · rw [decide_eq_false h0, if_neg (by decide)]; omega
theorem mod_fact {k : Nat} {a b r e : Int} (ha : I a) (hb : I b) (h : num_Mod.f k a b = some (r, e)) :
    (b = 0 ∧ r = 0 ∧ e = 61) ∨ (b ≠ 0 ∧ e = 0 ∧ (r < 0 → a < 0) ∧ (0 < r → 0 < a) ∧ (0 < b → -b < r ∧ r < b) ∧ (b < 0 → b < r ∧ r < -b) ∧ (0 < b → wrap64 (-b) = -b) ∧ wrap64 (-r) = -r) := by
  have hd := Ev.det (Ev.of (num_Mod.mono a b) h) (Mod_ev ha hb)
  unfold modR at hd
  by_cases h0 : b = 0
  · rw [if_pos h0] at hd
    simp only [Prod.mk.injEq] at hd
    exact .inl ⟨h0, hd.1, hd.2⟩
  · rw [if_neg h0] at hd
    obtain ⟨f0, f1, f2, f3, f4⟩ := tmod_fact ha hb h0
    unfold I at f0 hb
    unfold toldR at hd
    rw [if_pos f0] at hd
    simp only [Prod.mk.injEq] at hd
    obtain ⟨rfl, rfl⟩ := hd
    refine .inr ⟨h0, rfl, f1, f2, f3, f4, fun h => wrap_id (by omega) (by omega), wrap_id (by omega) (by omega)⟩
end Go.Proofs.YtebekjenmoijhaaDoor.M
