/- A text of the claim, with what no other text of it needs taken out. -/
import Derived.Test.YtebekjenmoijhaaDoorMK
import Derived.Test.YtebekjenmoijhaaDoorPK1
namespace Go.Proofs.YtebekjenmoijhaaDoor.M
open Go Go.RowKit Go.Proofs.YtebekjenmoijhaaDoorW.PrintWords Go.Proofs.YtebekjenmoijhaaDoorW.PrintMore
set_option linter.unusedVariables false
set_option linter.unusedSimpArgs false
theorem reck_t {a b : Int} (ha : I a) (hb : I b) : X.NumReckons.f a b = some true := by unfold X.NumReckons.f; exact if_pos ⟨ha, hb⟩
theorem back_t {a b : Int} {s : ByteArray} (ha : I a) (hb : I b) : X.NumBack.f a b s = some true := by unfold X.NumBack.f; exact if_pos ⟨ha, hb⟩
theorem text_t {s : ByteArray} {a : Int} (ha : I a) : X.NumTexts.f s a = some true := by unfold X.NumTexts.f; exact if_pos ha
theorem sums_t {l : List Int} (h : ∀ x ∈ l, I x) : X.NumSums.f l = some true := by unfold X.NumSums.f; exact if_pos h
theorem itoa_size {a : Int} (ha : I a) : (⟨(Lib.itoa a).toArray⟩ : ByteArray).size ≤ 1000 := by
  rw [← bl_length, bl_mk, itoa_put]
  have hz : (dg a.natAbs).length ≤ 20 := dg_length_le 20 _ (by unfold I at ha; omega)
  unfold putR
  split
  · simp
  · split <;> simp <;> omega
theorem known_texts (l : List ByteArray) (zl : l.length ≤ 100) : ∀ (j i : Nat), i + j = l.length → Ev (fun k => PK.hopscotchlaw06_NumKnown.l2 k l (i : Int)) true := by
  intro j
  induction j with
  | zero =>
    intro i hi
    refine Ev.step (fun k => ?_) works_some
    simp only [PK.hopscotchlaw06_NumKnown.l2]
    rw [if_neg (by omega), sums_t (by simp), Option.bind_some, if_pos rfl]
  | succ j ih =>
    intro i hi
    have hI : I (i : Int) := by unfold I; omega
    refine Ev.step (fun k => ?_) (ih (i + 1) (by omega))
    simp only [PK.hopscotchlaw06_NumKnown.l2]
    rw [if_pos (by omega), if_pos (by omega), text_t hI, Option.bind_some, if_pos rfl, back_t hI (by unfold I; omega), Option.bind_some, if_pos rfl, wrap_id (by omega) (by omega)]
    rfl
theorem rd_I {l : List Int} (h : ∀ x ∈ l, I x) (i : Nat) (hi : i < l.length) : I (rd l (i : Int)) := by
  rw [rd_lt hi]
  exact h _ (List.getElem_mem hi)
theorem known_inner (l : List Int) (h : ∀ x ∈ l, I x) (zl : l.length ≤ 100) (i : Nat) (hi : i < l.length) (next : Ev (fun k => PK.hopscotchlaw06_NumKnown.l0 k l ((i + 1 : Nat) : Int)) true) :
    ∀ (j n : Nat), n + j = l.length → Ev (fun k => PK.hopscotchlaw06_NumKnown.l1 k l (i : Int) (n : Int)) true := by
  have hx := rd_I h i hi
  have hz := itoa_size hx
  intro j
  induction j with
  | zero =>
    intro n hn
    refine Ev.step (fun k => ?_) next
    simp only [PK.hopscotchlaw06_NumKnown.l1]
    rw [if_neg (by omega), if_pos (by omega), if_pos (by omega)]
    simp only [Put_eq hx, Option.bind_some, text_t hx, if_true]
    rw [if_pos (by omega), if_pos (by omega), if_pos (by omega), wrap_id (by omega) (by omega)]
    rfl
  | succ j ih =>
    intro n hn
    have hy := rd_I h n (by omega)
    refine Ev.step (fun k => ?_) (ih (n + 1) (by omega))
    simp only [PK.hopscotchlaw06_NumKnown.l1]
    rw [if_pos (by omega), if_pos (by omega), if_pos (by omega), if_pos (by omega), reck_t hx hy, Option.bind_some, if_pos rfl, back_t hx hy, Option.bind_some, if_pos rfl, sums_t (by
      intro x hm
      simp only [List.mem_cons, List.not_mem_nil, or_false] at hm
      rcases hm with rfl | rfl | rfl
      · exact hx
      · exact hy
      · exact hx), Option.bind_some, if_pos rfl, wrap_id (by omega) (by omega)]
    rfl
theorem known_outer (l : List Int) (h : ∀ x ∈ l, I x) (zl : l.length ≤ 100) : ∀ (j i : Nat), i + j = l.length → Ev (fun k => PK.hopscotchlaw06_NumKnown.l0 k l (i : Int)) true := by
  intro j
  induction j with
  | zero =>
    intro i hi
    have := known_texts _ (show ([(⟨#[]⟩ : ByteArray), (⟨#[45]⟩ : ByteArray), (⟨#[48]⟩ : ByteArray), (⟨#[45, 48]⟩ : ByteArray), (⟨#[48, 48]⟩ : ByteArray), (⟨#[48, 48, 55]⟩ : ByteArray), (⟨#[45, 48, 55]⟩ : ByteArray), (⟨#[49, 32]⟩ : ByteArray), (⟨#[32, 49]⟩ : ByteArray), (⟨#[43, 49]⟩ : ByteArray), (⟨#[49, 101, 51]⟩ : ByteArray), (⟨#[49, 50, 97]⟩ : ByteArray), (⟨#[45, 45, 49]⟩ : ByteArray), (⟨#[57, 50, 50, 51, 51, 55, 50, 48, 51, 54, 56, 53, 52, 55, 55, 53, 56, 48, 55]⟩ : ByteArray), (⟨#[57, 50, 50, 51, 51, 55, 50, 48, 51, 54, 56, 53, 52, 55, 55, 53, 56, 48, 56]⟩ : ByteArray), (⟨#[45, 57, 50, 50, 51, 51, 55, 50, 48, 51, 54, 56, 53, 52, 55, 55, 53, 56, 48, 56]⟩ : ByteArray), (⟨#[45, 57, 50, 50, 51, 51, 55, 50, 48, 51, 54, 56, 53, 52, 55, 55, 53, 56, 48, 57]⟩ : ByteArray), (⟨#[49, 56, 52, 52, 54, 55, 52, 52, 48, 55, 51, 55, 48, 57, 53, 53, 49, 54, 49, 54]⟩ : ByteArray), (⟨#[57, 57, 57, 57, 57, 57, 57, 57, 57, 57, 57, 57, 57, 57, 57, 57, 57, 57, 57, 57, 57, 57, 57, 57, 57, 57]⟩ : ByteArray)] : List ByteArray).length ≤ 100 by simp only [List.length_cons, List.length_nil]; omega) _ 0 (Nat.zero_add _)
    refine Ev.step (fun k => ?_) this
    simp only [PK.hopscotchlaw06_NumKnown.l0]
    rw [if_neg (by omega)]
    rfl
  | succ j ih =>
    intro i hi
    refine Ev.step (fun k => ?_) (known_inner l h zl i (by omega) (ih (i + 1) (by omega)) l.length 0 (Nat.zero_add _))
    simp only [PK.hopscotchlaw06_NumKnown.l0]
    rw [if_pos (by omega)]
    rfl
theorem law_NumKnown : Ev (fun k => PK.hopscotchlaw06_NumKnown.f k) true := by
  unfold PK.hopscotchlaw06_NumKnown.f
  exact known_outer _ (by unfold I; decide +kernel) (by simp only [List.length_cons, List.length_nil]; omega) _ 0 (Nat.zero_add _)
end Go.Proofs.YtebekjenmoijhaaDoor.M
