/- A text of the claim, with what no other text of it needs taken out. -/
import Derived.Test.YtjciehecedepeaaDoorEV
namespace Go.Proofs.YtjciehecedepeaaDoor.X
open Go.RowKit Go.Proofs.YtjciehecedepeaaDoorW.PrintWords Go.Proofs.YtjciehecedepeaaDoor
set_option linter.unusedVariables false
set_option linter.unusedSimpArgs false
def SaidIs (es : Array MapEntry) (f : ByteArray → Option ByteArray) : Prop :=
  MapS.Strs es ∧ ∀ q, match f q with | some v => MapS.Has es q (.agg #[.string v]) | none => MapS.No es q
theorem said_nil : SaidIs #[] (fun _ => none) := ⟨MapS.strs_nil, fun q => MapS.no_nil q⟩
theorem said_push {es : Array MapEntry} {f : ByteArray → Option ByteArray} (h : SaidIs es f) (s v : ByteArray) (c : Nat) (hn : f s = none) {g : ByteArray → Option ByteArray} (hg : ∀ q, g q = if q = s then some v else f q) :
    SaidIs (es.push ⟨.string s, .agg #[.string v], c⟩) g := by
  obtain ⟨h1, h2⟩ := h
  refine ⟨MapS.strs_push h1 _ _ _, fun q => ?_⟩
  rw [hg q]
  by_cases hq : q = s
  · subst hq
    rw [if_pos rfl]
    have := h2 q
    rw [hn] at this
    exact MapS.has_new this _ _
  · rw [if_neg hq]
    have := h2 q
    cases hf : f q with
    | some u => rw [hf] at this; exact MapS.has_push this hq _ _
    | none => rw [hf] at this; exact MapS.no_push this hq _ _
def wordOr (f : ByteArray → Option ByteArray) (c : ByteArray) : List UInt8 := match f c with | some v => 38 :: v.data.toList ++ [59] | none => c.data.toList
theorem cells_snoc' (out : List UInt8) (c : ByteArray) : Lib.byteCells out ++ Lib.strCells c = Lib.byteCells (out ++ c.data.toList) := by
  simp [Lib.byteCells, Lib.strCells]
theorem add_amp (v : ByteArray) : (⟨#[38]⟩ ++ v ++ ⟨#[59]⟩ : ByteArray) = ⟨(38 :: v.data.toList ++ [59]).toArray⟩ := by
  rw [bytes_eq]
  simp
set_option maxHeartbeats 1000000 in
set_option maxRecDepth 100000 in
theorem encByte (S M B : Nat) (es : Array MapEntry) (clock : Nat) (f : ByteArray → Option ByteArray) (c : ByteArray) (out : List UInt8) (w : World)
    (hS : w.heap[S]? = some (.cells #[.map (some M)] 55 (0, 0))) (hM : w.heap[M]? = some (.map es clock)) (hf : SaidIs es f) (hB : B ≤ w.heap.size)
    (hb : Lib.IsBuilderF 37 5 B B (Lib.byteCells out) w) (hlen : out.length + (wordOr f c).length ≤ 140737488355328) :
    Calls Tryd.prog 27 #[.string c, .pointer (some ⟨S, 0, none⟩), .pointer (some ⟨B, 0, none⟩)] w fun e w' => e = .returned (.tuple #[]) ∧ Below B w w' ∧ Lib.IsBuilderF 37 5 B B (Lib.byteCells (out ++ wordOr f c)) w' := by
  have hc : w.cell? ⟨S, 0, none⟩ = some (.map (some M)) := by rw [Lib.cell_of_heap hS]; rfl
  have HB := Lib.hid hb
  clear hb
  have hq := hf.2 c
  cases hfc : f c with
  | none =>
    rw [hfc] at hq
    have hw : wordOr f c = c.data.toList := by unfold wordOr; rw [hfc]
    rw [hw] at hlen ⊢
    have hlk := MapS.run_lookup_no Tryd.underlying55 Tryd.underlying9 hM hf.1 hq (wordZero w) true
    simp only [if_true] at hlk
    have HW := Lib.hid (fun W (hb : Below w.heap.size w W) => writeString_k B B (Lib.byteCells out) c W (builder_below HB.out hb) (by rw [Lib.size_eq]; simp only [Lib.byteCells, List.length_map]; exact hlen) (Nat.le_trans hB hb.size))
    clear hw hfc hq hf hS hM
    go_enter Tryd.func27, Tryd.ntmps27
    go_wp2_with (go_at_call 16; refine (HW.out _ ((Below.refl _ w).alloc (Nat.le_refl _) _)).mono ?_; rintro e w2 ⟨rfl, h1, h2, h3⟩)
    go_end0
    exact ⟨rfl, (((Below.refl _ w).alloc (Nat.le_refl _) _).mono hB).trans h2, .inr (by rw [← cells_snoc']; exact h1)⟩
  | some v =>
    rw [hfc] at hq
    have hw : wordOr f c = 38 :: v.data.toList ++ [59] := by unfold wordOr; rw [hfc]
    rw [hw] at hlen ⊢
    have hlk := MapS.run_lookup_has (w := w) Tryd.underlying55 Tryd.underlying9 hM hf.1 hq true
    simp only [if_true] at hlk
    have ha := add_amp v
    have hvs : 1 + v.size + 1 ≤ 140737488355328 := by rw [Lib.size_eq]; simp at hlen; simp; omega
    have hvs1 : 1 + v.size ≤ 140737488355328 := by omega
    have HW := Lib.hid (fun W (hb : Below w.heap.size w W) => writeString_k B B (Lib.byteCells out) (⟨#[38]⟩ ++ v ++ ⟨#[59]⟩) W (builder_below HB.out hb) (by rw [ha, mk_size]; simp only [Lib.byteCells, List.length_map]; exact hlen) (Nat.le_trans hB hb.size))
    clear hw hfc hq hf hS hM
    have HA := Lib.hid ha
    clear ha
    go_enter Tryd.func27, Tryd.ntmps27
    go_wp2_with (go_at_call 16; refine (HW.out _ ((Below.refl _ w).alloc (Nat.le_refl _) _)).mono ?_; rintro e w2 ⟨rfl, h1, h2, h3⟩)
    go_end0
    refine ⟨rfl, (((Below.refl _ w).alloc (Nat.le_refl _) _).mono hB).trans h2, .inr ?_⟩
    rw [cells_snoc', HA.out] at h1
    simpa using h1
end Go.Proofs.YtjciehecedepeaaDoor.X
