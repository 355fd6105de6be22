/- A text of the claim, with what no other text of it needs taken out. -/
import Derived.Test.YtpknhgejnfmijaaGreatDoorER
namespace Go.Proofs.YtpknhgejnfmijaaGreatDoor.X
open Go.RowKit Go.Proofs.YtpknhgejnfmijaaGreatDoorW.PrintWords Go.Proofs.YtpknhgejnfmijaaGreatDoor
set_option linter.unusedVariables false
set_option linter.unusedSimpArgs false
def namesEs : Array MapEntry := (((((#[] : Array MapEntry).push ⟨.string ⟨#[97, 109, 112]⟩, .agg #[.string ⟨#[38]⟩], 0⟩).push ⟨.string ⟨#[108, 116]⟩, .agg #[.string ⟨#[60]⟩], 0 + 1⟩).push ⟨.string ⟨#[103, 116]⟩, .agg #[.string ⟨#[62]⟩], 0 + 1 + 1⟩).push ⟨.string ⟨#[113, 117, 111, 116]⟩, .agg #[.string ⟨#[34]⟩], 0 + 1 + 1 + 1⟩).push ⟨.string ⟨#[97, 112, 111, 115]⟩, .agg #[.string ⟨#[39]⟩], 0 + 1 + 1 + 1 + 1⟩
set_option maxHeartbeats 4000000 in
set_option maxRecDepth 100000 in
theorem names (w : World) :
    Calls Tryz.prog 84 #[] w fun e w' => e = .returned (.map (some w.heap.size)) ∧ w'.heap[w.heap.size]? = some (.map namesEs 5) ∧ w'.heap.size = w.heap.size + 1 ∧ Below w.heap.size w w' := by
  have hmm := @run_makeMap Tryz.prog
  have hb0 : Below w.heap.size w (w.alloc (.map #[] 0)) := (Below.refl _ w).alloc (Nat.le_refl _) _
  have h0 : (w.alloc (.map #[] 0)).heap[w.heap.size]? = some (.map #[] 0) := heap_alloc_new w _
  have z0 : (w.alloc (.map #[] 0)).heap.size = w.heap.size + 1 := by show (w.heap.push _).size = _; simp
  have d : ∀ {a b : ByteArray}, a.data.toList ≠ b.data.toList → a ≠ b := fun h e => h (by rw [e])
  obtain ⟨W1, u1, h1, s1, b1, _, z1⟩ := MapS.upd Tryz.underlying130 Tryz.underlying9 h0 MapS.strs_nil (s := ⟨#[97, 109, 112]⟩) (MapS.no_nil _) (.agg #[.string ⟨#[38]⟩])
  obtain ⟨W2, u2, h2, s2, b2, _, z2⟩ := MapS.upd Tryz.underlying130 Tryz.underlying9 h1 s1 (s := ⟨#[108, 116]⟩) (MapS.no_push (MapS.no_nil _) (d (by decide)) _ _) (.agg #[.string ⟨#[60]⟩])
  obtain ⟨W3, u3, h3, s3, b3, _, z3⟩ := MapS.upd Tryz.underlying130 Tryz.underlying9 h2 s2 (s := ⟨#[103, 116]⟩) (MapS.no_push (MapS.no_push (MapS.no_nil _) (d (by decide)) _ _) (d (by decide)) _ _) (.agg #[.string ⟨#[62]⟩])
  obtain ⟨W4, u4, h4, s4, b4, _, z4⟩ := MapS.upd Tryz.underlying130 Tryz.underlying9 h3 s3 (s := ⟨#[113, 117, 111, 116]⟩) (MapS.no_push (MapS.no_push (MapS.no_push (MapS.no_nil _) (d (by decide)) _ _) (d (by decide)) _ _) (d (by decide)) _ _) (.agg #[.string ⟨#[34]⟩])
  obtain ⟨W5, u5, h5, s5, b5, _, z5⟩ := MapS.upd Tryz.underlying130 Tryz.underlying9 h4 s4 (s := ⟨#[97, 112, 111, 115]⟩) (MapS.no_push (MapS.no_push (MapS.no_push (MapS.no_push (MapS.no_nil _) (d (by decide)) _ _) (d (by decide)) _ _) (d (by decide)) _ _) (d (by decide)) _ _) (.agg #[.string ⟨#[39]⟩])
  have hB : Below w.heap.size w W5 := ((((hb0.trans (b1 _ (Nat.le_refl _))).trans (b2 _ (Nat.le_refl _))).trans (b3 _ (Nat.le_refl _))).trans (b4 _ (Nat.le_refl _))).trans (b5 _ (Nat.le_refl _))
  have H5 : Hid (W5.heap[w.heap.size]? = some (.map namesEs 5) ∧ W5.heap.size = w.heap.size + 1) := ⟨h5, by omega⟩
  clear h0 h1 h2 h3 h4 h5 s1 s2 s3 s4 s5 b1 b2 b3 b4 b5 hb0 d z0 z1 z2 z3 z4 z5
  go_enter Tryz.func84, Tryz.ntmps84
  go_wp2
  go_ret
  exact ⟨rfl, H5.out.1, H5.out.2, hB⟩
end Go.Proofs.YtpknhgejnfmijaaGreatDoor.X
