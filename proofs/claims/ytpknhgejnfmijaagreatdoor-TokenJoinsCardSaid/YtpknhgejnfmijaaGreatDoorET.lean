/- A text of the claim, with what no other text of it needs taken out. -/
import Derived.Test.YtpknhgejnfmijaaGreatDoorES
import Derived.Test.YtpknhgejnfmijaaGreatDoorEM
namespace Go.Proofs.YtpknhgejnfmijaaGreatDoor.X
open Go.RowKit Go.Proofs.YtpknhgejnfmijaaGreatDoorW.PrintWords Go.Proofs.YtpknhgejnfmijaaGreatDoor
set_option linter.unusedVariables false
set_option linter.unusedSimpArgs false
theorem names_strs : MapS.Strs namesEs := MapS.strs_push (MapS.strs_push (MapS.strs_push (MapS.strs_push (MapS.strs_push MapS.strs_nil _ _ _) _ _ _) _ _ _) _ _ _) _ _ _
theorem wordZero (w : World) : (zeroValue 129).run Tryz.prog w = .ok (.agg #[.string ⟨#[]⟩]) w := by kernel_rfl
theorem bytes_eq (v : ByteArray) (l : List UInt8) : v = ⟨l.toArray⟩ ↔ v.data.toList = l := by
  constructor
  · rintro rfl; rfl
  · intro h
    obtain ⟨⟨x⟩⟩ := v
    simp at h
    subst h
    rfl
theorem look_names (w : World) (b : Nat) (hb : w.heap[b]? = some (.map namesEs 5)) (v : ByteArray) :
    (Instr.lookup 130 (.map (some b)) (.string v) false).run Tryz.prog w = .ok (.agg #[.string ⟨(E.word v.data.toList).toArray⟩]) w := by
  have d : ∀ {a b : ByteArray}, a.data.toList ≠ b.data.toList → a ≠ b := fun h e => h (by rw [e])
  have go : ∀ {s : ByteArray} {x : Value}, MapS.Has namesEs s x → (Instr.lookup 130 (.map (some b)) (.string s) false).run Tryz.prog w = .ok x w := fun h => by
    have := MapS.run_lookup_has Tryz.underlying130 Tryz.underlying9 hb names_strs h false
    simpa using this
  by_cases h1 : v = ⟨#[97, 109, 112]⟩
  · subst h1
    exact go (MapS.has_push (MapS.has_push (MapS.has_push (MapS.has_push (MapS.has_new (MapS.no_nil _) _ _) (d (by decide)) _ _) (d (by decide)) _ _) (d (by decide)) _ _) (d (by decide)) _ _)
  by_cases h2 : v = ⟨#[108, 116]⟩
  · subst h2
    exact go (MapS.has_push (MapS.has_push (MapS.has_push (MapS.has_new (MapS.no_push (MapS.no_nil _) (d (by decide)) _ _) _ _) (d (by decide)) _ _) (d (by decide)) _ _) (d (by decide)) _ _)
  by_cases h3 : v = ⟨#[103, 116]⟩
  · subst h3
    exact go (MapS.has_push (MapS.has_push (MapS.has_new (MapS.no_push (MapS.no_push (MapS.no_nil _) (d (by decide)) _ _) (d (by decide)) _ _) _ _) (d (by decide)) _ _) (d (by decide)) _ _)
  by_cases h4 : v = ⟨#[113, 117, 111, 116]⟩
  · subst h4
    exact go (MapS.has_push (MapS.has_new (MapS.no_push (MapS.no_push (MapS.no_push (MapS.no_nil _) (d (by decide)) _ _) (d (by decide)) _ _) (d (by decide)) _ _) _ _) (d (by decide)) _ _)
  by_cases h5 : v = ⟨#[97, 112, 111, 115]⟩
  · subst h5
    exact go (MapS.has_new (MapS.no_push (MapS.no_push (MapS.no_push (MapS.no_push (MapS.no_nil _) (d (by decide)) _ _) (d (by decide)) _ _) (d (by decide)) _ _) (d (by decide)) _ _) _ _)
  have hn : MapS.No namesEs v := MapS.no_push (MapS.no_push (MapS.no_push (MapS.no_push (MapS.no_push (MapS.no_nil _) h1 _ _) h2 _ _) h3 _ _) h4 _ _) h5 _ _
  have := MapS.run_lookup_no Tryz.underlying130 Tryz.underlying9 hb names_strs hn (wordZero w) false
  have e : E.word v.data.toList = [] := by
    have n : ∀ l : List UInt8, v ≠ ⟨l.toArray⟩ → v.data.toList ≠ l := fun l h e => h ((bytes_eq v l).mpr e)
    unfold E.word
    rw [if_neg (n _ h1), if_neg (n _ h2), if_neg (n _ h3), if_neg (n _ h4), if_neg (n _ h5)]
  rw [e]
  simpa using this
theorem cut_index : ∀ t : List UInt8, match E.cut t with | none => Lib.indexByte t 59 = -1 | some nm => Lib.indexByte t 59 = nm.length ∧ t.take nm.length = nm ∧ nm.length < t.length := by
  intro t
  induction t with
  | nil => rfl
  | cons c t ih =>
    simp only [E.cut]
    by_cases hc : c = 59
    · subst hc
      rw [if_pos rfl]
      simp [Lib.indexByte]
    · rw [if_neg hc]
      have hb : (c == 59) = false := by simpa using hc
      cases ht : E.cut t with
      | none =>
        rw [ht] at ih
        simp only [Option.map_none] at ih ⊢
        simp [Lib.indexByte, hb, ih]
      | some nm =>
        rw [ht] at ih
        simp only [Option.map_some] at ih ⊢
        obtain ⟨i1, i2, i3⟩ := ih
        refine ⟨?_, by simp [i2], by simp; exact i3⟩
        have hne : ¬ ((nm.length : Int) == -1) = true := by simp
        simp only [Lib.indexByte, hb, i1, Bool.false_eq_true, if_false, hne]
        simp
def entity_Reference.f (a0 : ByteArray) : Option (ByteArray × Int) :=
  if a0.size ≤ 140737488351232 then some (⟨(E.refR a0.data.toList).1.toArray⟩, ((E.refR a0.data.toList).2 : Int)) else none
theorem hasPrefix_amp (l : List UInt8) : Lib.hasPrefix l [38] = (match l with | [] => false | c :: _ => c == 38) := by
  cases l with
  | nil => rfl
  | cons c t => simp [Lib.hasPrefix, List.isPrefixOf, Bool.beq_comm]
set_option maxHeartbeats 4000000 in
set_option maxRecDepth 100000 in
theorem reference_none (a0 : ByteArray) (w : World) (h : ∀ t, a0.data.toList ≠ 38 :: t) :
    Calls Tryz.prog 64 #[.string a0] w fun e w' => e = .returned (.tuple #[.string ⟨#[]⟩, .int .i64 0]) ∧ Below w.heap.size w w' := by
  have hp : Lib.hasPrefix a0.data.toList [38] = false := by
    rw [hasPrefix_amp]
    cases hl : a0.data.toList with
    | nil => rfl
    | cons c t =>
      simp only [beq_eq_false_iff_ne]
      intro e
      exact h t (by rw [hl, e])
  have HP : Hid (∀ W, Calls Tryz.prog 82 #[.string a0, .string ⟨#[38]⟩] W fun e w' => e = .returned (.bool false) ∧ w' = W) := Lib.hid (fun W => by
    have := Tryz.strings_HasPrefix a0 ⟨#[38]⟩ W
    rw [show Lib.hasPrefix a0.data.toList (⟨#[38]⟩ : ByteArray).data.toList = false from hp] at this
    exact this)
  go_enter Tryz.func64, Tryz.ntmps64
  go_wp2_with (go_at_call 82; refine (HP.out _).mono ?_; rintro e w' ⟨rfl, rfl⟩)
  go_ret2
  exact ⟨rfl, Below.refl _ _⟩
theorem amp_prefix (a0 : ByteArray) (t : List UInt8) (h : a0.data.toList = 38 :: t) (W : World) : Calls Tryz.prog 82 #[.string a0, .string ⟨#[38]⟩] W fun e w' => e = .returned (.bool true) ∧ w' = W := by
  have := Tryz.strings_HasPrefix a0 ⟨#[38]⟩ W
  rw [show Lib.hasPrefix a0.data.toList (⟨#[38]⟩ : ByteArray).data.toList = true by show Lib.hasPrefix a0.data.toList [38] = true; rw [hasPrefix_amp, h]; rfl] at this
  exact this
set_option maxHeartbeats 4000000 in
set_option maxRecDepth 100000 in
theorem reference_uncut (a0 : ByteArray) (w : World) (hz : a0.size ≤ 140737488351232) (t : List UInt8) (h : a0.data.toList = 38 :: t) (hc : E.cut t = none) :
    Calls Tryz.prog 64 #[.string a0] w fun e w' => e = .returned (.tuple #[.string ⟨#[]⟩, .int .i64 0]) ∧ Below w.heap.size w w' := by
  have HP := Lib.hid (amp_prefix a0 t h)
  have hi : Lib.indexByte a0.data.toList 59 = -1 := by
    have := cut_index t
    rw [hc] at this
    simp only at this
    rw [h]
    simp [Lib.indexByte, this]
  have HC := Lib.hid (fun W => strings_Cut.calls a0 ⟨#[59]⟩ a0 ⟨#[]⟩ false W (by unfold strings_Cut.f; show (if 140737488351232 < a0.size then none else _) = _; rw [if_neg (by omega), if_pos (by rw [hi]; decide)]))
  clear hi h hc
  go_enter Tryz.func64, Tryz.ntmps64
  go_wp2_with (first
    | (go_at_call 82; refine (HP.out _).mono ?_; rintro e w' ⟨rfl, rfl⟩)
    | (go_at_call 37; refine (HC.out _).mono ?_; rintro e w' ⟨rfl, ⟨n, rfl⟩⟩))
  go_ret2
  exact ⟨rfl, below_dn (Below.refl _ _) _⟩
theorem name_facts (a0 : ByteArray) (hz : a0.size ≤ 140737488351232) (t nm : List UInt8) (h : a0.data.toList = 38 :: t) (hc : E.cut t = some nm) :
    ∃ u r : ByteArray, (u.size : Int) = nm.length + 1 ∧ u.size ≤ 140737488351232 ∧ (∀ W, Calls Tryz.prog 37 #[.string a0, .string ⟨#[59]⟩] W fun e w' => e = .returned (.tuple #[.string u, .string r, .bool true]) ∧ Drawn0 W w') ∧
      ∀ W, (Instr.slice 9 (.string u) (some (.int .i64 1)) none none).run Tryz.prog W = .ok (.string ⟨nm.toArray⟩) W := by
  have hi : Lib.indexByte a0.data.toList 59 = (nm.length + 1 : Nat) ∧ a0.data.toList.take (nm.length + 1) = 38 :: nm ∧ nm.length + 1 < a0.size := by
    have := cut_index t
    rw [hc] at this
    simp only at this
    obtain ⟨i1, i2, i3⟩ := this
    refine ⟨?_, by rw [h, List.take_succ_cons, i2], by rw [Lib.size_eq, h]; simp; exact i3⟩
    rw [h]
    have hne : ¬ ((nm.length : Int) == -1) = true := by simp
    simp only [Lib.indexByte, i1, hne, show ((38 : UInt8) == 59) = false from rfl, Bool.false_eq_true, if_false]
    simp
  obtain ⟨i1, i2, i3⟩ := hi
  have hu : (a0.extract 0 (nm.length + 1)).data.toList = 38 :: nm := by
    rw [Lib.extract_data, List.drop_zero, Nat.sub_zero, i2]
  refine ⟨a0.extract 0 (nm.length + 1), a0.extract (nm.length + 1 + 1) a0.size, ?_, ?_, fun W => ?_, fun W => ?_⟩
  · rw [Lib.size_eq, hu]; simp
  · rw [Lib.size_eq, hu, List.length_cons]; omega
  · refine strings_Cut.calls a0 ⟨#[59]⟩ _ _ true W ?_
    unfold strings_Cut.f
    show (if 140737488351232 < a0.size then none else _) = _
    rw [if_neg (by omega), if_neg (by rw [i1]; omega), i1]
    rfl
  · have hs : (a0.extract 0 (nm.length + 1)).size = nm.length + 1 := by rw [Lib.size_eq, hu]; simp
    clear i1 i2 i3 hz h hc
    generalize a0.extract 0 (nm.length + 1) = u at hu hs ⊢
    rw [run_slice_string_from_if W 9 _ .i64 _ Tryz.underlying9, if_pos ⟨by omega, by omega⟩]
    have e : u.extract (1 : Int).toNat u.size = ⟨nm.toArray⟩ := by
      rw [bytes_eq, Lib.extract_data, hu, hs]
      show List.take (nm.length + 1 - 1) (List.drop 1 (38 :: nm)) = nm
      rw [List.drop_succ_cons, List.drop_zero, List.take_of_length_le (by omega)]
    rw [e]
end Go.Proofs.YtpknhgejnfmijaaGreatDoor.X
