/- A text of the claim, with what no other text of it needs taken out. -/
import Derived.Test.YtpknhgejnfmijaaGreatDoorET
namespace Go.Proofs.YtpknhgejnfmijaaGreatDoor.X
open Go.RowKit Go.Proofs.YtpknhgejnfmijaaGreatDoorW.PrintWords Go.Proofs.YtpknhgejnfmijaaGreatDoor
set_option linter.unusedVariables false
set_option linter.unusedSimpArgs false
theorem cutPrefix_at (v p : ByteArray) (r : List UInt8) (b : Bool) (h1 : Lib.trimPrefix v.data.toList p.data.toList = r) (h2 : Lib.hasPrefix v.data.toList p.data.toList = b) (W : World) :
    Calls Tryz.prog 36 #[.string v, .string p] W fun e w' => e = .returned (.tuple #[.string ⟨r.toArray⟩, .bool b]) ∧ w' = W := by
  have := Tryz.strings_CutPrefix v p W
  rw [h1, h2] at this
  exact this
set_option maxHeartbeats 400000 in
set_option maxRecDepth 100000 in
theorem reference_hex (a0 : ByteArray) (w : World) (hG : Glob w) (hz : a0.size ≤ 140737488351232) (t h : List UInt8) (hl : a0.data.toList = 38 :: t) (hc : E.cut t = some (35 :: 120 :: h)) :
    Calls Tryz.prog 64 #[.string a0] w fun e w' => e = .returned (.tuple #[.string ⟨(E.numR 16 6 h).toArray⟩, .int .i64 (if E.numR 16 6 h = [] then 0 else h.length + 4)]) ∧ Below w.heap.size w w' := by
  have HP := Lib.hid (amp_prefix a0 t hl)
  obtain ⟨u, r, hu, hu2, hcut, hsl⟩ := name_facts a0 hz t _ hl hc
  have HC := Lib.hid hcut
  clear hcut hl hc
  have HX := Lib.hid (cutPrefix_at ⟨(35 :: 120 :: h).toArray⟩ ⟨#[35, 120]⟩ h true (by simp [Lib.trimPrefix, Lib.hasPrefix, List.isPrefixOf]) (by simp [Lib.hasPrefix, List.isPrefixOf]))
  have HN := Lib.hid (fun W hg => number16 ⟨h.toArray⟩ W hg)
  have e0 : (⟨h.toArray⟩ : ByteArray).data.toList = h := rfl
  rw [e0] at HN
  clear e0
  generalize E.numR 16 6 h = out at HN ⊢
  have hu3 : (u.size : Int) + 1 = h.length + 4 := by simp at hu; omega
  clear hu
  by_cases ho : out = []
  · subst ho
    go_enter Tryz.func64, Tryz.ntmps64
    go_wp2_with (first
      | (go_at_call 82; refine (HP.out _).mono ?_; rintro e w' ⟨rfl, rfl⟩)
      | (go_at_call 37; refine (HC.out _).mono ?_; rintro e w' ⟨rfl, ⟨n, rfl⟩⟩)
      | (go_at_call 36; refine (HX.out _).mono ?_; rintro e w' ⟨rfl, rfl⟩)
      | (go_at_call 83; refine (HN.out _ (hG.of_below (below_dn (Below.refl _ _) _))).mono ?_; rintro e w' ⟨rfl, hB⟩))
    go_ret2
    exact ⟨rfl, (below_dn (Below.refl _ _) _).trans hB⟩
  · have hemp : (⟨out.toArray⟩ : ByteArray).toList.isEmpty = false := by
      rw [Lib.toList_data]
      cases out with
      | nil => exact absurd rfl ho
      | cons _ _ => rfl
    rw [if_neg ho, ← hu3]
    clear hu3
    generalize (⟨out.toArray⟩ : ByteArray) = ov at HN hemp ⊢
    go_enter Tryz.func64, Tryz.ntmps64
    go_wp2_with (first
      | (go_at_call 82; refine (HP.out _).mono ?_; rintro e w' ⟨rfl, rfl⟩)
      | (go_at_call 37; refine (HC.out _).mono ?_; rintro e w' ⟨rfl, ⟨n, rfl⟩⟩)
      | (go_at_call 36; refine (HX.out _).mono ?_; rintro e w' ⟨rfl, rfl⟩)
      | (go_at_call 83; refine (HN.out _ (hG.of_below (below_dn (Below.refl _ _) _))).mono ?_; rintro e w' ⟨rfl, hB⟩))
    go_ret2
    exact ⟨rfl, (below_dn (Below.refl _ _) _).trans hB⟩
set_option maxHeartbeats 400000 in
set_option maxRecDepth 100000 in
theorem reference_dec (a0 : ByteArray) (w : World) (hG : Glob w) (hz : a0.size ≤ 140737488351232) (t h : List UInt8) (hl : a0.data.toList = 38 :: t) (hc : E.cut t = some (35 :: h)) (hx : ∀ d, h ≠ 120 :: d) :
    Calls Tryz.prog 64 #[.string a0] w fun e w' => e = .returned (.tuple #[.string ⟨(E.numR 10 7 h).toArray⟩, .int .i64 (if E.numR 10 7 h = [] then 0 else h.length + 3)]) ∧ Below w.heap.size w w' := by
  have HP := Lib.hid (amp_prefix a0 t hl)
  obtain ⟨u, r, hu, hu2, hcut, hsl⟩ := name_facts a0 hz t _ hl hc
  have HC := Lib.hid hcut
  clear hcut hl hc
  have hf : Lib.hasPrefix (35 :: h) [35, 120] = false := by
    cases h with
    | nil => rfl
    | cons c d =>
      simp only [Lib.hasPrefix, List.isPrefixOf, Bool.and_true, beq_self_eq_true, Bool.true_and, beq_eq_false_iff_ne]
      intro e
      exact hx d (by rw [← e])
  obtain ⟨tp, hp, HX, e1, e2, e3, e4⟩ : ∃ (tp : ByteArray → List UInt8) (hp : ByteArray → Bool), Hid (∀ p W, Calls Tryz.prog 36 #[.string ⟨(35 :: h).toArray⟩, .string p] W fun e w' => e = .returned (.tuple #[.string ⟨(tp p).toArray⟩, .bool (hp p)]) ∧ w' = W) ∧ tp ⟨#[35, 120]⟩ = 35 :: h ∧ hp ⟨#[35, 120]⟩ = false ∧ tp ⟨#[35]⟩ = h ∧ hp ⟨#[35]⟩ = true := by
    refine ⟨fun p => Lib.trimPrefix (35 :: h) p.data.toList, fun p => Lib.hasPrefix (35 :: h) p.data.toList, fun p W => cutPrefix_at ⟨(35 :: h).toArray⟩ p _ _ rfl rfl W, ?_, ?_, ?_, ?_⟩
    · show Lib.trimPrefix (35 :: h) [35, 120] = _
      unfold Lib.trimPrefix
      rw [hf]
      rfl
    · exact hf
    · simp [Lib.trimPrefix, Lib.hasPrefix, List.isPrefixOf]
    · simp [Lib.hasPrefix, List.isPrefixOf]
  clear hf hx
  have HN := Lib.hid (fun W hg => number10 ⟨h.toArray⟩ W hg)
  have e0 : (⟨h.toArray⟩ : ByteArray).data.toList = h := rfl
  rw [e0] at HN
  clear e0
  generalize E.numR 10 7 h = out at HN ⊢
  have hu3 : (u.size : Int) + 1 = h.length + 3 := by simp at hu; omega
  clear hu
  by_cases ho : out = []
  · subst ho
    go_enter Tryz.func64, Tryz.ntmps64
    go_wp2_with (first
      | (go_at_call 82; refine (HP.out _).mono ?_; rintro e w' ⟨rfl, rfl⟩)
      | (go_at_call 37; refine (HC.out _).mono ?_; rintro e w' ⟨rfl, ⟨n, rfl⟩⟩)
      | (go_at_call 36; refine (HX.out _ _).mono ?_; rintro e w' ⟨rfl, rfl⟩; first | rw [e1, e2] | rw [e3, e4])
      | (go_at_call 83; refine (HN.out _ (hG.of_below (below_dn (Below.refl _ _) _))).mono ?_; rintro e w' ⟨rfl, hB⟩))
    go_ret2
    exact ⟨rfl, (below_dn (Below.refl _ _) _).trans hB⟩
  · have hemp : (⟨out.toArray⟩ : ByteArray).toList.isEmpty = false := by
      rw [Lib.toList_data]
      cases out with
      | nil => exact absurd rfl ho
      | cons _ _ => rfl
    rw [if_neg ho, ← hu3]
    clear hu3
    generalize (⟨out.toArray⟩ : ByteArray) = ov at HN hemp ⊢
    go_enter Tryz.func64, Tryz.ntmps64
    go_wp2_with (first
      | (go_at_call 82; refine (HP.out _).mono ?_; rintro e w' ⟨rfl, rfl⟩)
      | (go_at_call 37; refine (HC.out _).mono ?_; rintro e w' ⟨rfl, ⟨n, rfl⟩⟩)
      | (go_at_call 36; refine (HX.out _ _).mono ?_; rintro e w' ⟨rfl, rfl⟩; first | rw [e1, e2] | rw [e3, e4])
      | (go_at_call 83; refine (HN.out _ (hG.of_below (below_dn (Below.refl _ _) _))).mono ?_; rintro e w' ⟨rfl, hB⟩))
    go_ret2
    exact ⟨rfl, (below_dn (Below.refl _ _) _).trans hB⟩
theorem field_word (s : ByteArray) (W : World) : (Instr.field 129 (.agg #[.string s]) 0).run Tryz.prog W = .ok (.string s) W := by kernel_rfl
set_option maxHeartbeats 400000 in
set_option maxRecDepth 100000 in
theorem reference_name (a0 : ByteArray) (w : World) (hG : Glob w) (hz : a0.size ≤ 140737488351232) (t h : List UInt8) (hl : a0.data.toList = 38 :: t) (hc : E.cut t = some h) (hx : ∀ d, h ≠ 35 :: d) :
    Calls Tryz.prog 64 #[.string a0] w fun e w' => e = .returned (.tuple #[.string ⟨(E.word h).toArray⟩, .int .i64 (if E.word h = [] then 0 else h.length + 2)]) ∧ Below w.heap.size w w' := by
  have HP := Lib.hid (amp_prefix a0 t hl)
  obtain ⟨u, r, hu, hu2, hcut, hsl⟩ := name_facts a0 hz t _ hl hc
  have HC := Lib.hid hcut
  clear hcut hl hc
  have hf : ∀ p : List UInt8, Lib.hasPrefix h (35 :: p) = false := by
    intro p
    cases h with
    | nil => rfl
    | cons c d =>
      simp only [Lib.hasPrefix, List.isPrefixOf, Bool.and_eq_false_iff, beq_eq_false_iff_ne]
      left
      intro e
      exact hx d (by rw [← e])
  obtain ⟨tp, hp, HX, e1, e2, e3, e4⟩ : ∃ (tp : ByteArray → List UInt8) (hp : ByteArray → Bool), Hid (∀ p W, Calls Tryz.prog 36 #[.string ⟨h.toArray⟩, .string p] W fun e w' => e = .returned (.tuple #[.string ⟨(tp p).toArray⟩, .bool (hp p)]) ∧ w' = W) ∧ tp ⟨#[35, 120]⟩ = h ∧ hp ⟨#[35, 120]⟩ = false ∧ tp ⟨#[35]⟩ = h ∧ hp ⟨#[35]⟩ = false := by
    refine ⟨fun p => Lib.trimPrefix h p.data.toList, fun p => Lib.hasPrefix h p.data.toList, fun p W => cutPrefix_at ⟨h.toArray⟩ p _ _ rfl rfl W, ?_, ?_, ?_, ?_⟩
    · show Lib.trimPrefix h [35, 120] = _
      unfold Lib.trimPrefix
      rw [hf]
      rfl
    · exact hf _
    · show Lib.trimPrefix h [35] = _
      unfold Lib.trimPrefix
      rw [hf]
      rfl
    · exact hf _
  clear hf hx
  have HM := Lib.hid names
  have hfw := field_word
  have hlk : ∀ (W : World) (b : Nat), W.heap[b]? = some (.map namesEs 5) → (Instr.lookup 130 (.map (some b)) (.string ⟨h.toArray⟩) false).run Tryz.prog W = .ok (.agg #[.string ⟨(E.word h).toArray⟩]) W := fun W b hb => look_names W b hb ⟨h.toArray⟩
  have HN := Lib.hid hlk
  clear hlk
  generalize E.word h = out at HN ⊢
  have hu3 : (u.size : Int) + 1 = h.length + 2 := by omega
  clear hu
  by_cases ho : out = []
  · subst ho
    go_enter Tryz.func64, Tryz.ntmps64
    go_wp2_with (first
      | (go_at_call 82; refine (HP.out _).mono ?_; rintro e w' ⟨rfl, rfl⟩)
      | (go_at_call 37; refine (HC.out _).mono ?_; rintro e w' ⟨rfl, ⟨n, rfl⟩⟩)
      | (go_at_call 36; refine (HX.out _ _).mono ?_; rintro e w' ⟨rfl, rfl⟩; first | rw [e1, e2] | rw [e3, e4])
      | (go_at_call 84; refine (HM.out _).mono ?_; rintro e w' ⟨rfl, hm, hz2, hB⟩; have hlk := HN.out w' _ hm; dsimp only [World.drewN] at hlk))
    go_ret2
    exact ⟨rfl, (below_dn (Below.refl _ _) _).trans hB⟩
  · have hemp : (⟨out.toArray⟩ : ByteArray).toList.isEmpty = false := by
      rw [Lib.toList_data]
      cases out with
      | nil => exact absurd rfl ho
      | cons _ _ => rfl
    rw [if_neg ho, ← hu3]
    clear hu3
    generalize (⟨out.toArray⟩ : ByteArray) = ov at HN hemp ⊢
    go_enter Tryz.func64, Tryz.ntmps64
    go_wp2_with (first
      | (go_at_call 82; refine (HP.out _).mono ?_; rintro e w' ⟨rfl, rfl⟩)
      | (go_at_call 37; refine (HC.out _).mono ?_; rintro e w' ⟨rfl, ⟨n, rfl⟩⟩)
      | (go_at_call 36; refine (HX.out _ _).mono ?_; rintro e w' ⟨rfl, rfl⟩; first | rw [e1, e2] | rw [e3, e4])
      | (go_at_call 84; refine (HM.out _).mono ?_; rintro e w' ⟨rfl, hm, hz2, hB⟩; have hlk := HN.out w' _ hm; dsimp only [World.drewN] at hlk))
    go_ret2
    exact ⟨rfl, (below_dn (Below.refl _ _) _).trans hB⟩
theorem entity_Reference.calls (a0 : ByteArray) (r1 : ByteArray) (r2 : Int) (w : World) (hG : Glob w) (h : entity_Reference.f a0 = some (r1, r2)) :
    Calls Tryz.prog 64 #[.string a0] w fun e w' => e = .returned (.tuple #[.string r1, .int .i64 r2]) ∧ Below w.heap.size w w' := by
  unfold entity_Reference.f at h
  split at h
  rotate_left
  · cases h
  rename_i hz
  simp only [Option.some.injEq, Prod.mk.injEq] at h
  obtain ⟨rfl, rfl⟩ := h
  by_cases h0 : ∀ t, a0.data.toList ≠ 38 :: t
  · have e : E.refR a0.data.toList = ([], 0) := by
      cases hl : a0.data.toList with
      | nil => rfl
      | cons c t => exact E.refR_other c t (fun e => h0 t (by rw [hl, e]))
    rw [e]
    exact reference_none a0 w h0
  · obtain ⟨t, ht⟩ : ∃ t, a0.data.toList = 38 :: t := Classical.byContradiction fun hn => h0 fun t e => hn ⟨t, e⟩
    rw [ht, E.refR_amp]
    cases hc : E.cut t with
    | none => exact reference_uncut a0 w hz t ht hc
    | some nm =>
      simp only
      by_cases hp : ∃ d, nm = 35 :: d
      · obtain ⟨d, rfl⟩ := hp
        by_cases hx : ∃ h, d = 120 :: h
        · obtain ⟨h, rfl⟩ := hx
          have := reference_hex a0 w hG hz t h ht hc
          show Calls _ _ _ _ fun e w' => e = .returned (.tuple #[.string ⟨(if E.numR 16 6 h = [] then ([], 0) else (E.numR 16 6 h, (35 :: 120 :: h).length + 2) : List UInt8 × Nat).1.toArray⟩, .int .i64 ((if E.numR 16 6 h = [] then ([], 0) else (E.numR 16 6 h, (35 :: 120 :: h).length + 2) : List UInt8 × Nat).2 : Nat)]) ∧ _
          split at this
          · rename_i ho; rw [ho] at this; rw [if_pos ho]; exact this
          · rename_i ho
            rw [if_neg ho]
            have e : (((35 :: 120 :: h).length + 2 : Nat) : Int) = h.length + 4 := by simp; omega
            simp only
            rw [e]
            exact this
        · have hx' : ∀ h, d ≠ 120 :: h := fun h e => hx ⟨h, e⟩
          have hn : E.nameR (35 :: d) = E.numR 10 7 d := by
            unfold E.nameR
            split
            · rename_i h he; cases he; exact absurd rfl (hx' h)
            · rename_i he; cases he; rfl
            · rename_i h1 h2; exact absurd rfl (h2 d)
          have := reference_dec a0 w hG hz t d ht hc hx'
          rw [hn]
          split at this
          · rename_i ho; rw [ho] at this; rw [if_pos ho]; exact this
          · rename_i ho
            rw [if_neg ho]
            have e : (((35 :: d).length + 2 : Nat) : Int) = d.length + 3 := by simp; omega
            simp only
            rw [e]
            exact this
      · have hp' : ∀ d, nm ≠ 35 :: d := fun d e => hp ⟨d, e⟩
        have hn : E.nameR nm = E.word nm := by
          unfold E.nameR
          split
          · exact absurd rfl (hp' _)
          · exact absurd rfl (hp' _)
          · rfl
        have := reference_name a0 w hG hz t nm ht hc hp'
        rw [hn]
        split at this
        · rename_i ho; rw [ho] at this; rw [if_pos ho]; exact this
        · rename_i ho
          rw [if_neg ho]
          exact this
end Go.Proofs.YtpknhgejnfmijaaGreatDoor.X
