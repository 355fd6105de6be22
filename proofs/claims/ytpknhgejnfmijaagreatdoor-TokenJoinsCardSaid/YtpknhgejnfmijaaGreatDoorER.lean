/- A text of the claim, with what no other text of it needs taken out. -/
import Derived.Test.YtpknhgejnfmijaaGreatDoorEQ
import Derived.Test.YtpknhgejnfmijaaGreatDoorEM
namespace Go.Proofs.YtpknhgejnfmijaaGreatDoor.X
open Go.RowKit Go.Proofs.YtpknhgejnfmijaaGreatDoorW.PrintWords
set_option linter.unusedVariables false
set_option linter.unusedSimpArgs false
theorem sign_dig (c : UInt8) (h : isSign c = true) : E.dig c = 99 := by
  simp only [isSign, Bool.or_eq_true, beq_iff_eq] at h
  rcases h with (rfl | rfl) | rfl <;> decide
theorem all_of_sign (b : Nat) (hb : b ≤ 16) (l : List UInt8) (h : anySign l = true) : l.all (fun c => decide (E.dig c < b)) = false := by
  unfold anySign at h
  rw [List.any_eq_true] at h
  obtain ⟨c, hc, hs⟩ := h
  rw [List.all_eq_false]
  exact ⟨c, hc, by rw [sign_dig c hs]; simp; omega⟩
theorem first_of_sign (l : List UInt8) (h : anySign l = false) (s : UInt8) (hs : isSign s = true) : l[0]? ≠ some s := by
  intro e
  unfold anySign at h
  rw [List.any_eq_false] at h
  exact h s (List.mem_of_getElem? e) hs
theorem put_num (n : Nat) : utf_Put.f (n : Int) = some ⟨(E.put n).toArray⟩ := by
  unfold utf_Put.f E.put
  rw [isI_nat]
  by_cases h : U.isx n = true
  · rw [if_pos h, if_pos h, U.encode_of n h]
  · rw [if_neg h, if_neg h]
set_option maxHeartbeats 4000000 in
set_option maxRecDepth 100000 in
theorem number16 (a0 : ByteArray) (w : World) (hG : Glob w) :
    Calls Tryz.prog 83 #[.string a0, .int .i64 16, .int .i64 6] w fun e w' => e = .returned (.string ⟨(E.numR 16 6 a0.data.toList).toArray⟩) ∧ Below w.heap.size w w' := by
  by_cases h0 : a0.data.toList = []
  · have hemp : a0.toList.isEmpty = true := by rw [Lib.toList_data, h0]; rfl
    have hr : E.numR 16 6 a0.data.toList = [] := by unfold E.numR; rw [if_neg (fun h => h.1 h0)]
    rw [hr]
    clear hr h0
    go_enter Tryz.func83, Tryz.ntmps83
    go_wp2
    go_ret
    exact ⟨rfl, Below.refl _ _⟩
  · have hemp : a0.toList.isEmpty = false := by
      rw [Lib.toList_data]
      cases h : a0.data.toList with
      | nil => exact absurd h h0
      | cons _ _ => rfl
    have hne : a0.size ≠ 0 := by
      intro e
      rw [Lib.size_eq] at e
      exact h0 (List.length_eq_zero_iff.mp e)
    by_cases hM : 6 < a0.size
    · have hd : decide ((6 : Int) < (a0.size : Int)) = true := decide_eq_true (by omega)
      have hr : E.numR 16 6 a0.data.toList = [] := by unfold E.numR; rw [if_neg (fun h => by have := h.2.1; rw [← Lib.size_eq] at this; omega)]
      rw [hr]
      clear hr h0 hne
      go_enter Tryz.func83, Tryz.ntmps83
      go_wp2
      go_ret
      exact ⟨rfl, Below.refl _ _⟩
    · have hd : decide ((6 : Int) < (a0.size : Int)) = false := decide_eq_false (by omega)
      have HC := Lib.hid (containsAny a0 w (by omega))
      cases hs : anySign a0.data.toList with
      | true =>
        have hr : E.numR 16 6 a0.data.toList = [] := by unfold E.numR; rw [if_neg (fun h => by have := h.2.2; rw [all_of_sign 16 (by decide) _ hs] at this; cases this)]
        rw [hr]
        rw [hs] at HC
        clear hr h0 hne hs
        go_enter Tryz.func83, Tryz.ntmps83
        go_wp2_with (go_at_call 94; refine HC.out.mono ?_; rintro e w' ⟨rfl, hB⟩)
        go_ret
        exact ⟨rfl, hB⟩
      | false =>
        rw [hs] at HC
        have HI := Lib.hid (fun W hg => parseInt16 a0 hne (by omega) (first_of_sign _ hs 43 (by decide)) (first_of_sign _ hs 45 (by decide)) W hg)
        have hpa := pu_all 16 a0.data.toList 0
        cases hal : a0.data.toList.all (fun c => decide (E.dig c < 16)) with
        | false =>
          have hr : E.numR 16 6 a0.data.toList = [] := by unfold E.numR; rw [if_neg (fun h => by have := h.2.2; rw [hal] at this; cases this)]
          rw [hr]
          rw [hal] at hpa
          rw [if_neg (by decide)] at hpa
          simp only [hpa] at HI
          clear hr h0 hne hs hpa hal
          go_enter Tryz.func83, Tryz.ntmps83
          go_wp2_with (first
            | (go_at_call 94; refine HC.out.mono ?_; rintro e w' ⟨rfl, hB⟩; have hg := hG.of_below hB)
            | (go_at_call 95; refine (HI.out _ hg).mono ?_; rintro e w2 ⟨⟨N, rfl⟩, hB2⟩))
          go_ret
          exact ⟨rfl, hB.trans (hB2.mono hB.size)⟩
        | true =>
          rw [hal] at hpa
          rw [if_pos rfl] at hpa
          have hr : E.numR 16 6 a0.data.toList = E.put (E.num 16 0 a0.data.toList) := by unfold E.numR; rw [if_pos ⟨h0, by rw [← Lib.size_eq]; omega, hal⟩]
          rw [hr]
          have hsm := pu_small 16 (by decide) a0.data.toList (by rw [← Lib.size_eq]; omega) _ hpa
          simp only [hpa] at HI
          have HP := Lib.hid (fun W hg => utf_Put.calls (E.num 16 0 a0.data.toList : Nat) _ W hg (put_num (E.num 16 0 a0.data.toList)))
          clear hr hpa hal hs h0 hne
          generalize (E.put (E.num 16 0 a0.data.toList)).toArray = out at HP ⊢
          obtain ⟨a, ha⟩ : ∃ a : Int, a = (E.num 16 0 a0.data.toList : Nat) := ⟨_, rfl⟩
          have a0' : 0 ≤ a := by omega
          have a1 : a < 268435456 := by omega
          rw [← ha] at HP HI
          clear ha hsm
          go_enter Tryz.func83, Tryz.ntmps83
          go_wp2_with (first
            | (go_at_call 94; refine HC.out.mono ?_; rintro e w' ⟨rfl, hB⟩; have hg := hG.of_below hB)
            | (go_at_call 95; refine (HI.out _ hg).mono ?_; rintro e w2 ⟨rfl, hB2⟩; have hg2 := hg.of_below hB2)
            | (go_at_call 56; refine (HP.out _ hg2).mono ?_; rintro e w3 ⟨rfl, hB3⟩))
          go_ret
          exact ⟨rfl, (hB.trans (hB2.mono hB.size)).trans (hB3.mono (hB.trans (hB2.mono hB.size)).size)⟩
set_option maxHeartbeats 4000000 in
set_option maxRecDepth 100000 in
theorem number10 (a0 : ByteArray) (w : World) (hG : Glob w) :
    Calls Tryz.prog 83 #[.string a0, .int .i64 10, .int .i64 7] w fun e w' => e = .returned (.string ⟨(E.numR 10 7 a0.data.toList).toArray⟩) ∧ Below w.heap.size w w' := by
  by_cases h0 : a0.data.toList = []
  · have hemp : a0.toList.isEmpty = true := by rw [Lib.toList_data, h0]; rfl
    have hr : E.numR 10 7 a0.data.toList = [] := by unfold E.numR; rw [if_neg (fun h => h.1 h0)]
    rw [hr]
    clear hr h0
    go_enter Tryz.func83, Tryz.ntmps83
    go_wp2
    go_ret
    exact ⟨rfl, Below.refl _ _⟩
  · have hemp : a0.toList.isEmpty = false := by
      rw [Lib.toList_data]
      cases h : a0.data.toList with
      | nil => exact absurd h h0
      | cons _ _ => rfl
    have hne : a0.size ≠ 0 := by
      intro e
      rw [Lib.size_eq] at e
      exact h0 (List.length_eq_zero_iff.mp e)
    by_cases hM : 7 < a0.size
    · have hd : decide ((7 : Int) < (a0.size : Int)) = true := decide_eq_true (by omega)
      have hr : E.numR 10 7 a0.data.toList = [] := by unfold E.numR; rw [if_neg (fun h => by have := h.2.1; rw [← Lib.size_eq] at this; omega)]
      rw [hr]
      clear hr h0 hne
      go_enter Tryz.func83, Tryz.ntmps83
      go_wp2
      go_ret
      exact ⟨rfl, Below.refl _ _⟩
    · have hd : decide ((7 : Int) < (a0.size : Int)) = false := decide_eq_false (by omega)
      have HC := Lib.hid (containsAny a0 w (by omega))
      cases hs : anySign a0.data.toList with
      | true =>
        have hr : E.numR 10 7 a0.data.toList = [] := by unfold E.numR; rw [if_neg (fun h => by have := h.2.2; rw [all_of_sign 10 (by decide) _ hs] at this; cases this)]
        rw [hr]
        rw [hs] at HC
        clear hr h0 hne hs
        go_enter Tryz.func83, Tryz.ntmps83
        go_wp2_with (go_at_call 94; refine HC.out.mono ?_; rintro e w' ⟨rfl, hB⟩)
        go_ret
        exact ⟨rfl, hB⟩
      | false =>
        rw [hs] at HC
        have HI := Lib.hid (fun W hg => parseInt10 a0 hne (by omega) (first_of_sign _ hs 43 (by decide)) (first_of_sign _ hs 45 (by decide)) W hg)
        have hpa := pu_all 10 a0.data.toList 0
        cases hal : a0.data.toList.all (fun c => decide (E.dig c < 10)) with
        | false =>
          have hr : E.numR 10 7 a0.data.toList = [] := by unfold E.numR; rw [if_neg (fun h => by have := h.2.2; rw [hal] at this; cases this)]
          rw [hr]
          rw [hal] at hpa
          rw [if_neg (by decide)] at hpa
          simp only [hpa] at HI
          clear hr h0 hne hs hpa hal
          go_enter Tryz.func83, Tryz.ntmps83
          go_wp2_with (first
            | (go_at_call 94; refine HC.out.mono ?_; rintro e w' ⟨rfl, hB⟩; have hg := hG.of_below hB)
            | (go_at_call 95; refine (HI.out _ hg).mono ?_; rintro e w2 ⟨⟨N, rfl⟩, hB2⟩))
          go_ret
          exact ⟨rfl, hB.trans (hB2.mono hB.size)⟩
        | true =>
          rw [hal] at hpa
          rw [if_pos rfl] at hpa
          have hr : E.numR 10 7 a0.data.toList = E.put (E.num 10 0 a0.data.toList) := by unfold E.numR; rw [if_pos ⟨h0, by rw [← Lib.size_eq]; omega, hal⟩]
          rw [hr]
          have hsm := pu_small 10 (by decide) a0.data.toList (by rw [← Lib.size_eq]; omega) _ hpa
          simp only [hpa] at HI
          have HP := Lib.hid (fun W hg => utf_Put.calls (E.num 10 0 a0.data.toList : Nat) _ W hg (put_num (E.num 10 0 a0.data.toList)))
          clear hr hpa hal hs h0 hne
          generalize (E.put (E.num 10 0 a0.data.toList)).toArray = out at HP ⊢
          obtain ⟨a, ha⟩ : ∃ a : Int, a = (E.num 10 0 a0.data.toList : Nat) := ⟨_, rfl⟩
          have a0' : 0 ≤ a := by omega
          have a1 : a < 268435456 := by omega
          rw [← ha] at HP HI
          clear ha hsm
          go_enter Tryz.func83, Tryz.ntmps83
          go_wp2_with (first
            | (go_at_call 94; refine HC.out.mono ?_; rintro e w' ⟨rfl, hB⟩; have hg := hG.of_below hB)
            | (go_at_call 95; refine (HI.out _ hg).mono ?_; rintro e w2 ⟨rfl, hB2⟩; have hg2 := hg.of_below hB2)
            | (go_at_call 56; refine (HP.out _ hg2).mono ?_; rintro e w3 ⟨rfl, hB3⟩))
          go_ret
          exact ⟨rfl, (hB.trans (hB2.mono hB.size)).trans (hB3.mono (hB.trans (hB2.mono hB.size)).size)⟩
end Go.Proofs.YtpknhgejnfmijaaGreatDoor.X
