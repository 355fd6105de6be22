/- A text of the claim, with what no other text of it needs taken out. -/
import Derived.Test.YtpknhgejnfmijaaGreatDoorNA
import Derived.Test.YtpknhgejnfmijaaGreatDoorWMore
import Derived.OwnWalk
import Derived.Lib.Hide
import Derived.Laws.Strings3
import Derived.Outline
import Derived.IntWalk
namespace Go.Proofs.YtpknhgejnfmijaaGreatDoor.X
open Go Go.RowKit Go.Proofs.YtpknhgejnfmijaaGreatDoorW.PrintWords Go.Proofs.YtpknhgejnfmijaaGreatDoorW.PrintMore Go.Proofs.YtpknhgejnfmijaaGreatDoor.PL Go.Proofs.YtpknhgejnfmijaaGreatDoor.M
attribute [local go_sem] max2_int min2_int max_two min_two max_three min_three max_four min_four
set_option linter.unusedVariables false
set_option linter.unusedSimpArgs false
def name_Begin.f (a0 : ByteArray) : Option Int := if a0.size ≤ 140737488351232 then some (beginL (bl a0) : Int) else none
theorem length_calls (a : ByteArray) (hz : a.size ≤ 140737488351232) (w : World) : Calls Tryz.prog 92 #[.string a] w fun e w' => e = .returned (.int .i64 (lenL (bl a) : Int)) ∧ Drawn0 w w' := by
  obtain ⟨k, hk⟩ := (length_ev a hz).rounds
  exact name_length.calls k a _ w hk
set_option maxHeartbeats 2000000 in
set_option maxRecDepth 100000 in
theorem begin_walk (a0 u : ByteArray) (m : Nat) (n q : Nat) (hz : a0.size ≤ 140737488351232) (hm : (m : Int) = if 64 < (a0.size : Int) then 64 else (a0.size : Int)) (hu : a0.extract 0 m = u) (hus : u.size = m)
    (hn : lenL (bl u) = n) (v : ByteArray) (hv : n + 1 ≤ u.size → u.extract (n + 1) u.size = v) (hq : lenL (bl v) = q) (r : Int)
    (hr : r = if n = 0 ∨ u.size ≤ n ∨ (bl u).getD n 0 ≠ 58 then (n : Int) else if 0 < q then (n : Int) + 1 + q else (n : Int)) (hqs : q ≤ u.size) (hns : n ≤ u.size) (hvs : v.size ≤ 140737488351232) (w : World) :
    Calls Tryz.prog 78 #[.string a0] w fun e w' => e = .returned (.int .i64 r) ∧ Drawn0 w w' := by
  have hm64 : m ≤ 64 := by split at hm <;> omega
  have hma : m ≤ a0.size := by split at hm <;> omega
  have hs1 : ∀ W : World, (Instr.slice 9 (.string a0) none (some (.int .i64 (if 64 < (a0.size : Int) then 64 else (a0.size : Int)))) none).run Tryz.prog W = .ok (.string u) W := fun W => by
    rw [run_slice_string_to_if W 9 a0 .i64 _ Tryz.underlying9, ← hm, if_pos (by omega)]
    simp [hu]
  have CL := Lib.hid (length_calls u (by omega) w)
  rw [hn] at CL
  have HR := Lib.hid hr
  have HUS := Lib.hid hus
  clear hr hn hu hm
  have hus1 : u.size ≤ 64 := by omega
  clear hus
  have CL2 : n + 1 ≤ u.size → ∀ w : World, Calls Tryz.prog 92 #[.string v] w fun e w' => e = .returned (.int .i64 (q : Int)) ∧ Drawn0 w w' := fun _ w => by
    have := length_calls v hvs w
    rwa [hq] at this
  have CL3 := Lib.hid CL2
  clear CL2
  clear hq
  by_cases c1 : n = 0
  · rw [if_pos (.inl c1)] at HR
    have g1 : ((n : Int) == 0) = true := by simp [c1]
    have HC := Lib.hid c1
    clear c1
    go_enter Tryz.func78, Tryz.ntmps78
    go_wp2_with (go_at_call 92; refine CL.out.mono ?_; rintro e w' ⟨rfl, ⟨nd, rfl⟩⟩)
    all_goals
      go_ret
      exact ⟨by rw [HR.out]; rfl, ⟨_, rfl⟩⟩
  · have g1 : ((n : Int) == 0) = false := by simp [c1]
    by_cases c2 : u.size ≤ n
    · rw [if_pos (.inr (.inl c2))] at HR
      have g2 : decide (u.size ≤ n) = true := decide_eq_true c2
      go_enter Tryz.func78, Tryz.ntmps78
      go_wp2_with (go_at_call 92; refine CL.out.mono ?_; rintro e w' ⟨rfl, ⟨nd, rfl⟩⟩)
      all_goals
        go_ret
        exact ⟨by rw [HR.out]; rfl, ⟨_, rfl⟩⟩
    · have g2 : decide (u.size ≤ n) = false := decide_eq_false c2
      have hlt : n < u.size := by omega
      have hix : ∀ W : World, (Instr.index 9 (.string u) (.int .i64 (n : Int))).run Tryz.prog W = .ok (.int .u8 (((bl u).getD n 0).toNat : Int)) W := fun W => by
        have := run_index_string (P := Tryz.prog) W 9 u .i64 (n : Int) Tryz.underlying9
        simp only [Int.toNat_natCast] at this
        rw [this, dif_pos ⟨by omega, by omega⟩]
        have hlt' : n < (bl u).length := by rw [bl_length]; exact hlt
        rw [List.getD, List.getElem?_eq_getElem hlt', Option.getD_some]
        rfl
      generalize hb : (bl u).getD n 0 = b at hix HR
      by_cases c3 : b ≠ 58
      · rw [if_pos (.inr (.inr c3))] at HR
        have g3 : ((b.toNat : Int) == 58) = false := by
          rw [beq_eq_false_iff_ne]
          intro e
          apply c3
          apply UInt8.toNat_inj.mp
          exact Int.ofNat.inj e
        have g4 : ((b.toNat : Int) != 58) = true := by simp only [bne, g3]; rfl
        clear c3 hb
        go_enter Tryz.func78, Tryz.ntmps78
        go_wp2_with (go_at_call 92; refine CL.out.mono ?_; rintro e w' ⟨rfl, ⟨nd, rfl⟩⟩)
        all_goals
          go_ret
          exact ⟨by rw [HR.out]; rfl, ⟨_, rfl⟩⟩
      · have c3' : b = 58 := by simpa using c3
        rw [if_neg (fun hh => hh.elim c1 (fun hh => hh.elim c2 c3))] at HR
        have g3 : ((b.toNat : Int) == 58) = true := by rw [c3']; rfl
        have g4 : ((b.toNat : Int) != 58) = false := by rw [c3']; rfl
        have hs2 : ∀ W : World, (Instr.slice 9 (.string u) (some (.int .i64 ((n : Int) + 1))) none none).run Tryz.prog W = .ok (.string v) W := fun W => by
          rw [run_slice_string_from_if W 9 u .i64 _ Tryz.underlying9, if_pos (by omega), ← hv (by omega)]
          congr 3
        have CV := Lib.hid (CL3.out (by omega))
        clear c3 c3' hb hv
        by_cases c5 : 0 < q
        · rw [if_pos c5] at HR
          have g5 : decide (0 < q) = true := decide_eq_true c5
          have g6 : decide ((0 : Int) < (q : Int)) = true := decide_eq_true (by omega)
          have tk : True := trivial
          go_enter Tryz.func78, Tryz.ntmps78
          go_wp2_with (first | (go_at_call 92; have tu := tk; clear tu tk; refine CL.out.mono ?_; rintro e w' ⟨rfl, ⟨nd, rfl⟩⟩) | (go_at_call 92; refine (CV.out _).mono ?_; rintro e w' ⟨rfl, ⟨nd2, rfl⟩⟩))
          all_goals
            go_ret
            exact ⟨by rw [HR.out]; rfl, ⟨nd + nd2, rfl⟩⟩
        · rw [if_neg c5] at HR
          have g5 : decide (0 < q) = false := decide_eq_false c5
          have g6 : decide ((0 : Int) < (q : Int)) = false := decide_eq_false (by omega)
          have tk : True := trivial
          go_enter Tryz.func78, Tryz.ntmps78
          go_wp2_with (first | (go_at_call 92; have tu := tk; clear tu tk; refine CL.out.mono ?_; rintro e w' ⟨rfl, ⟨nd, rfl⟩⟩) | (go_at_call 92; refine (CV.out _).mono ?_; rintro e w' ⟨rfl, ⟨nd2, rfl⟩⟩))
          all_goals
            go_ret
            exact ⟨by rw [HR.out]; rfl, ⟨nd + nd2, rfl⟩⟩
theorem name_Begin.calls (a0 : ByteArray) (r : Int) (w : World) (h : name_Begin.f a0 = some r) :
    Calls Tryz.prog 78 #[.string a0] w fun e w' => e = .returned (.int .i64 r) ∧ Drawn0 w w' := by
  unfold name_Begin.f at h
  split at h
  rotate_left
  · cases h
  rename_i hz
  have hr := Option.some.inj h
  obtain ⟨m, hm⟩ : ∃ m : Nat, (m : Int) = if 64 < (a0.size : Int) then 64 else (a0.size : Int) := by
    split
    · exact ⟨64, rfl⟩
    · exact ⟨a0.size, rfl⟩
  have hma : m ≤ a0.size ∧ m ≤ 64 ∧ (m = 64 ∨ m = a0.size) := by split at hm <;> omega
  have hu : bl (a0.extract 0 m) = (bl a0).take 64 := by
    rw [bl_to]
    rcases hma.2.2 with h1 | h1
    · rw [h1]
    · rw [h1, List.take_of_length_le (by rw [bl_length]; omega), List.take_of_length_le (by rw [bl_length]; omega)]
  have hus : (a0.extract 0 m).size = m := by
    rw [← bl_length, bl_to, List.length_take, bl_length]
    omega
  have hul : ((bl a0).take 64).length = m := by rw [← hu, bl_length, hus]
  have hle := lenL_le (bl (a0.extract 0 m))
  have hv := bl_from (a0.extract 0 m) (lenL (bl (a0.extract 0 m)) + 1)
  have hvl := lenL_le (bl ((a0.extract 0 m).extract (lenL (bl (a0.extract 0 m)) + 1) (a0.extract 0 m).size))
  have hvs : ((a0.extract 0 m).extract (lenL (bl (a0.extract 0 m)) + 1) (a0.extract 0 m).size).size ≤ (a0.extract 0 m).size := by
    rw [← bl_length, hv, List.length_drop, bl_length]
    omega
  rw [bl_length] at hle hvl
  refine begin_walk a0 (a0.extract 0 m) m _ _ hz hm rfl hus rfl _ (fun _ => rfl) rfl r ?_ (by omega) hle (by omega) w
  rw [← hr]
  unfold beginL
  rw [hv, hu, hul, hus]
  split
  · rfl
  · split
    · simp only [Int.natCast_add, Int.natCast_one]
    · rfl
end Go.Proofs.YtpknhgejnfmijaaGreatDoor.X
