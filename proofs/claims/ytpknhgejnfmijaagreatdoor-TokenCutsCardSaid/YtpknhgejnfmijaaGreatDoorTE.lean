/- A text of the claim, with what no other text of it needs taken out. -/
import Derived.Test.YtpknhgejnfmijaaGreatDoorTD
import Derived.LoopTactic
import Derived.Shelf.Strings.Cut
import Derived.Test.YtpknhgejnfmijaaGreatDoorEW
namespace Go.Proofs.YtpknhgejnfmijaaGreatDoor.X
open Go.RowKit Go.Proofs.YtpknhgejnfmijaaGreatDoorW.PrintWords Go.Proofs.YtpknhgejnfmijaaGreatDoor
set_option linter.unusedVariables false
set_option linter.unusedSimpArgs false
theorem behind_eq (p : List UInt8) (hp : p ≠ []) : ∀ l, T.behind p l = if 0 ≤ Lib.index l p then some (l.drop ((Lib.index l p).toNat + p.length)) else none := by
  intro l
  induction l with
  | nil =>
    cases p with
    | nil => exact absurd rfl hp
    | cons a t => rfl
  | cons c l ih =>
    simp only [T.behind]
    unfold Lib.index
    by_cases h : p.isPrefixOf (c :: l) = true
    · rw [if_pos h, if_pos h]
      simp
    · rw [if_neg h, if_neg h, ih]
      have hge : -1 ≤ Lib.index l p := by
        rcases Lib.index_spec l p with ⟨h1, _⟩ | ⟨i, h1, _⟩ <;> omega
      by_cases h0 : 0 ≤ Lib.index l p
      · have e1 : (Lib.index l p == -1) = false := by rw [beq_eq_false_iff_ne]; omega
        simp only [e1, Bool.false_eq_true, if_false]
        rw [if_pos h0, if_pos (by omega)]
        have e2 : (Lib.index l p + 1).toNat + p.length = ((Lib.index l p).toNat + p.length) + 1 := by omega
        rw [e2, List.drop_succ_cons]
      · have e1 : (Lib.index l p == -1) = true := by rw [beq_iff_eq]; omega
        simp only [e1, if_true]
        rw [if_neg h0]
        rfl
def remP (b : Nat) (all : Int) (l : List UInt8) (x : Option (List UInt8)) (e : Ending) (w : World) : Prop :=
  match x with
  | none => e = .returned (.bool false) ∧ CutAt b all l w
  | some r => e = .returned (.bool true) ∧ CutAt b all r w
theorem cut_calls (l p : List UInt8) (hz : l.length < 4294967281) (hp : p ≠ []) :
    ∃ x y : List UInt8, (∀ (m : Int) (w : World), w.cell? ⟨1, 0, none⟩ = some (.int .i64 m) → Calls Tryz.prog 37 #[.string ⟨l.toArray⟩, .string ⟨p.toArray⟩] w fun e w' => e = .returned (.tuple #[.string ⟨x.toArray⟩, .string ⟨y.toArray⟩, .bool (T.behind p l).isSome]) ∧ ∃ n, w' = w.drewN n) ∧ (∀ r, T.behind p l = some r → y = r) := by
  refine ⟨(Lib.cut l p).1, (Lib.cut l p).2.1, fun m w hm => ?_, ?_⟩
  · refine (Tryz.strings_Cut ⟨l.toArray⟩ ⟨p.toArray⟩ m w (by have := mk_sz l; omega) hm).mono ?_
    rintro e w' ⟨rfl, h⟩
    refine ⟨?_, h⟩
    show Ending.returned (.tuple #[.string ⟨(Lib.cut l p).1.toArray⟩, .string ⟨(Lib.cut l p).2.1.toArray⟩, .bool (Lib.cut l p).2.2]) = _
    rw [behind_eq p hp]
    unfold Lib.cut
    by_cases h0 : 0 ≤ Lib.index l p
    · rw [if_pos h0, if_pos h0]; rfl
    · rw [if_neg h0, if_neg h0]; rfl
  · intro r hr
    rw [behind_eq p hp] at hr
    unfold Lib.cut
    by_cases h0 : 0 ≤ Lib.index l p
    · rw [if_pos h0] at hr
      rw [if_pos h0]
      exact Option.some.inj hr
    · rw [if_neg h0] at hr; cases hr
theorem trim_calls (l p : List UInt8) (w : World) : Calls Tryz.prog 36 #[.string ⟨l.toArray⟩, .string ⟨p.toArray⟩] w fun e w' => e = .returned (.tuple #[.string ⟨(eatL p l).toArray⟩, .bool (p.isPrefixOf l)]) ∧ w' = w := Tryz.strings_CutPrefix ⟨l.toArray⟩ ⟨p.toArray⟩ w
theorem rix0 (w : World) : (Instr.index 84 (.agg #[.string ⟨#[60, 33, 45, 45]⟩, .string ⟨#[45, 45, 62]⟩, .string ⟨#[60, 63]⟩, .string ⟨#[63, 62]⟩]) (.int .i64 0)).run Tryz.prog w = .ok (.agg #[.string ⟨#[60, 33, 45, 45]⟩, .string ⟨#[45, 45, 62]⟩]) w := by kernel_rfl
theorem rix1 (w : World) : (Instr.index 84 (.agg #[.string ⟨#[60, 33, 45, 45]⟩, .string ⟨#[45, 45, 62]⟩, .string ⟨#[60, 63]⟩, .string ⟨#[63, 62]⟩]) (.int .i64 1)).run Tryz.prog w = .ok (.agg #[.string ⟨#[60, 63]⟩, .string ⟨#[63, 62]⟩]) w := by kernel_rfl
set_option maxHeartbeats 4000000 in
set_option maxRecDepth 100000 in
theorem remark_k (b : Nat) (all : Int) (l : List UInt8) (w : World) (h : CutAt b all l w) (hz : l.length ≤ 1000000000) (m : Int) (hm : w.cell? ⟨1, 0, none⟩ = some (.int .i64 m)) (hb : b ≠ 1) :
    Calls Tryz.prog 23 #[.pointer (some ⟨b, 0, none⟩)] w fun e w' => remP b all l (T.remarkL l) e w' ∧ Off [b] w w' := by
  have HM := Lib.hid hm
  have HH := Lib.hid h
  clear hm h
  generalize hR : T.remarkL l = R
  unfold T.remarkL at hR
  have HR := Lib.hid hR
  clear hR
  go_enter Tryz.func23, Tryz.ntmps23
  go_wp2
  go_loopw [13] (fun i wr => ∃ k : Nat, i = .int .i64 (k : Int) ∧ k ≤ 2 ∧ Off [] w wr ∧ Hid ((1 ≤ k → [60, 33, 45, 45].isPrefixOf l = false) ∧ (2 ≤ k → [60, 63].isPrefixOf l = false)))
    (fun i _ => 2 - (intOf i).toNat)
  case atStart => exact ⟨0, rfl, by omega, Off.refl _ _, by simp, by simp⟩
  case round =>
    obtain ⟨k, rfl, hk, ho, HK⟩ := hrel
    have h1 : CutAt b all l wr := HH.out.kept ho (by simp)
    have hm1 := ho.cell HM.out (by simp)
    have hk3 : k = 0 ∨ k = 1 ∨ k = 2 := by omega
    rcases hk3 with rfl | rfl | rfl
    · have hix := rix0
      have o1 : Off [] w (wr.alloc (.cells #[.string ⟨#[60, 33, 45, 45]⟩, .string ⟨#[45, 45, 62]⟩] 83 (0, 0))) := ho.trans (Off.alloc _ _ _)
      have h2 := h1.kept (Off.alloc wr (.cells #[.string ⟨#[60, 33, 45, 45]⟩, .string ⟨#[45, 45, 62]⟩] 83 (0, 0)) []) (by simp)
      have hm2 := (Off.alloc wr (.cells #[.string ⟨#[60, 33, 45, 45]⟩, .string ⟨#[45, 45, 62]⟩] 83 (0, 0)) []).cell hm1 (by simp)
      have c2 := h2.rest
      have f2 := h2.soft 1
      have hlt := h1.lt
      have HP := Lib.hid (trim_calls l [60, 33, 45, 45])
      cases hp : [60, 33, 45, 45].isPrefixOf l with
      | false =>
        have hpe : eatL [60, 33, 45, 45] l = l := by unfold eatL; rw [hp]; rfl
        rw [hp, hpe] at HP
        go_wp2
        go_quiet ((go_at_call 36; first | exact Calls.quiet_of_same (HP.out _) | exact quiet_add_same (HP.out _)))
        go_wp2
        exact ⟨⟨1, rfl, by omega, o1.drewN _, fun _ => (by first | exact hp | trivial), fun h => absurd h (by omega)⟩, by simp [intOf]⟩
      | true =>
        have hpe : eatL [60, 33, 45, 45] l = l.drop 4 := by unfold eatL; rw [hp]; rfl
        rw [hp, hpe] at HP
        obtain ⟨x, y, hcut, hy⟩ := cut_calls (l.drop 4) [45, 45, 62] (by simp; omega) (by simp)
        have HC := Lib.hid hcut
        have HY := Lib.hid hy
        clear hcut hy
        have hR : T.behind [45, 45, 62] (l.drop 4) = R := by
          have := HR.out
          rw [if_pos hp] at this
          exact this
        rw [hR] at HC HY
        generalize l.drop 4 = l2 at HP HC
        cases R with
        | none =>
          go_wp2
          go_quiet ((go_at_call 36; first | exact Calls.quiet_of_same (HP.out _) | exact quiet_add_same (HP.out _)))
          go_wp2_with (go_at_call 37; refine (HC.out m _ ?_).mono ?_; (first | exact hm2 | (rw [World.cell?_drewN]; exact hm2)); rintro e w2 ⟨rfl, ⟨n2, rfl⟩⟩)
          go_ret
          exact ⟨⟨rfl, h2⟩, (o1.more (by simp)).drewN _⟩
        | some r =>
          obtain rfl := HY.out r rfl
          go_wp2
          go_quiet ((go_at_call 36; first | exact Calls.quiet_of_same (HP.out _) | exact quiet_add_same (HP.out _)))
          go_wp2_with (go_at_call 37; refine (HC.out m _ ?_).mono ?_; (first | exact hm2 | (rw [World.cell?_drewN]; exact hm2)); rintro e w2 ⟨rfl, ⟨n2, rfl⟩⟩)
          go_ret
          exact ⟨⟨rfl, CutAt.put (l := l) h2 _⟩, ((o1.more (by simp)).drewN _).trans (Off.put _ _ _ _ (by simp))⟩
    · have hix := rix1
      have o1 : Off [] w (wr.alloc (.cells #[.string ⟨#[60, 63]⟩, .string ⟨#[63, 62]⟩] 83 (0, 0))) := ho.trans (Off.alloc _ _ _)
      have h2 := h1.kept (Off.alloc wr (.cells #[.string ⟨#[60, 63]⟩, .string ⟨#[63, 62]⟩] 83 (0, 0)) []) (by simp)
      have hm2 := (Off.alloc wr (.cells #[.string ⟨#[60, 63]⟩, .string ⟨#[63, 62]⟩] 83 (0, 0)) []).cell hm1 (by simp)
      have c2 := h2.rest
      have f2 := h2.soft 1
      have hlt := h1.lt
      have HP := Lib.hid (trim_calls l [60, 63])
      cases hp : [60, 63].isPrefixOf l with
      | false =>
        have hpe : eatL [60, 63] l = l := by unfold eatL; rw [hp]; rfl
        rw [hp, hpe] at HP
        go_wp2
        go_quiet ((go_at_call 36; first | exact Calls.quiet_of_same (HP.out _) | exact quiet_add_same (HP.out _)))
        go_wp2
        exact ⟨⟨2, rfl, by omega, o1.drewN _, fun _ => HK.out.1 (by omega), fun _ => (by first | exact hp | trivial)⟩, by simp [intOf]⟩
      | true =>
        have hpe : eatL [60, 63] l = l.drop 2 := by unfold eatL; rw [hp]; rfl
        rw [hp, hpe] at HP
        obtain ⟨x, y, hcut, hy⟩ := cut_calls (l.drop 2) [63, 62] (by simp; omega) (by simp)
        have HC := Lib.hid hcut
        have HY := Lib.hid hy
        clear hcut hy
        have hR : T.behind [63, 62] (l.drop 2) = R := by
          have := HR.out
          rw [if_neg (by rw [HK.out.1 (by omega)]; simp), if_pos hp] at this
          exact this
        rw [hR] at HC HY
        generalize l.drop 2 = l2 at HP HC
        cases R with
        | none =>
          go_wp2
          go_quiet ((go_at_call 36; first | exact Calls.quiet_of_same (HP.out _) | exact quiet_add_same (HP.out _)))
          go_wp2_with (go_at_call 37; refine (HC.out m _ ?_).mono ?_; (first | exact hm2 | (rw [World.cell?_drewN]; exact hm2)); rintro e w2 ⟨rfl, ⟨n2, rfl⟩⟩)
          go_ret
          exact ⟨⟨rfl, h2⟩, (o1.more (by simp)).drewN _⟩
        | some r =>
          obtain rfl := HY.out r rfl
          go_wp2
          go_quiet ((go_at_call 36; first | exact Calls.quiet_of_same (HP.out _) | exact quiet_add_same (HP.out _)))
          go_wp2_with (go_at_call 37; refine (HC.out m _ ?_).mono ?_; (first | exact hm2 | (rw [World.cell?_drewN]; exact hm2)); rintro e w2 ⟨rfl, ⟨n2, rfl⟩⟩)
          go_ret
          exact ⟨⟨rfl, CutAt.put (l := l) h2 _⟩, ((o1.more (by simp)).drewN _).trans (Off.put _ _ _ _ (by simp))⟩
    · have hR : R = none := by
        have := HR.out
        rw [if_neg (by rw [HK.out.1 (by omega)]; simp), if_neg (by rw [HK.out.2 (by omega)]; simp)] at this
        exact this.symm
      subst hR
      go_wp2
      go_ret
      exact ⟨⟨rfl, h1⟩, ho.more (by simp)⟩
end Go.Proofs.YtpknhgejnfmijaaGreatDoor.X
