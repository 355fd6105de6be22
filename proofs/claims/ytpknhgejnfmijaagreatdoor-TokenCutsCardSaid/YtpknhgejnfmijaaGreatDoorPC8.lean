/- A text of the claim, with what no other text of it needs taken out. -/
import Derived.Test.YtpknhgejnfmijaaGreatDoorPC0
import Derived.Test.YtpknhgejnfmijaaGreatDoorPC4
import Derived.Test.YtpknhgejnfmijaaGreatDoorPC7
namespace Go.Proofs.YtpknhgejnfmijaaGreatDoor.PC
open Go.Proofs.YtpknhgejnfmijaaGreatDoor.K
open Go.RowKit Go.Proofs.YtpknhgejnfmijaaGreatDoorW.PrintWords Go.Proofs.YtpknhgejnfmijaaGreatDoorW.PrintLast Go.Proofs.YtpknhgejnfmijaaGreatDoorW.PrintMore
attribute [local go_sem] max2_int min2_int max_two min_two max_three min_three max_four min_four
set_option linter.unusedVariables false
set_option linter.unusedSimpArgs false
mutual
def r4_attribute.j0 : Nat → ByteArray → Int → Int → Int → Bool → Option (ByteArray × ByteArray × Int × Int)
 | 0, _, _, _, _, _ => none
 | k + 1, x0, x1, x6, x7, x29 => if x29 = true then (some ((⟨#[]⟩ : ByteArray), (⟨#[]⟩ : ByteArray), 0, 0)) else ((r4_blanks.f k x0 (wrap64 (x7 + 1))).bind fun t199 => ((r4_has.f x0 (wrap64 ((wrap64 (x7 + 1)) + t199)) (⟨#[39]⟩ : ByteArray)).bind fun t200 => (if t200 = true then (r4_attribute.j1 k x0 x1 x6 (wrap64 ((wrap64 (x7 + 1)) + t199)) false) else ((r4_has.f x0 (wrap64 ((wrap64 (x7 + 1)) + t199)) (⟨#[34]⟩ : ByteArray)).bind fun t201 => (r4_attribute.j1 k x0 x1 x6 (wrap64 ((wrap64 (x7 + 1)) + t199)) (!t201))))))
def r4_attribute.j1 : Nat → ByteArray → Int → Int → Int → Bool → Option (ByteArray × ByteArray × Int × Int)
 | 0, _, _, _, _, _ => none
 | k + 1, x0, x1, x6, x7, x47 => if x47 = true then (some ((⟨#[]⟩ : ByteArray), (⟨#[]⟩ : ByteArray), 0, 0)) else (if 0 ≤ x7 then (if x7 ≤ (wrap64 (x7 + 1)) then (if (wrap64 (x7 + 1)) ≤ (x0.size : Int) then ((r4_find.f k x0 (wrap64 (x7 + 1)) (x0.extract (x7 : Int).toNat ((wrap64 (x7 + 1)) : Int).toNat)).bind fun t202 => (if t202 < 0 then (some ((⟨#[]⟩ : ByteArray), (⟨#[]⟩ : ByteArray), 0, 0)) else (r4_attribute.l0 k x0 x1 x6 x7 t202 (wrap64 (x7 + 1))))) else (none)) else (none)) else (none))
def r4_attribute.l0 : Nat → ByteArray → Int → Int → Int → Int → Int → Option (ByteArray × ByteArray × Int × Int)
 | 0, _, _, _, _, _, _ => none
 | k + 1, x0, x1, x6, x7, x8, x9 => if x9 < x8 then (if 0 ≤ x9 then (if x9 < (x0.size : Int) then (if (bt x0 x9) = 60 then (some ((⟨#[]⟩ : ByteArray), (⟨#[]⟩ : ByteArray), 0, 0)) else (r4_attribute.l0 k x0 x1 x6 x7 x8 (wrap64 (x9 + 1)))) else (none)) else (none)) else (if 0 ≤ x1 then (if x1 ≤ (wrap64 (x1 + x6)) then (if (wrap64 (x1 + x6)) ≤ (x0.size : Int) then (if 0 ≤ (wrap64 (x7 + 1)) then (if (wrap64 (x7 + 1)) ≤ x8 then (if x8 ≤ (x0.size : Int) then (some (x0.extract (x1 : Int).toNat ((wrap64 (x1 + x6)) : Int).toNat, x0.extract ((wrap64 (x7 + 1)) : Int).toNat (x8 : Int).toNat, wrap64 (x7 + 1), wrap64 ((wrap64 (x8 + 1)) - x1))) else (none)) else (none)) else (none)) else (none)) else (none)) else (none))
end
def r4_attribute.f (k : Nat) (a0 : ByteArray) (a1 : Int) : Option (ByteArray × ByteArray × Int × Int) := if 0 ≤ a1 then (if a1 ≤ (a0.size : Int) then ((r2_Begin.f k (a0.extract (a1 : Int).toNat a0.size)).bind fun t196 => ((r4_blanks.f k a0 (wrap64 (a1 + t196))).bind fun t197 => (if t196 = 0 then (r4_attribute.j0 k a0 a1 t196 (wrap64 ((wrap64 (a1 + t196)) + t197)) true) else ((r4_has.f a0 (wrap64 ((wrap64 (a1 + t196)) + t197)) (⟨#[61]⟩ : ByteArray)).bind fun t198 => (r4_attribute.j0 k a0 a1 t196 (wrap64 ((wrap64 (a1 + t196)) + t197)) (!t198)))))) else (none)) else (none)
def r4_attribute.T18 : Bool × List (List Nat × List Nat) := (true, [([], []), ([], []), ([], []), ([], []), ([2, 3], [2, 3]), ([0, 1, 4], [0, 1, 4]), ([], []), ([], []), ([7], [7]), ([], []), ([6, 8, 9], [6, 8, 9]), ([], []), ([11], [11]), ([5, 10, 12], [5, 10, 12]), ([], []), ([14], [14]), ([], []), ([15, 16], [15, 16]), ([13, 0, 1, 2, 3, 4, 5, 6, 7, 8, 9, 10, 11, 12, 13], [13]), ([17, 18, 0, 1, 2, 3, 4, 5, 6, 7, 8, 9, 10, 11, 12, 13, 14, 15, 16, 17, 18], [17])])
def r4_attribute.B18 : List Nat := [0, 0, 0, 0, 12, 31, 0, 0, 128, 0, 960, 0, 2048, 8191, 0, 16384, 0, 114688, 16383, 524287]
theorem r4_attribute.tab18 : rtab .any (opsOf Tryz.f34 18) = r4_attribute.T18 := by kernel_rfl
theorem r4_attribute.bits18 : waitsOk r4_attribute.T18.2 r4_attribute.B18 = true := by kernel_rfl
set_option maxHeartbeats 8000000 in
set_option maxRecDepth 100000 in
theorem r4_attribute.calls (k : Nat) (a0 : ByteArray) (a1 : Int) (r1 : ByteArray) (r2 : ByteArray) (r3 : Int) (r4 : Int) (w : World) (h : r4_attribute.f k a0 a1 = some (r1, r2, r3, r4)) :
  Calls Tryz.prog 34 #[.string a0, .int .i64 a1] w fun e w' => e = .returned (.tuple #[.agg #[.string r1, .string r2, .int .i64 r3], .int .i64 r4]) ∧ Below w.heap.size w w' := by
 have hu66 := Tryz.underlying66
 have HB := Az.mk (Below.refl w.heap.size w)
 have H := h
 unfold r4_attribute.f at H
 clear h
 by_cases c3 : 0 ≤ a1
 ·rw [if_pos c3] at H
  have c3b0 := eq_true c3
  have c3b1 : decide (0 ≤ a1) = true := decide_eq_true c3
  clear c3
  by_cases c4 : a1 ≤ (a0.size : Int)
  ·rw [if_pos c4] at H
   have c4b0 := eq_true c4
   have c4b1 : decide (a1 ≤ (a0.size : Int)) = true := decide_eq_true c4
   clear c4
   replace H := Option.bind_eq_some_iff.mp H
   obtain ⟨t196, A50, H⟩ := H
   replace H : ((r4_blanks.f k a0 (wrap64 (a1 + t196))).bind fun t197 => (if t196 = 0 then (r4_attribute.j0 k a0 a1 t196 (wrap64 ((wrap64 (a1 + t196)) + t197)) true) else ((r4_has.f a0 (wrap64 ((wrap64 (a1 + t196)) + t197)) (⟨#[61]⟩ : ByteArray)).bind fun t198 => (r4_attribute.j0 k a0 a1 t196 (wrap64 ((wrap64 (a1 + t196)) + t197)) (!t198))))) = some (r1, r2, r3, r4) := H
   have A5 := Az.mk A50
   clear A50
   replace H := Option.bind_eq_some_iff.mp H
   obtain ⟨t197, A60, H⟩ := H
   replace H : (if t196 = 0 then (r4_attribute.j0 k a0 a1 t196 (wrap64 ((wrap64 (a1 + t196)) + t197)) true) else ((r4_has.f a0 (wrap64 ((wrap64 (a1 + t196)) + t197)) (⟨#[61]⟩ : ByteArray)).bind fun t198 => (r4_attribute.j0 k a0 a1 t196 (wrap64 ((wrap64 (a1 + t196)) + t197)) (!t198)))) = some (r1, r2, r3, r4) := H
   have A6 := Az.mk A60
   clear A60
   have HC7 := Az.mk H
   clear H
   go_enter Tryz.func34, Tryz.ntmps34
   go_upto_region 4 with (first | ((with_reducible refine gate_dst (N := 4) rfl ?_); refine box_event ?hg (N := 4) ?hd (cs := #[.string (⟨#[]⟩ : ByteArray), .string (⟨#[]⟩ : ByteArray), .int .i64 0]) (t := 66) ?hr ?_; (case hd => rfl); (case hg => rfl); (case hr => first | (go_simp; done) | (go_simp; rfl)); intro gb195 hg w8 hbox hb; have n0_ := Az.mk (below_step (tw HB.out) hb); have n1_ := Az.mk (hbox); have n2_ := Az.mk ((by rw [hg]; exact (below_size (tw HB.out)) : w.heap.size ≤ gb195)); have n3_ := Az.mk ((by rw [hg]; exact (below_size (tw HB.out)) : w.heap.size ≤ gb195)); clear HB; have HB := n0_; have BK195 := n1_; have GW195 := n2_; have GE195 := n3_; clear n0_ n1_ n2_ n3_; clear hb hbox hg) | ((with_reducible refine gate_callee (f := 32) rfl ?_); refine goesL_ (some 13) rfl rfl Tryz.func32 (by kernel_rfl) rfl #[.string (a0.extract (a1 : Int).toNat a0.size)] rfl (by (try simp only [List.map_toArray, List.map_cons, List.map_nil]); first | done | rfl | (simp only [List.length_drop, List.length_take]; rfl)) ?_; (with_reducible refine (r2_Begin.calls k (a0.extract (a1 : Int).toNat a0.size) t196 _ A5.out).mono ?_); rintro e w9 ⟨rfl, hb⟩; refine ⟨_, rfl, ?_⟩; have n0_ := Az.mk (blk_below (g := gb195) (o := .cells #[.string (⟨#[]⟩ : ByteArray), .string (⟨#[]⟩ : ByteArray), .int .i64 0] 66 (0, 0)) (twb BK195.out) hb); have n1_ := Az.mk (below_step (by repeat (first | (with_reducible first | exact HB.out | apply below_alloc | apply pw_below_drewN | apply below_drew1 | refine below_set ?_ GE195.out) | exact HB.out)) hb); clear BK195; clear HB; have BK195 := n0_; have HB := n1_; clear n0_ n1_; (try clear hb); (try clear hb2); (try clear hk); (try clear hi)) | ((with_reducible refine gate_callee (f := 33) rfl ?_); refine goesL_ (some 20) rfl rfl Tryz.func33 (by kernel_rfl) rfl #[.string a0, .int .i64 (wrap64 (a1 + t196))] rfl (by (try simp only [List.map_toArray, List.map_cons, List.map_nil]); first | done | rfl | (simp only [List.length_drop, List.length_take]; rfl)) ?_; (with_reducible refine (r4_blanks.calls k a0 (wrap64 (a1 + t196)) t197 _ A6.out).mono ?_); rintro e w' ⟨rfl, ⟨nd, rfl⟩⟩; refine ⟨_, rfl, ?_⟩))
   (try simp only [Act.put, List.setIfInBounds_toArray, List.set_cons_zero, List.set_cons_succ])
   go_cut [29] (fun v29 wc => ∃ (kq : Nat) (x29_6 : Bool), v29 = .bool x29_6 ∧ Az (r4_attribute.j0 kq a0 a1 t196 (wrap64 ((wrap64 (a1 + t196)) + t197)) x29_6 = some (r1, r2, r3, r4)) ∧ Az (kq ≤ k) ∧ Az (wc.heap[gb195]? = some (.cells #[.string (⟨#[]⟩ : ByteArray), .string (⟨#[]⟩ : ByteArray), .int .i64 0] 66 (0, 0))) ∧ Az (Below w.heap.size w wc))
   case first =>
    have H := HC7.out
    clear HC7
    by_cases c10 : t196 = 0
    ·rw [if_pos c10] at H
     have c10b0 : (t196 == 0) = true := beq_iff_eq.mpr c10
     have c10b1 : (t196 != 0) = false := bne_eq_false_iff_eq.mpr c10
     clear c10
     (first | rw [c10b0] | (simp only [i64_w, i32_w]; rw [c10b0]) | skip)
     have H' := Az.mk H
     clear H
     go_wp2
     go_meet
     case rel => exact ⟨_, (true), (by first | rfl | (simp; done) | (simp [*]; done)), H', ⟨by first | omega | exact Nat.le_refl _⟩, ⟨twb BK195.out⟩, ⟨by repeat (first | (with_reducible first | exact HB.out | apply below_alloc | apply pw_below_drewN | apply below_drew1 | refine below_set ?_ GE195.out) | exact HB.out)⟩⟩
    ·rw [if_neg c10] at H
     have c10b0 : (t196 == 0) = false := beq_eq_false_iff_ne.mpr c10
     have c10b1 : (t196 != 0) = true := bne_iff_ne.mpr c10
     (first | rw [c10b0] | (simp only [i64_w, i32_w]; rw [c10b0]) | skip)
     replace H := Option.bind_eq_some_iff.mp H
     obtain ⟨t198, A110, H⟩ := H
     replace H : (r4_attribute.j0 k a0 a1 t196 (wrap64 ((wrap64 (a1 + t196)) + t197)) (!t198)) = some (r1, r2, r3, r4) := H
     have A11 := Az.mk A110
     clear A110
     have H' := Az.mk H
     clear H
     go_wp2_with (first | (go_at_call 30; (with_reducible refine (r4_has.calls a0 (wrap64 ((wrap64 (a1 + t196)) + t197)) (⟨#[61]⟩ : ByteArray) t198 _ A11.out).mono ?_); rintro e w' ⟨rfl, ⟨nd, rfl⟩⟩))
     go_meet
     case rel => exact ⟨_, (!t198), (by first | rfl | (simp; done) | (simp [*]; done)), H', ⟨by first | omega | exact Nat.le_refl _⟩, ⟨twb BK195.out⟩, ⟨by repeat (first | (with_reducible first | exact HB.out | apply below_alloc | apply pw_below_drewN | apply below_drew1 | refine below_set ?_ GE195.out) | exact HB.out)⟩⟩
   case rest =>
    clear HC7
    try clear c1
    try clear p2
    try clear c3
    try clear c3b0
    try clear c3b1
    try clear c4
    try clear c4b0
    try clear c4b1
    try clear p6
    try clear c10
    try clear c10b0
    try clear c10b1
    obtain ⟨kq, x29_6, rfl, HA, HJ6, BK195, HB⟩ := hcut
    cases kq with
    | zero => exact absurd HA.out (by simp [r4_attribute.j0])
    | succ kj6 =>
     have H := HA.out
     clear HA
     simp only [r4_attribute.j0] at H
     by_cases c12 : x29_6 = true
     ·subst c12
      have H1 : (some ((⟨#[]⟩ : ByteArray), (⟨#[]⟩ : ByteArray), 0, 0)) = some (r1, r2, r3, r4) := by rw [if_pos rfl] at H; exact H
      clear H
      have H := H1
      clear H1
      simp only [Option.some.injEq, Prod.mk.injEq] at H
      obtain ⟨rfl, rfl, rfl, rfl⟩ := H
      have hcz13_0 : wc.cell? ⟨gb195, 0, none⟩ = some (.string (⟨#[]⟩ : ByteArray)) := (blk_cell BK195.out 0).trans rfl
      have hcz13_1 : wc.cell? ⟨gb195, 1, none⟩ = some (.string (⟨#[]⟩ : ByteArray)) := (blk_cell BK195.out 1).trans rfl
      have hcz13_2 : wc.cell? ⟨gb195, 2, none⟩ = some (.int .i64 0) := (blk_cell BK195.out 2).trans rfl
      have hfz13_0 := blk_frozen BK195.out 0
      have hfz13_1 := blk_frozen BK195.out 1
      have hfz13_2 := blk_frozen BK195.out 2
      go_wp2
      refine bodyPost_ret (results_ct rfl _ _ gb195 66 #[.string (⟨#[]⟩ : ByteArray), .string (⟨#[]⟩ : ByteArray), .int .i64 0] (0, 0) _ rfl (by (with_reducible repeat (first | refine blk_drewN ?_ _ | refine blk_drew ?_ | refine blk_alloc ?_ _)); refine blk_put (cs := #[.string (⟨#[]⟩ : ByteArray), .string (⟨#[]⟩ : ByteArray), .int .i64 0]) ?_ 2 _ rfl; (with_reducible repeat (first | refine blk_drewN ?_ _ | refine blk_drew ?_ | refine blk_alloc ?_ _)); refine blk_put (cs := #[.string (⟨#[]⟩ : ByteArray), .string (⟨#[]⟩ : ByteArray), .int .i64 0]) ?_ 1 _ rfl; (with_reducible repeat (first | refine blk_drewN ?_ _ | refine blk_drew ?_ | refine blk_alloc ?_ _)); refine blk_put (cs := #[.string (⟨#[]⟩ : ByteArray), .string (⟨#[]⟩ : ByteArray), .int .i64 0]) ?_ 0 _ rfl; (with_reducible repeat (first | refine blk_drewN ?_ _ | refine blk_drew ?_ | refine blk_alloc ?_ _)); exact BK195.out) Tryz.underlying66 rfl (by kernel_rfl)) rfl ?_
      exact ⟨by first | rfl | (simp [errW_none, errW_some] <;> rfl) | (simp [*, errW_none, errW_some] <;> rfl), by repeat (first | (with_reducible first | exact HB.out | apply below_alloc | apply pw_below_drewN | apply below_drew1 | refine below_set ?_ GE195.out) | exact HB.out)⟩
     ·replace c12 := Bool.eq_false_iff.mpr c12
      subst c12
      have H1 : ((r4_blanks.f kj6 a0 (wrap64 ((wrap64 ((wrap64 (a1 + t196)) + t197)) + 1))).bind fun t199 => ((r4_has.f a0 (wrap64 ((wrap64 ((wrap64 ((wrap64 (a1 + t196)) + t197)) + 1)) + t199)) (⟨#[39]⟩ : ByteArray)).bind fun t200 => (if t200 = true then (r4_attribute.j1 kj6 a0 a1 t196 (wrap64 ((wrap64 ((wrap64 ((wrap64 (a1 + t196)) + t197)) + 1)) + t199)) false) else ((r4_has.f a0 (wrap64 ((wrap64 ((wrap64 ((wrap64 (a1 + t196)) + t197)) + 1)) + t199)) (⟨#[34]⟩ : ByteArray)).bind fun t201 => (r4_attribute.j1 kj6 a0 a1 t196 (wrap64 ((wrap64 ((wrap64 ((wrap64 (a1 + t196)) + t197)) + 1)) + t199)) (!t201)))))) = some (r1, r2, r3, r4) := by rw [if_neg (show ¬ (false = true) by decide)] at H; exact H
      clear H
      have H := H1
      clear H1
      replace H := Option.bind_eq_some_iff.mp H
      obtain ⟨t199, A140, H⟩ := H
      replace H : ((r4_has.f a0 (wrap64 ((wrap64 ((wrap64 ((wrap64 (a1 + t196)) + t197)) + 1)) + t199)) (⟨#[39]⟩ : ByteArray)).bind fun t200 => (if t200 = true then (r4_attribute.j1 kj6 a0 a1 t196 (wrap64 ((wrap64 ((wrap64 ((wrap64 (a1 + t196)) + t197)) + 1)) + t199)) false) else ((r4_has.f a0 (wrap64 ((wrap64 ((wrap64 ((wrap64 (a1 + t196)) + t197)) + 1)) + t199)) (⟨#[34]⟩ : ByteArray)).bind fun t201 => (r4_attribute.j1 kj6 a0 a1 t196 (wrap64 ((wrap64 ((wrap64 ((wrap64 (a1 + t196)) + t197)) + 1)) + t199)) (!t201))))) = some (r1, r2, r3, r4) := H
      have A14 := Az.mk A140
      clear A140
      have HC15 := Az.mk H
      clear H
      go_upto_region 8 with (first | ((with_reducible refine gate_callee (f := 33) rfl ?_); refine goesL_ (some 36) rfl rfl Tryz.func33 (by kernel_rfl) rfl #[.string a0, .int .i64 (wrap64 ((wrap64 ((wrap64 (a1 + t196)) + t197)) + 1))] rfl (by (try simp only [List.map_toArray, List.map_cons, List.map_nil]); first | done | rfl | (simp only [List.length_drop, List.length_take]; rfl)) ?_; (with_reducible refine (r4_blanks.calls kj6 a0 (wrap64 ((wrap64 ((wrap64 (a1 + t196)) + t197)) + 1)) t199 _ A14.out).mono ?_); rintro e w' ⟨rfl, ⟨nd, rfl⟩⟩; refine ⟨_, rfl, ?_⟩))
      (try simp only [Act.put, List.setIfInBounds_toArray, List.set_cons_zero, List.set_cons_succ])
      go_cut [47] (fun v47 wc => ∃ (kq : Nat) (x47_14 : Bool), v47 = .bool x47_14 ∧ Az (r4_attribute.j1 kq a0 a1 t196 (wrap64 ((wrap64 ((wrap64 ((wrap64 (a1 + t196)) + t197)) + 1)) + t199)) x47_14 = some (r1, r2, r3, r4)) ∧ Az (kq ≤ kj6) ∧ Az (wc.heap[gb195]? = some (.cells #[.string (⟨#[]⟩ : ByteArray), .string (⟨#[]⟩ : ByteArray), .int .i64 0] 66 (0, 0))) ∧ Az (Below w.heap.size w wc))
      case first =>
       have H := HC15.out
       clear HC15
       replace H := Option.bind_eq_some_iff.mp H
       obtain ⟨t200, A160, H⟩ := H
       replace H : (if t200 = true then (r4_attribute.j1 kj6 a0 a1 t196 (wrap64 ((wrap64 ((wrap64 ((wrap64 (a1 + t196)) + t197)) + 1)) + t199)) false) else ((r4_has.f a0 (wrap64 ((wrap64 ((wrap64 ((wrap64 (a1 + t196)) + t197)) + 1)) + t199)) (⟨#[34]⟩ : ByteArray)).bind fun t201 => (r4_attribute.j1 kj6 a0 a1 t196 (wrap64 ((wrap64 ((wrap64 ((wrap64 (a1 + t196)) + t197)) + 1)) + t199)) (!t201)))) = some (r1, r2, r3, r4) := H
       have A16 := Az.mk A160
       clear A160
       by_cases c17 : t200 = true
       ·subst c17
        have H1 : (r4_attribute.j1 kj6 a0 a1 t196 (wrap64 ((wrap64 ((wrap64 ((wrap64 (a1 + t196)) + t197)) + 1)) + t199)) false) = some (r1, r2, r3, r4) := by rw [if_pos rfl] at H; exact H
        clear H
        have H := H1
        clear H1
        have H' := Az.mk H
        clear H
        go_wp2_with (first | ((with_reducible refine gate_callee (f := 30) rfl ?_); refine goesL_ (some 40) rfl rfl Tryz.func30 (by kernel_rfl) rfl #[.string a0, .int .i64 (wrap64 ((wrap64 ((wrap64 ((wrap64 (a1 + t196)) + t197)) + 1)) + t199)), .string (⟨#[39]⟩ : ByteArray)] rfl (by (try simp only [List.map_toArray, List.map_cons, List.map_nil]); first | done | rfl | (simp only [List.length_drop, List.length_take]; rfl)) ?_; (with_reducible refine (r4_has.calls a0 (wrap64 ((wrap64 ((wrap64 ((wrap64 (a1 + t196)) + t197)) + 1)) + t199)) (⟨#[39]⟩ : ByteArray) true _ A16.out).mono ?_); rintro e w' ⟨rfl, ⟨nd, rfl⟩⟩; refine ⟨_, rfl, ?_⟩))
        go_meet
        case rel => exact ⟨_, (false), (by first | rfl | (simp; done) | (simp [*]; done)), H', ⟨by have := HJ6.out; first | omega | exact Nat.le_refl _⟩, ⟨twb BK195.out⟩, ⟨by repeat (first | (with_reducible first | exact HB.out | apply below_alloc | apply pw_below_drewN | apply below_drew1 | refine below_set ?_ GE195.out) | exact HB.out)⟩⟩
       ·replace c17 := Bool.eq_false_iff.mpr c17
        subst c17
        have H1 : ((r4_has.f a0 (wrap64 ((wrap64 ((wrap64 ((wrap64 (a1 + t196)) + t197)) + 1)) + t199)) (⟨#[34]⟩ : ByteArray)).bind fun t201 => (r4_attribute.j1 kj6 a0 a1 t196 (wrap64 ((wrap64 ((wrap64 ((wrap64 (a1 + t196)) + t197)) + 1)) + t199)) (!t201))) = some (r1, r2, r3, r4) := by rw [if_neg (show ¬ (false = true) by decide)] at H; exact H
        clear H
        have H := H1
        clear H1
        replace H := Option.bind_eq_some_iff.mp H
        obtain ⟨t201, A180, H⟩ := H
        replace H : (r4_attribute.j1 kj6 a0 a1 t196 (wrap64 ((wrap64 ((wrap64 ((wrap64 (a1 + t196)) + t197)) + 1)) + t199)) (!t201)) = some (r1, r2, r3, r4) := H
        have A18 := Az.mk A180
        clear A180
        have H' := Az.mk H
        clear H
        go_wp2_with (first | ((with_reducible refine gate_callee (f := 30) rfl ?_); refine goesL_ (some 40) rfl rfl Tryz.func30 (by kernel_rfl) rfl #[.string a0, .int .i64 (wrap64 ((wrap64 ((wrap64 ((wrap64 (a1 + t196)) + t197)) + 1)) + t199)), .string (⟨#[39]⟩ : ByteArray)] rfl (by (try simp only [List.map_toArray, List.map_cons, List.map_nil]); first | done | rfl | (simp only [List.length_drop, List.length_take]; rfl)) ?_; (with_reducible refine (r4_has.calls a0 (wrap64 ((wrap64 ((wrap64 ((wrap64 (a1 + t196)) + t197)) + 1)) + t199)) (⟨#[39]⟩ : ByteArray) false _ A16.out).mono ?_); rintro e w' ⟨rfl, ⟨nd, rfl⟩⟩; refine ⟨_, rfl, ?_⟩) | (go_at_call 30; (with_reducible refine (r4_has.calls a0 (wrap64 ((wrap64 ((wrap64 ((wrap64 (a1 + t196)) + t197)) + 1)) + t199)) (⟨#[34]⟩ : ByteArray) t201 _ A18.out).mono ?_); rintro e w' ⟨rfl, ⟨nd, rfl⟩⟩))
        go_meet
        case rel => exact ⟨_, (!t201), (by first | rfl | (simp; done) | (simp [*]; done)), H', ⟨by have := HJ6.out; first | omega | exact Nat.le_refl _⟩, ⟨twb BK195.out⟩, ⟨by repeat (first | (with_reducible first | exact HB.out | apply below_alloc | apply pw_below_drewN | apply below_drew1 | refine below_set ?_ GE195.out) | exact HB.out)⟩⟩
      case rest =>
       clear HC15
       try clear c1
       try clear p2
       try clear c3
       try clear c3b0
       try clear c3b1
       try clear c4
       try clear c4b0
       try clear c4b1
       try clear p6
       try clear c10
       try clear c10b0
       try clear c10b1
       try clear c12
       try clear c17
       try clear hcz13_0
       try clear hcz13_1
       try clear hcz13_2
       try clear hfz13_0
       try clear hfz13_1
       try clear hfz13_2
       try clear p2
       try clear p6
       obtain ⟨kq, x47_14, rfl, HA, HJ14, BK195, HB⟩ := hcut
       cases kq with
       | zero => exact absurd HA.out (by simp [r4_attribute.j1])
       | succ kj14 =>
        have H := HA.out
        clear HA
        simp only [r4_attribute.j1] at H
        by_cases c19 : x47_14 = true
        ·subst c19
         have H1 : (some ((⟨#[]⟩ : ByteArray), (⟨#[]⟩ : ByteArray), 0, 0)) = some (r1, r2, r3, r4) := by rw [if_pos rfl] at H; exact H
         clear H
         have H := H1
         clear H1
         simp only [Option.some.injEq, Prod.mk.injEq] at H
         obtain ⟨rfl, rfl, rfl, rfl⟩ := H
         have hcz20_0 : wc.cell? ⟨gb195, 0, none⟩ = some (.string (⟨#[]⟩ : ByteArray)) := (blk_cell BK195.out 0).trans rfl
         have hcz20_1 : wc.cell? ⟨gb195, 1, none⟩ = some (.string (⟨#[]⟩ : ByteArray)) := (blk_cell BK195.out 1).trans rfl
         have hcz20_2 : wc.cell? ⟨gb195, 2, none⟩ = some (.int .i64 0) := (blk_cell BK195.out 2).trans rfl
         have hfz20_0 := blk_frozen BK195.out 0
         have hfz20_1 := blk_frozen BK195.out 1
         have hfz20_2 := blk_frozen BK195.out 2
         go_wp2
         refine bodyPost_ret (results_ct rfl _ _ gb195 66 #[.string (⟨#[]⟩ : ByteArray), .string (⟨#[]⟩ : ByteArray), .int .i64 0] (0, 0) _ rfl (by (with_reducible repeat (first | refine blk_drewN ?_ _ | refine blk_drew ?_ | refine blk_alloc ?_ _)); refine blk_put (cs := #[.string (⟨#[]⟩ : ByteArray), .string (⟨#[]⟩ : ByteArray), .int .i64 0]) ?_ 2 _ rfl; (with_reducible repeat (first | refine blk_drewN ?_ _ | refine blk_drew ?_ | refine blk_alloc ?_ _)); refine blk_put (cs := #[.string (⟨#[]⟩ : ByteArray), .string (⟨#[]⟩ : ByteArray), .int .i64 0]) ?_ 1 _ rfl; (with_reducible repeat (first | refine blk_drewN ?_ _ | refine blk_drew ?_ | refine blk_alloc ?_ _)); refine blk_put (cs := #[.string (⟨#[]⟩ : ByteArray), .string (⟨#[]⟩ : ByteArray), .int .i64 0]) ?_ 0 _ rfl; (with_reducible repeat (first | refine blk_drewN ?_ _ | refine blk_drew ?_ | refine blk_alloc ?_ _)); exact BK195.out) Tryz.underlying66 rfl (by kernel_rfl)) rfl ?_
         exact ⟨by first | rfl | (simp [errW_none, errW_some] <;> rfl) | (simp [*, errW_none, errW_some] <;> rfl), by repeat (first | (with_reducible first | exact HB.out | apply below_alloc | apply pw_below_drewN | apply below_drew1 | refine below_set ?_ GE195.out) | exact HB.out)⟩
        ·replace c19 := Bool.eq_false_iff.mpr c19
         subst c19
         have H1 : (if 0 ≤ (wrap64 ((wrap64 ((wrap64 ((wrap64 (a1 + t196)) + t197)) + 1)) + t199)) then (if (wrap64 ((wrap64 ((wrap64 ((wrap64 (a1 + t196)) + t197)) + 1)) + t199)) ≤ (wrap64 ((wrap64 ((wrap64 ((wrap64 ((wrap64 (a1 + t196)) + t197)) + 1)) + t199)) + 1)) then (if (wrap64 ((wrap64 ((wrap64 ((wrap64 ((wrap64 (a1 + t196)) + t197)) + 1)) + t199)) + 1)) ≤ (a0.size : Int) then ((r4_find.f kj14 a0 (wrap64 ((wrap64 ((wrap64 ((wrap64 ((wrap64 (a1 + t196)) + t197)) + 1)) + t199)) + 1)) (a0.extract ((wrap64 ((wrap64 ((wrap64 ((wrap64 (a1 + t196)) + t197)) + 1)) + t199)) : Int).toNat ((wrap64 ((wrap64 ((wrap64 ((wrap64 ((wrap64 (a1 + t196)) + t197)) + 1)) + t199)) + 1)) : Int).toNat)).bind fun t202 => (if t202 < 0 then (some ((⟨#[]⟩ : ByteArray), (⟨#[]⟩ : ByteArray), 0, 0)) else (r4_attribute.l0 kj14 a0 a1 t196 (wrap64 ((wrap64 ((wrap64 ((wrap64 (a1 + t196)) + t197)) + 1)) + t199)) t202 (wrap64 ((wrap64 ((wrap64 ((wrap64 ((wrap64 (a1 + t196)) + t197)) + 1)) + t199)) + 1))))) else (none)) else (none)) else (none)) = some (r1, r2, r3, r4) := by rw [if_neg (show ¬ (false = true) by decide)] at H; exact H
         clear H
         have H := H1
         clear H1
         obtain ⟨ji21, hji21⟩ : ∃ j_ : Int, (wrap64 ((wrap64 ((wrap64 ((wrap64 (a1 + t196)) + t197)) + 1)) + t199)) = j_ := ⟨_, rfl⟩
         replace H : (if 0 ≤ (ji21) then (if (ji21) ≤ (wrap64 ((ji21) + 1)) then (if (wrap64 ((ji21) + 1)) ≤ (a0.size : Int) then ((r4_find.f kj14 a0 (wrap64 ((ji21) + 1)) (a0.extract ((ji21) : Int).toNat ((wrap64 ((ji21) + 1)) : Int).toNat)).bind fun t202 => (if t202 < 0 then (some ((⟨#[]⟩ : ByteArray), (⟨#[]⟩ : ByteArray), 0, 0)) else (r4_attribute.l0 kj14 a0 a1 t196 (ji21) t202 (wrap64 ((ji21) + 1))))) else (none)) else (none)) else (none)) = some (r1, r2, r3, r4) := by first | (rw [hji21] at H; exact H) | (simp only [hji21] at H ⊢; exact H)
         have hji21w : (IntKind.i64.wrap ((wrap64 ((wrap64 ((wrap64 (a1 + t196)) + t197)) + 1)) + t199)) = ji21 := (i64_w _).trans hji21
         by_cases c22 : 0 ≤ (ji21)
         ·rw [if_pos c22] at H
          have c22b0 := eq_true c22
          have c22b1 : decide (0 ≤ (ji21)) = true := decide_eq_true c22
          clear c22
          by_cases c23 : (ji21) ≤ (wrap64 ((ji21) + 1))
          ·rw [if_pos c23] at H
           have c23b0 := eq_true c23
           have c23b1 : decide ((ji21) ≤ (wrap64 ((ji21) + 1))) = true := decide_eq_true c23
           by_cases c24 : (wrap64 ((ji21) + 1)) ≤ (a0.size : Int)
           ·rw [if_pos c24] at H
            have c24b0 := eq_true c24
            have c24b1 : decide ((wrap64 ((ji21) + 1)) ≤ (a0.size : Int)) = true := decide_eq_true c24
            replace H := Option.bind_eq_some_iff.mp H
            obtain ⟨t202, A250, H⟩ := H
            replace H : (if t202 < 0 then (some ((⟨#[]⟩ : ByteArray), (⟨#[]⟩ : ByteArray), 0, 0)) else (r4_attribute.l0 kj14 a0 a1 t196 (ji21) t202 (wrap64 ((ji21) + 1)))) = some (r1, r2, r3, r4) := H
            have A25 := Az.mk A250
            clear A250
            by_cases c26 : t202 < 0
            ·rw [if_pos c26] at H
             have c26b0 : decide (t202 < 0) = true := decide_eq_true c26
             clear c26
             simp only [Option.some.injEq, Prod.mk.injEq] at H
             obtain ⟨rfl, rfl, rfl, rfl⟩ := H
             go_wp2_with (first | ((with_reducible refine gate_callee (f := 17) rfl ?_); refine goesL_ (some 57) rfl rfl Tryz.func17 (by kernel_rfl) rfl #[.string a0, .int .i64 (wrap64 ((ji21) + 1)), .string (a0.extract ((ji21) : Int).toNat ((wrap64 ((ji21) + 1)) : Int).toNat)] rfl (by (try simp only [List.map_toArray, List.map_cons, List.map_nil]); first | done | (simp only [hji21]; rfl) | rfl | (simp only [List.length_drop, List.length_take]; rfl)) ?_; (with_reducible refine (r4_find.calls kj14 a0 (wrap64 ((ji21) + 1)) (a0.extract ((ji21) : Int).toNat ((wrap64 ((ji21) + 1)) : Int).toNat) t202 _ A25.out).mono ?_); rintro e w' ⟨rfl, ⟨nd, rfl⟩⟩; refine ⟨_, rfl, ?_⟩; (try (rw [drewN_self wc]; generalize hq_ : World.drewN wc _ = wc; have n0_ : Az (wc.heap[gb195]? = some (.cells #[.string (⟨#[]⟩ : ByteArray), .string (⟨#[]⟩ : ByteArray), .int .i64 0] 66 (0, 0))) := ⟨by rw [← hq_]; exact (twb BK195.out)⟩; have n1_ : Az (Below w.heap.size w wc) := ⟨by rw [← hq_]; exact (by repeat (first | (with_reducible first | exact HB.out | apply below_alloc | apply pw_below_drewN | apply below_drew1 | refine below_set ?_ GE195.out) | exact HB.out))⟩; clear BK195 HB hq_; have BK195 := n0_; have HB := n1_; clear n0_ n1_)); have hcz27_0 : wc.cell? ⟨gb195, 0, none⟩ = some (.string (⟨#[]⟩ : ByteArray)) := (blk_cell BK195.out 0).trans rfl; have hcz27_1 : wc.cell? ⟨gb195, 1, none⟩ = some (.string (⟨#[]⟩ : ByteArray)) := (blk_cell BK195.out 1).trans rfl; have hcz27_2 : wc.cell? ⟨gb195, 2, none⟩ = some (.int .i64 0) := (blk_cell BK195.out 2).trans rfl; have hfz27_0 := blk_frozen BK195.out 0; have hfz27_1 := blk_frozen BK195.out 1; have hfz27_2 := blk_frozen BK195.out 2))
             refine bodyPost_ret (results_ct rfl _ _ gb195 66 #[.string (⟨#[]⟩ : ByteArray), .string (⟨#[]⟩ : ByteArray), .int .i64 0] (0, 0) _ rfl (by (with_reducible repeat (first | refine blk_drewN ?_ _ | refine blk_drew ?_ | refine blk_alloc ?_ _)); refine blk_put (cs := #[.string (⟨#[]⟩ : ByteArray), .string (⟨#[]⟩ : ByteArray), .int .i64 0]) ?_ 2 _ rfl; (with_reducible repeat (first | refine blk_drewN ?_ _ | refine blk_drew ?_ | refine blk_alloc ?_ _)); refine blk_put (cs := #[.string (⟨#[]⟩ : ByteArray), .string (⟨#[]⟩ : ByteArray), .int .i64 0]) ?_ 1 _ rfl; (with_reducible repeat (first | refine blk_drewN ?_ _ | refine blk_drew ?_ | refine blk_alloc ?_ _)); refine blk_put (cs := #[.string (⟨#[]⟩ : ByteArray), .string (⟨#[]⟩ : ByteArray), .int .i64 0]) ?_ 0 _ rfl; (with_reducible repeat (first | refine blk_drewN ?_ _ | refine blk_drew ?_ | refine blk_alloc ?_ _)); exact BK195.out) Tryz.underlying66 rfl (by kernel_rfl)) rfl ?_
             exact ⟨by first | rfl | (simp [errW_none, errW_some] <;> rfl) | (simp only [← hji21]; first | rfl | (simp [errW_none, errW_some] <;> rfl)) | (simp [*, errW_none, errW_some] <;> rfl), by repeat (first | (with_reducible first | exact HB.out | apply below_alloc | apply pw_below_drewN | apply below_drew1 | refine below_set ?_ GE195.out) | exact HB.out)⟩
            ·rw [if_neg c26] at H
             have c26b0 : decide (t202 < 0) = false := decide_eq_false c26
             clear c26
             have H' := Az.mk H
             clear H
             go_wp2_with (first | ((with_reducible refine gate_callee (f := 17) rfl ?_); refine goesL_ (some 57) rfl rfl Tryz.func17 (by kernel_rfl) rfl #[.string a0, .int .i64 (wrap64 ((ji21) + 1)), .string (a0.extract ((ji21) : Int).toNat ((wrap64 ((ji21) + 1)) : Int).toNat)] rfl (by (try simp only [List.map_toArray, List.map_cons, List.map_nil]); first | done | (simp only [hji21]; rfl) | rfl | (simp only [List.length_drop, List.length_take]; rfl)) ?_; (with_reducible refine (r4_find.calls kj14 a0 (wrap64 ((ji21) + 1)) (a0.extract ((ji21) : Int).toNat ((wrap64 ((ji21) + 1)) : Int).toNat) t202 _ A25.out).mono ?_); rintro e w' ⟨rfl, ⟨nd, rfl⟩⟩; refine ⟨_, rfl, ?_⟩))
             go_loopg [9] kj14 (fun kq v9 w' => ∃ (x9_3 : Int) (x196000_3 : ByteArray) (x196001_3 : ByteArray) (x196002_3 : Int), v9 = .int .i64 x9_3 ∧ Az (r4_attribute.l0 kq a0 a1 t196 (ji21) t202 x9_3 = some (r1, r2, r3, r4)) ∧ Az (kq ≤ kj14) ∧ Az (w'.heap[gb195]? = some (.cells #[.string x196000_3, .string x196001_3, .int .i64 x196002_3] 66 (0, 0))) ∧ Az (Below w.heap.size w w'))
             case atStart => exact ⟨(wrap64 ((ji21) + 1)), ((⟨#[]⟩ : ByteArray)), ((⟨#[]⟩ : ByteArray)), (0), (by first | rfl | (simp; done) | (simp only [← hji21] <;> (first | rfl | simp)) | (simp [*]; done)), H', ⟨Nat.le_refl _⟩, ⟨twb BK195.out⟩, ⟨by repeat (first | (with_reducible first | exact HB.out | apply below_alloc | apply pw_below_drewN | apply below_drew1 | refine below_set ?_ GE195.out) | exact HB.out)⟩⟩
             case round =>
              clear H'
              try clear c1
              try clear c2
              try clear p2
              try clear c3
              try clear c3b0
              try clear c3b1
              try clear c4
              try clear c4b0
              try clear c4b1
              try clear p6
              try clear c10
              try clear c10b0
              try clear c10b1
              try clear c12
              try clear c17
              try clear c19
              try clear c22
              try clear c22b0
              try clear c22b1
              try clear c23
              try clear c23b0
              try clear c23b1
              try clear c24
              try clear c24b0
              try clear c24b1
              try clear c26
              try clear c26b0
              try clear hcz13_0
              try clear hcz13_1
              try clear hcz13_2
              try clear hcz20_0
              try clear hcz20_1
              try clear hcz20_2
              try clear hcz27_0
              try clear hcz27_1
              try clear hcz27_2
              try clear hfz13_0
              try clear hfz13_1
              try clear hfz13_2
              try clear hfz20_0
              try clear hfz20_1
              try clear hfz20_2
              try clear hfz27_0
              try clear hfz27_1
              try clear hfz27_2
              try clear p2
              try clear p6
              obtain ⟨x9_3, x196000_3, x196001_3, x196002_3, rfl, HA, HK3, BK195, HB⟩ := hrel
              cases gk with
              | zero => exact absurd HA.out (by simp [r4_attribute.l0])
              | succ k3 =>
               have H := HA.out
               clear HA
               simp only [r4_attribute.l0] at H
               by_cases c28 : x9_3 < t202
               ·rw [if_pos c28] at H
                have c28b0 : decide (x9_3 < t202) = true := decide_eq_true c28
                clear c28
                by_cases c29 : 0 ≤ x9_3
                ·rw [if_pos c29] at H
                 have c29b0 : decide (0 ≤ x9_3) = true := decide_eq_true c29
                 clear c29
                 by_cases c30 : x9_3 < (a0.size : Int)
                 ·rw [if_pos c30] at H
                  have c30b0 : decide (x9_3 < (a0.size : Int)) = true := decide_eq_true c30
                  clear c30
                  by_cases c32 : (bt a0 x9_3) = 60
                  ·rw [if_pos c32] at H
                   have c32b0 : ((bt a0 x9_3) == 60) = true := beq_iff_eq.mpr c32
                   have c32b1 : ((bt a0 x9_3) != 60) = false := bne_eq_false_iff_eq.mpr c32
                   clear c32
                   simp only [Option.some.injEq, Prod.mk.injEq] at H
                   obtain ⟨rfl, rfl, rfl, rfl⟩ := H
                   have p31 : 0 ≤ (x9_3 : Int) := of_decide_eq_true (by assumption)
                   have q31 : x9_3 < (a0.size : Int) := of_decide_eq_true (by assumption)
                   have hx31 := bt_at a0 x9_3
                   replace p31 := eq_true p31
                   replace q31 := eq_true q31
                   have hcz33_0 : wr.cell? ⟨gb195, 0, none⟩ = some (.string x196000_3) := (blk_cell BK195.out 0).trans rfl
                   have hcz33_1 : wr.cell? ⟨gb195, 1, none⟩ = some (.string x196001_3) := (blk_cell BK195.out 1).trans rfl
                   have hcz33_2 : wr.cell? ⟨gb195, 2, none⟩ = some (.int .i64 x196002_3) := (blk_cell BK195.out 2).trans rfl
                   have hfz33_0 := blk_frozen BK195.out 0
                   have hfz33_1 := blk_frozen BK195.out 1
                   have hfz33_2 := blk_frozen BK195.out 2
                   go_wp2
                   refine bodyPost_ret (results_ct rfl _ _ gb195 66 #[.string (⟨#[]⟩ : ByteArray), .string (⟨#[]⟩ : ByteArray), .int .i64 0] (0, 0) _ rfl (by (with_reducible repeat (first | refine blk_drewN ?_ _ | refine blk_drew ?_ | refine blk_alloc ?_ _)); refine blk_put (cs := #[.string (⟨#[]⟩ : ByteArray), .string (⟨#[]⟩ : ByteArray), .int .i64 x196002_3]) ?_ 2 _ rfl; (with_reducible repeat (first | refine blk_drewN ?_ _ | refine blk_drew ?_ | refine blk_alloc ?_ _)); refine blk_put (cs := #[.string (⟨#[]⟩ : ByteArray), .string x196001_3, .int .i64 x196002_3]) ?_ 1 _ rfl; (with_reducible repeat (first | refine blk_drewN ?_ _ | refine blk_drew ?_ | refine blk_alloc ?_ _)); refine blk_put (cs := #[.string x196000_3, .string x196001_3, .int .i64 x196002_3]) ?_ 0 _ rfl; (with_reducible repeat (first | refine blk_drewN ?_ _ | refine blk_drew ?_ | refine blk_alloc ?_ _)); exact BK195.out) Tryz.underlying66 rfl (by kernel_rfl)) rfl ?_
                   exact ⟨by first | rfl | (simp [errW_none, errW_some] <;> rfl) | (simp only [← hji21]; first | rfl | (simp [errW_none, errW_some] <;> rfl)) | (simp [*, errW_none, errW_some] <;> rfl), by repeat (first | (with_reducible first | exact HB.out | apply below_alloc | apply pw_below_drewN | apply below_drew1 | refine below_set ?_ GE195.out) | exact HB.out)⟩
                  ·rw [if_neg c32] at H
                   have c32b0 : ((bt a0 x9_3) == 60) = false := beq_eq_false_iff_ne.mpr c32
                   have c32b1 : ((bt a0 x9_3) != 60) = true := bne_iff_ne.mpr c32
                   have H' := Az.mk H
                   clear H
                   have p31 : 0 ≤ (x9_3 : Int) := of_decide_eq_true (by assumption)
                   have q31 : x9_3 < (a0.size : Int) := of_decide_eq_true (by assumption)
                   have hx31 := bt_at a0 x9_3
                   replace p31 := eq_true p31
                   replace q31 := eq_true q31
                   go_wp2
                   go_roundg k3
                   case measure => have := HJ6.out; have := HJ14.out; have := HK3.out; omega
                   case rel => exact ⟨(wrap64 (x9_3 + 1)), (x196000_3), (x196001_3), (x196002_3), (by first | rfl | (simp; done) | (simp [*]; done)), H', ⟨by have := HJ6.out; have := HJ14.out; have := HK3.out; omega⟩, ⟨twb BK195.out⟩, ⟨by repeat (first | (with_reducible first | exact HB.out | apply below_alloc | apply pw_below_drewN | apply below_drew1 | refine below_set ?_ GE195.out) | exact HB.out)⟩⟩
                 ·rw [if_neg c30] at H
                  exact absurd H (by simp)
                ·rw [if_neg c29] at H
                 exact absurd H (by simp)
               ·rw [if_neg c28] at H
                have c28b0 : decide (x9_3 < t202) = false := decide_eq_false c28
                clear c28
                by_cases c34 : 0 ≤ a1
                ·rw [if_pos c34] at H
                 have c34b0 := eq_true c34
                 have c34b1 : decide (0 ≤ a1) = true := decide_eq_true c34
                 clear c34
                 by_cases c35 : a1 ≤ (wrap64 (a1 + t196))
                 ·rw [if_pos c35] at H
                  have c35b0 := eq_true c35
                  have c35b1 : decide (a1 ≤ (wrap64 (a1 + t196))) = true := decide_eq_true c35
                  by_cases c36 : (wrap64 (a1 + t196)) ≤ (a0.size : Int)
                  ·rw [if_pos c36] at H
                   have c36b0 := eq_true c36
                   have c36b1 : decide ((wrap64 (a1 + t196)) ≤ (a0.size : Int)) = true := decide_eq_true c36
                   obtain ⟨ji37, hji37⟩ : ∃ j_ : Int, (wrap64 ((ji21) + 1)) = j_ := ⟨_, rfl⟩
                   replace H : (if 0 ≤ (ji37) then (if (ji37) ≤ t202 then (if t202 ≤ (a0.size : Int) then (some (a0.extract (a1 : Int).toNat ((wrap64 (a1 + t196)) : Int).toNat, a0.extract ((ji37) : Int).toNat (t202 : Int).toNat, ji37, wrap64 ((wrap64 (t202 + 1)) - a1))) else (none)) else (none)) else (none)) = some (r1, r2, r3, r4) := by first | (rw [hji37] at H; exact H) | (simp only [hji37] at H ⊢; exact H)
                   (try rw [hji37] at c23b0)
                   (try rw [hji37] at c23b1)
                   (try rw [hji37] at c23)
                   (try rw [hji37] at c24b0)
                   (try rw [hji37] at c24b1)
                   (try rw [hji37] at c24)
                   have hji37w : (IntKind.i64.wrap ((ji21) + 1)) = ji37 := (i64_w _).trans hji37
                   by_cases c38 : 0 ≤ (ji37)
                   ·rw [if_pos c38] at H
                    have c38b0 := eq_true c38
                    have c38b1 : decide (0 ≤ (ji37)) = true := decide_eq_true c38
                    clear c38
                    by_cases c39 : (ji37) ≤ t202
                    ·rw [if_pos c39] at H
                     have c39b0 := eq_true c39
                     have c39b1 : decide ((ji37) ≤ t202) = true := decide_eq_true c39
                     clear c39
                     by_cases c40 : t202 ≤ (a0.size : Int)
                     ·rw [if_pos c40] at H
                      have c40b0 := eq_true c40
                      have c40b1 : decide (t202 ≤ (a0.size : Int)) = true := decide_eq_true c40
                      clear c40
                      simp only [Option.some.injEq, Prod.mk.injEq] at H
                      obtain ⟨rfl, rfl, rfl, rfl⟩ := H
                      try go_wp2
                      have n0_ := Az.mk (blk_drew BK195.out)
                      have n1_ := Az.mk (below_drew1 HB.out)
                      clear BK195
                      clear HB
                      have BK195 := n0_
                      have HB := n1_
                      clear n0_ n1_
                      refine start_ (n := 20) (S := fun w' => True) (ds := []) #[false, false, false, false, false, false, false, false, false, false, false, false, false, false, false, false, false, false, false, false] (by kernel_rfl) rfl rfl trivial (fun hHeld => ?_); refine with_tabW r4_attribute.tab18 r4_attribute.bits18 (fun HT_ HW_ => ?_)
                      generalize wr.drew = w41 at BK195 HB hHeld ⊢
                      refine pure_ (i := 0) (N := some 73) (v := ?_) (a' := ?_) #[true, false, false, false, false, false, false, false, false, false, false, false, false, false, false, false, false, false, false, false] rfl rfl (any_of HT_.out (by kernel_rfl)) (fun _ _ _ h => h) (Or.inl ⟨by rfl, ?_⟩) ?_ ?_
                      rotate_left
                      ·intro w'
                       go_simp
                       with_reducible rfl
                      rotate_left
                      ·simp only [Act.put, List.setIfInBounds_toArray, List.set_cons_zero, List.set_cons_succ, i64_w, i32_w]
                       rfl
                      refine pure_ (i := 1) (N := some 74) (v := ?_) (a' := ?_) #[true, true, false, false, false, false, false, false, false, false, false, false, false, false, false, false, false, false, false, false] rfl rfl (any_of HT_.out (by kernel_rfl)) (fun _ _ _ h => h) (Or.inl ⟨by rfl, ?_⟩) ?_ ?_
                      rotate_left
                      ·intro w'
                       go_simp
                       with_reducible rfl
                      rotate_left
                      ·simp only [Act.put, List.setIfInBounds_toArray, List.set_cons_zero, List.set_cons_succ, i64_w, i32_w]
                       rfl
                      refine pure_ (i := 2) (N := some 75) (v := ?_) (a' := ?_) #[true, true, true, false, false, false, false, false, false, false, false, false, false, false, false, false, false, false, false, false] rfl rfl (any_of HT_.out (by kernel_rfl)) (fun _ _ _ h => h) (Or.inl ⟨by rfl, ?_⟩) ?_ ?_
                      rotate_left
                      ·intro w'
                       go_simp
                       with_reducible rfl
                      rotate_left
                      ·simp only [Act.put, List.setIfInBounds_toArray, List.set_cons_zero, List.set_cons_succ, i64_w, i32_w]
                       rfl
                      refine pure_ (i := 3) (N := some 76) (v := ?_) (a' := ?_) #[true, true, true, true, false, false, false, false, false, false, false, false, false, false, false, false, false, false, false, false] rfl rfl (any_of HT_.out (by kernel_rfl)) (fun _ _ _ h => h) (Or.inl ⟨by rfl, ?_⟩) ?_ ?_
                      rotate_left
                      ·intro w'
                       go_simp
                       with_reducible rfl
                      rotate_left
                      ·simp only [Act.put, List.setIfInBounds_toArray, List.set_cons_zero, List.set_cons_succ, i64_w, i32_w]
                       rfl
                      refine pure_ (i := 4) (N := some 77) (v := ?_) (a' := ?_) #[true, true, true, true, true, false, false, false, false, false, false, false, false, false, false, false, false, false, false, false] rfl rfl (any_of HT_.out (by kernel_rfl)) (fun _ _ _ h => h) (Or.inl ⟨by rfl, ?_⟩) ?_ ?_
                      rotate_left
                      ·intro w'
                       go_simp
                       with_reducible rfl
                      rotate_left
                      ·simp only [Act.put, List.setIfInBounds_toArray, List.set_cons_zero, List.set_cons_succ, i64_w, i32_w]
                       rfl
                      refine pure_ (i := 5) (N := some 78) (v := ?_) (a' := ?_) #[true, true, true, true, true, true, false, false, false, false, false, false, false, false, false, false, false, false, false, false] rfl rfl (any_of HT_.out (by kernel_rfl)) (fun _ _ _ h => h) (Or.inl ⟨by rfl, ?_⟩) ?_ ?_
                      rotate_left
                      ·intro w'
                       go_simp
                       with_reducible rfl
                      rotate_left
                      ·simp only [Act.put, List.setIfInBounds_toArray, List.set_cons_zero, List.set_cons_succ, i64_w, i32_w]
                       rfl
                      refine pure_ (i := 6) (N := some 79) (v := ?_) (a' := ?_) #[true, true, true, true, true, true, true, false, false, false, false, false, false, false, false, false, false, false, false, false] rfl rfl (any_of HT_.out (by kernel_rfl)) (fun _ _ _ h => h) (Or.inl ⟨by rfl, ?_⟩) ?_ ?_
                      rotate_left
                      ·intro w'
                       go_simp
                       with_reducible rfl
                      rotate_left
                      ·simp only [Act.put, List.setIfInBounds_toArray, List.set_cons_zero, List.set_cons_succ, i64_w, i32_w]
                       rfl
                      refine pure_ (i := 7) (N := some 80) (v := ?_) (a' := ?_) #[true, true, true, true, true, true, true, true, false, false, false, false, false, false, false, false, false, false, false, false] rfl rfl (any_of HT_.out (by kernel_rfl)) (fun _ _ _ h => h) (Or.inl ⟨by rfl, ?_⟩) ?_ ?_
                      rotate_left
                      ·intro w'
                       go_simp
                       with_reducible rfl
                      rotate_left
                      ·simp only [Act.put, List.setIfInBounds_toArray, List.set_cons_zero, List.set_cons_succ, i64_w, i32_w]
                       rfl
                      refine pure_ (i := 8) (N := some 81) (v := ?_) (a' := ?_) #[true, true, true, true, true, true, true, true, true, false, false, false, false, false, false, false, false, false, false, false] rfl rfl (any_of HT_.out (by kernel_rfl)) (fun _ _ _ h => h) (Or.inl ⟨by rfl, ?_⟩) ?_ ?_
                      rotate_left
                      ·intro w'
                       go_simp
                       with_reducible rfl
                      rotate_left
                      ·simp only [Act.put, List.setIfInBounds_toArray, List.set_cons_zero, List.set_cons_succ, i64_w, i32_w]
                       rfl
                      refine pure_ (i := 9) (N := some 82) (v := ?_) (a' := ?_) #[true, true, true, true, true, true, true, true, true, true, false, false, false, false, false, false, false, false, false, false] rfl rfl (any_of HT_.out (by kernel_rfl)) (fun _ _ _ h => h) (Or.inl ⟨by rfl, ?_⟩) ?_ ?_
                      rotate_left
                      ·intro w'
                       go_simp
                       with_reducible rfl
                      rotate_left
                      ·simp only [Act.put, List.setIfInBounds_toArray, List.set_cons_zero, List.set_cons_succ, i64_w, i32_w]
                       rfl
                      refine pure_ (i := 10) (N := some 83) (v := ?_) (a' := ?_) #[true, true, true, true, true, true, true, true, true, true, true, false, false, false, false, false, false, false, false, false] rfl rfl (any_of HT_.out (by kernel_rfl)) (fun _ _ _ h => h) (Or.inl ⟨by rfl, ?_⟩) ?_ ?_
                      rotate_left
                      ·intro w'
                       go_simp
                       with_reducible rfl
                      rotate_left
                      ·simp only [Act.put, List.setIfInBounds_toArray, List.set_cons_zero, List.set_cons_succ, i64_w, i32_w]
                       rfl
                      refine pure_ (i := 11) (N := some 84) (v := ?_) (a' := ?_) #[true, true, true, true, true, true, true, true, true, true, true, true, false, false, false, false, false, false, false, false] rfl rfl (any_of HT_.out (by kernel_rfl)) (fun _ _ _ h => h) (Or.inl ⟨by rfl, ?_⟩) ?_ ?_
                      rotate_left
                      ·intro w'
                       go_simp
                       with_reducible rfl
                      rotate_left
                      ·simp only [Act.put, List.setIfInBounds_toArray, List.set_cons_zero, List.set_cons_succ, i64_w, i32_w]
                       rfl
                      refine pure_ (i := 12) (N := some 85) (v := ?_) (a' := ?_) #[true, true, true, true, true, true, true, true, true, true, true, true, true, false, false, false, false, false, false, false] rfl rfl (any_of HT_.out (by kernel_rfl)) (fun _ _ _ h => h) (Or.inl ⟨by rfl, ?_⟩) ?_ ?_
                      rotate_left
                      ·intro w'
                       go_simp
                       with_reducible rfl
                      rotate_left
                      ·simp only [Act.put, List.setIfInBounds_toArray, List.set_cons_zero, List.set_cons_succ, i64_w, i32_w]
                       rfl
                      refine pure_ (i := 13) (N := some 86) (v := ?_) (a' := ?_) #[true, true, true, true, true, true, true, true, true, true, true, true, true, true, false, false, false, false, false, false] rfl rfl (any_of HT_.out (by kernel_rfl)) (fun _ _ _ h => h) (Or.inl ⟨by rfl, ?_⟩) ?_ ?_
                      rotate_left
                      ·intro w'
                       go_simp
                       with_reducible rfl
                      rotate_left
                      ·simp only [Act.put, List.setIfInBounds_toArray, List.set_cons_zero, List.set_cons_succ, i64_w, i32_w]
                       rfl
                      refine pure_ (i := 14) (N := some 87) (v := ?_) (a' := ?_) #[true, true, true, true, true, true, true, true, true, true, true, true, true, true, true, false, false, false, false, false] rfl rfl (any_of HT_.out (by kernel_rfl)) (fun _ _ _ h => h) (Or.inl ⟨by rfl, ?_⟩) ?_ ?_
                      rotate_left
                      ·intro w'
                       go_simp
                       with_reducible rfl
                      rotate_left
                      ·simp only [Act.put, List.setIfInBounds_toArray, List.set_cons_zero, List.set_cons_succ, i64_w, i32_w]
                       rfl
                      refine pure_ (i := 15) (N := some 88) (v := ?_) (a' := ?_) #[true, true, true, true, true, true, true, true, true, true, true, true, true, true, true, true, false, false, false, false] rfl rfl (any_of HT_.out (by kernel_rfl)) (fun _ _ _ h => h) (Or.inl ⟨by rfl, ?_⟩) ?_ ?_
                      rotate_left
                      ·intro w'
                       go_simp
                       with_reducible rfl
                      rotate_left
                      ·simp only [Act.put, List.setIfInBounds_toArray, List.set_cons_zero, List.set_cons_succ, i64_w, i32_w]
                       rfl
                      refine pure_ (i := 16) (N := some 89) (v := ?_) (a' := ?_) #[true, true, true, true, true, true, true, true, true, true, true, true, true, true, true, true, true, false, false, false] rfl rfl (any_of HT_.out (by kernel_rfl)) (fun _ _ _ h => h) (Or.inl ⟨by rfl, ?_⟩) ?_ ?_
                      rotate_left
                      ·intro w'
                       go_simp
                       with_reducible rfl
                      rotate_left
                      ·simp only [Act.put, List.setIfInBounds_toArray, List.set_cons_zero, List.set_cons_succ, i64_w, i32_w]
                       rfl
                      refine pure_ (i := 17) (N := some 90) (v := ?_) (a' := ?_) #[true, true, true, true, true, true, true, true, true, true, true, true, true, true, true, true, true, true, false, false] rfl rfl (any_of HT_.out (by kernel_rfl)) (fun _ _ _ h => h) (Or.inl ⟨by rfl, ?_⟩) ?_ ?_
                      rotate_left
                      ·intro w'
                       go_simp
                       with_reducible rfl
                      rotate_left
                      ·simp only [Act.put, List.setIfInBounds_toArray, List.set_cons_zero, List.set_cons_succ, i64_w, i32_w]
                       rfl
                      refine one_ (i := 18) (N := none) #[true, true, true, true, true, true, true, true, true, true, true, true, true, true, true, true, true, true, true, false] rfl rfl (one_of HT_.out (by kernel_rfl)) (by decide) (fun K hK => ?_)
                      have hs42 : w41.cell? ⟨gb195, 0, none⟩ = some (.string x196000_3) := (blk_cell BK195.out 0).trans rfl
                      have hfs42 := blk_frozen BK195.out 0
                      have hs43 : w41.cell? ⟨gb195, 1, none⟩ = some (.string x196001_3) := (blk_cell BK195.out 1).trans rfl
                      have hfs43 := blk_frozen BK195.out 1
                      have hs44 : w41.cell? ⟨gb195, 2, none⟩ = some (.int .i64 x196002_3) := (blk_cell BK195.out 2).trans rfl
                      have hfs44 := blk_frozen BK195.out 2
                      refine skip_ (w1 := ?_) (by rfl) rfl ?_ ?_
                      rotate_left
                      ·go_simp
                       rfl
                      refine hK.out _ _ trivial (fun hHeld => ?_)
                      clear hK K
                      refine pure_ (i := 19) (N := some 5) (v := ?_) (a' := ?_) #[true, true, true, true, true, true, true, true, true, true, true, true, true, true, true, true, true, true, true, true] rfl rfl (any_of HT_.out (by kernel_rfl)) (fun _ _ _ h => h) (Or.inl ⟨by rfl, ?_⟩) ?_ ?_
                      rotate_left
                      ·intro w'
                       go_simp
                       with_reducible rfl
                      rotate_left
                      ·simp only [Act.put, List.setIfInBounds_toArray, List.set_cons_zero, List.set_cons_succ, i64_w, i32_w]
                       rfl
                      refine done_ (done_of HT_.out (by kernel_rfl)) ?_
                      try go_wp2
                      refine bodyPost_ret (results_ct rfl _ _ gb195 66 #[.string (a0.extract (a1 : Int).toNat ((wrap64 (a1 + t196)) : Int).toNat), .string (a0.extract ((ji37) : Int).toNat (t202 : Int).toNat), .int .i64 ji37] (0, 0) _ rfl (by (with_reducible repeat (first | refine blk_drewN ?_ _ | refine blk_drew ?_ | refine blk_alloc ?_ _)); refine blk_put (cs := #[.string (a0.extract (a1 : Int).toNat ((wrap64 (a1 + t196)) : Int).toNat), .string (a0.extract ((ji37) : Int).toNat (t202 : Int).toNat), .int .i64 x196002_3]) ?_ 2 _ rfl; (with_reducible repeat (first | refine blk_drewN ?_ _ | refine blk_drew ?_ | refine blk_alloc ?_ _)); refine blk_put (cs := #[.string (a0.extract (a1 : Int).toNat ((wrap64 (a1 + t196)) : Int).toNat), .string x196001_3, .int .i64 x196002_3]) ?_ 1 _ rfl; (with_reducible repeat (first | refine blk_drewN ?_ _ | refine blk_drew ?_ | refine blk_alloc ?_ _)); refine blk_put (cs := #[.string x196000_3, .string x196001_3, .int .i64 x196002_3]) ?_ 0 _ rfl; (with_reducible repeat (first | refine blk_drewN ?_ _ | refine blk_drew ?_ | refine blk_alloc ?_ _)); exact BK195.out) Tryz.underlying66 rfl (by kernel_rfl)) rfl ?_
                      exact ⟨by first | rfl | (simp [errW_none, errW_some] <;> rfl) | (simp only [← hji21, ← hji37]; first | rfl | (simp [errW_none, errW_some] <;> rfl)) | (simp [*, errW_none, errW_some] <;> rfl), by repeat (first | (with_reducible first | exact HB.out | apply below_alloc | apply pw_below_drewN | apply below_drew1 | refine below_set ?_ GE195.out) | exact HB.out)⟩
                     ·rw [if_neg c40] at H
                      exact absurd H (by simp)
                    ·rw [if_neg c39] at H
                     exact absurd H (by simp)
                   ·rw [if_neg c38] at H
                    exact absurd H (by simp)
                  ·rw [if_neg c36] at H
                   exact absurd H (by simp)
                 ·rw [if_neg c35] at H
                  exact absurd H (by simp)
                ·rw [if_neg c34] at H
                 exact absurd H (by simp)
           ·rw [if_neg c24] at H
            exact absurd H (by simp)
          ·rw [if_neg c23] at H
           exact absurd H (by simp)
         ·rw [if_neg c22] at H
          exact absurd H (by simp)
  ·rw [if_neg c4] at H
   exact absurd H (by simp)
 ·rw [if_neg c3] at H
  exact absurd H (by simp)
end Go.Proofs.YtpknhgejnfmijaaGreatDoor.PC
