/- A text of the claim, with what no other text of it needs taken out. -/
import Derived.Test.YtpknhgejnfmijaaGreatDoorPC0
import Derived.Test.YtpknhgejnfmijaaGreatDoorPC7
namespace Go.Proofs.YtpknhgejnfmijaaGreatDoor.PC
open Go.Proofs.YtpknhgejnfmijaaGreatDoor.K
open Go.RowKit Go.Proofs.YtpknhgejnfmijaaGreatDoorW.PrintWords Go.Proofs.YtpknhgejnfmijaaGreatDoorW.PrintLast Go.Proofs.YtpknhgejnfmijaaGreatDoorW.PrintMore
attribute [local go_sem] max2_int min2_int max_two min_two max_three min_three max_four min_four
set_option linter.unusedVariables false
set_option linter.unusedSimpArgs false
mutual
def w4_is.j0 : Nat → Bool → Int → ByteArray → List (S38) → ByteArray → Int → Int → ByteArray → List (S66) → ByteArray → Int → Option (Bool)
 | 0, _, _, _, _, _, _, _, _, _, _, _ => none
 | k + 1, x40, x267000, x267001, x267002, x267003, x267004, x268000, x268001, x268002, x268003, x268004 => if x40 = true then (some false) else (w4_is.l0 k 0 x267000 x267001 x267002 x267003 x267004 x268000 x268001 x268002 x268003 x268004)
def w4_is.l0 : Nat → Int → Int → ByteArray → List (S38) → ByteArray → Int → Int → ByteArray → List (S66) → ByteArray → Int → Option (Bool)
 | 0, _, _, _, _, _, _, _, _, _, _, _ => none
 | k + 1, x5, x267000, x267001, x267002, x267003, x267004, x268000, x268001, x268002, x268003, x268004 => if x5 < (x267002.length : Int) then (if 0 ≤ x5 then (if x5 < (x268002.length : Int) then (if ((rd_T38 x267002 x5).f0).toList = ((rd_T66 x268002 x5).f0).toList then (if ((rd_T38 x267002 x5).f1).toList = ((rd_T66 x268002 x5).f1).toList then (w4_is.l0 k (wrap64 (x5 + 1)) x267000 x267001 x267002 x267003 x267004 x268000 x268001 x268002 x268003 x268004) else (some false)) else (some false)) else (none)) else (none)) else (some true)
end
def w4_is.f (k : Nat) (a0_0 : Int) (a0_1 : ByteArray) (l0_2 : List (S38)) (a0_3 : ByteArray) (a0_4 : Int) (a1_0 : Int) (a1_1 : ByteArray) (l1_2 : List (S66)) (a1_3 : ByteArray) (a1_4 : Int) : Option (Bool) := if a0_0 = a1_0 then (if a0_1.toList = a1_1.toList then (if a0_3.toList = a1_3.toList then (if a0_4 = a1_4 then (w4_is.j0 k ((l0_2.length : Int) != (l1_2.length : Int)) a0_0 a0_1 l0_2 a0_3 a0_4 a1_0 a1_1 l1_2 a1_3 a1_4) else (w4_is.j0 k true a0_0 a0_1 l0_2 a0_3 a0_4 a1_0 a1_1 l1_2 a1_3 a1_4)) else (w4_is.j0 k true a0_0 a0_1 l0_2 a0_3 a0_4 a1_0 a1_1 l1_2 a1_3 a1_4)) else (w4_is.j0 k true a0_0 a0_1 l0_2 a0_3 a0_4 a1_0 a1_1 l1_2 a1_3 a1_4)) else (w4_is.j0 k true a0_0 a0_1 l0_2 a0_3 a0_4 a1_0 a1_1 l1_2 a1_3 a1_4)
set_option maxHeartbeats 8000000 in
set_option maxRecDepth 100000 in
theorem w4_is.calls (k : Nat) (a0_0 : Int) (a0_1 : ByteArray) (A0_2 : Option Addr) (c0_2 : Nat) (l0_2 : List (S38)) (a0_3 : ByteArray) (a0_4 : Int) (a1_0 : Int) (a1_1 : ByteArray) (A1_2 : Option Addr) (c1_2 : Nat) (l1_2 : List (S66)) (a1_3 : ByteArray) (a1_4 : Int) (r : Bool) (w : World) (hr0_2 : Kd.C k38 w A0_2 l0_2.length l0_2) (hc0_2 : l0_2.length ≤ c0_2) (hr1_2 : Kd.C k66 w A1_2 l1_2.length l1_2) (hc1_2 : l1_2.length ≤ c1_2) (h : w4_is.f k a0_0 a0_1 l0_2 a0_3 a0_4 a1_0 a1_1 l1_2 a1_3 a1_4 = some r) :
  Calls Tryz.prog 10 #[.agg #[.int .u8 a0_0, .string a0_1, .slice A0_2 l0_2.length c0_2, .string a0_3, .int .i64 a0_4], .agg #[.int .u8 a1_0, .string a1_1, .slice A1_2 l1_2.length c1_2, .string a1_3, .int .i64 a1_4]] w fun e w' => e = .returned (.bool r) ∧ Below w.heap.size w w' := by
 have hu33 := Tryz.underlying33
 have hu36 := Tryz.underlying36
 have HR0_2 := Az.mk hr0_2
 have HC0_2 := Az.mk hc0_2
 clear hr0_2 hc0_2
 have HR1_2 := Az.mk hr1_2
 have HC1_2 := Az.mk hc1_2
 clear hr1_2 hc1_2
 have HB := Az.mk (Below.refl w.heap.size w)
 have H := h
 unfold w4_is.f at H
 clear h
 have HC3 := Az.mk H
 clear H
 go_enter Tryz.func10, Tryz.ntmps10
 go_upto_region 1 with (first | ((with_reducible refine gate_dst (N := 2) rfl ?_); (try (refine gate_guard (by rfl) ?_; dsimp only)); refine box_event ?hg (N := 2) ?hd (cs := #[.int .u8 a0_0, .string a0_1, .slice A0_2 l0_2.length c0_2, .string a0_3, .int .i64 a0_4]) (t := 33) ?hr ?_; (case hd => rfl); (case hg => rfl); (case hr => first | (go_simp; done) | (go_simp; rfl)); intro gb266 hg w4 hbox hb; have n0_ := Az.mk (below_step (tw HB.out) hb); have n1_ := Az.mk (hbox); have n2_ := Az.mk ((by rw [hg]; exact (below_size (tw HB.out)) : w.heap.size ≤ gb266)); have n3_ := Az.mk ((by rw [hg]; exact (below_size (tw HB.out)) : w.heap.size ≤ gb266)); clear HB; have HB := n0_; have BK266 := n1_; have GW266 := n2_; have GE266 := n3_; clear n0_ n1_ n2_ n3_; clear hb hbox hg) | ((with_reducible refine gate_dst (N := 3) rfl ?_); (try (refine gate_guard (by rfl) ?_; dsimp only)); refine box_event ?hg (N := 3) ?hd (cs := #[.int .u8 a1_0, .string a1_1, .slice A1_2 l1_2.length c1_2, .string a1_3, .int .i64 a1_4]) (t := 36) ?hr ?_; (case hd => rfl); (case hg => rfl); (case hr => first | (go_simp; done) | (go_simp; rfl)); intro gb267 hg w5 hbox hb; have n0_ := Az.mk (blk_below (g := gb266) (o := .cells #[.int .u8 a0_0, .string a0_1, .slice A0_2 l0_2.length c0_2, .string a0_3, .int .i64 a0_4] 33 (0, 0)) (twb BK266.out) hb); have n1_ := Az.mk (below_step (by repeat (first | (with_reducible first | exact HB.out | apply below_alloc | apply pw_below_drewN | apply below_drew1 | refine below_set ?_ GE266.out) | exact HB.out)) hb); have n2_ := Az.mk (hbox); have n3_ := Az.mk ((by rw [hg]; exact (below_size (by repeat (first | (with_reducible first | exact HB.out | apply below_alloc | apply pw_below_drewN | apply below_drew1 | refine below_set ?_ GE266.out) | exact HB.out))) : w.heap.size ≤ gb267)); have n4_ := Az.mk ((by rw [hg]; exact (below_size (by repeat (first | (with_reducible first | exact HB.out | apply below_alloc | apply pw_below_drewN | apply below_drew1 | refine below_set ?_ GE266.out) | exact HB.out))) : w.heap.size ≤ gb267)); have n5_ := Az.mk ((by rw [hg]; exact Nat.ne_of_lt (blk_lt (g := gb266) (o := .cells #[.int .u8 a0_0, .string a0_1, .slice A0_2 l0_2.length c0_2, .string a0_3, .int .i64 a0_4] 33 (0, 0)) (twb BK266.out)) : gb266 ≠ gb267)); have n6_ := Az.mk ((by rw [hg]; exact Nat.ne_of_gt (blk_lt (g := gb266) (o := .cells #[.int .u8 a0_0, .string a0_1, .slice A0_2 l0_2.length c0_2, .string a0_3, .int .i64 a0_4] 33 (0, 0)) (twb BK266.out)) : gb267 ≠ gb266)); clear BK266; clear HB; have BK266 := n0_; have HB := n1_; have BK267 := n2_; have GW267 := n3_; have GE267 := n4_; have NB266_267 := n5_; have NB267_266 := n6_; clear n0_ n1_ n2_ n3_ n4_ n5_ n6_; clear hb hbox hg))
 repeat (go_quiet (first | ((with_reducible refine gate_dst (N := 2) rfl ?_); (try (refine gate_guard (by rfl) ?_; dsimp only)); refine box_event ?hg (N := 2) ?hd (cs := #[.int .u8 a0_0, .string a0_1, .slice A0_2 l0_2.length c0_2, .string a0_3, .int .i64 a0_4]) (t := 33) ?hr ?_; (case hd => rfl); (case hg => rfl); (case hr => first | (go_simp; done) | (go_simp; rfl)); intro gb266 hg w4 hbox hb; have n0_ := Az.mk (below_step (tw HB.out) hb); have n1_ := Az.mk (hbox); have n2_ := Az.mk ((by rw [hg]; exact (below_size (tw HB.out)) : w.heap.size ≤ gb266)); have n3_ := Az.mk ((by rw [hg]; exact (below_size (tw HB.out)) : w.heap.size ≤ gb266)); clear HB; have HB := n0_; have BK266 := n1_; have GW266 := n2_; have GE266 := n3_; clear n0_ n1_ n2_ n3_; clear hb hbox hg) | ((with_reducible refine gate_dst (N := 3) rfl ?_); (try (refine gate_guard (by rfl) ?_; dsimp only)); refine box_event ?hg (N := 3) ?hd (cs := #[.int .u8 a1_0, .string a1_1, .slice A1_2 l1_2.length c1_2, .string a1_3, .int .i64 a1_4]) (t := 36) ?hr ?_; (case hd => rfl); (case hg => rfl); (case hr => first | (go_simp; done) | (go_simp; rfl)); intro gb267 hg w5 hbox hb; have n0_ := Az.mk (blk_below (g := gb266) (o := .cells #[.int .u8 a0_0, .string a0_1, .slice A0_2 l0_2.length c0_2, .string a0_3, .int .i64 a0_4] 33 (0, 0)) (twb BK266.out) hb); have n1_ := Az.mk (below_step (by repeat (first | (with_reducible first | exact HB.out | apply below_alloc | apply pw_below_drewN | apply below_drew1 | refine below_set ?_ GE266.out) | exact HB.out)) hb); have n2_ := Az.mk (hbox); have n3_ := Az.mk ((by rw [hg]; exact (below_size (by repeat (first | (with_reducible first | exact HB.out | apply below_alloc | apply pw_below_drewN | apply below_drew1 | refine below_set ?_ GE266.out) | exact HB.out))) : w.heap.size ≤ gb267)); have n4_ := Az.mk ((by rw [hg]; exact (below_size (by repeat (first | (with_reducible first | exact HB.out | apply below_alloc | apply pw_below_drewN | apply below_drew1 | refine below_set ?_ GE266.out) | exact HB.out))) : w.heap.size ≤ gb267)); have n5_ := Az.mk ((by rw [hg]; exact Nat.ne_of_lt (blk_lt (g := gb266) (o := .cells #[.int .u8 a0_0, .string a0_1, .slice A0_2 l0_2.length c0_2, .string a0_3, .int .i64 a0_4] 33 (0, 0)) (twb BK266.out)) : gb266 ≠ gb267)); have n6_ := Az.mk ((by rw [hg]; exact Nat.ne_of_gt (blk_lt (g := gb266) (o := .cells #[.int .u8 a0_0, .string a0_1, .slice A0_2 l0_2.length c0_2, .string a0_3, .int .i64 a0_4] 33 (0, 0)) (twb BK266.out)) : gb267 ≠ gb266)); clear BK266; clear HB; have BK266 := n0_; have HB := n1_; have BK267 := n2_; have GW267 := n3_; have GE267 := n4_; have NB266_267 := n5_; have NB267_266 := n6_; clear n0_ n1_ n2_ n3_ n4_ n5_ n6_; clear hb hbox hg)); go_upto_region 1 with (first | ((with_reducible refine gate_dst (N := 2) rfl ?_); (try (refine gate_guard (by rfl) ?_; dsimp only)); refine box_event ?hg (N := 2) ?hd (cs := #[.int .u8 a0_0, .string a0_1, .slice A0_2 l0_2.length c0_2, .string a0_3, .int .i64 a0_4]) (t := 33) ?hr ?_; (case hd => rfl); (case hg => rfl); (case hr => first | (go_simp; done) | (go_simp; rfl)); intro gb266 hg w4 hbox hb; have n0_ := Az.mk (below_step (tw HB.out) hb); have n1_ := Az.mk (hbox); have n2_ := Az.mk ((by rw [hg]; exact (below_size (tw HB.out)) : w.heap.size ≤ gb266)); have n3_ := Az.mk ((by rw [hg]; exact (below_size (tw HB.out)) : w.heap.size ≤ gb266)); clear HB; have HB := n0_; have BK266 := n1_; have GW266 := n2_; have GE266 := n3_; clear n0_ n1_ n2_ n3_; clear hb hbox hg) | ((with_reducible refine gate_dst (N := 3) rfl ?_); (try (refine gate_guard (by rfl) ?_; dsimp only)); refine box_event ?hg (N := 3) ?hd (cs := #[.int .u8 a1_0, .string a1_1, .slice A1_2 l1_2.length c1_2, .string a1_3, .int .i64 a1_4]) (t := 36) ?hr ?_; (case hd => rfl); (case hg => rfl); (case hr => first | (go_simp; done) | (go_simp; rfl)); intro gb267 hg w5 hbox hb; have n0_ := Az.mk (blk_below (g := gb266) (o := .cells #[.int .u8 a0_0, .string a0_1, .slice A0_2 l0_2.length c0_2, .string a0_3, .int .i64 a0_4] 33 (0, 0)) (twb BK266.out) hb); have n1_ := Az.mk (below_step (by repeat (first | (with_reducible first | exact HB.out | apply below_alloc | apply pw_below_drewN | apply below_drew1 | refine below_set ?_ GE266.out) | exact HB.out)) hb); have n2_ := Az.mk (hbox); have n3_ := Az.mk ((by rw [hg]; exact (below_size (by repeat (first | (with_reducible first | exact HB.out | apply below_alloc | apply pw_below_drewN | apply below_drew1 | refine below_set ?_ GE266.out) | exact HB.out))) : w.heap.size ≤ gb267)); have n4_ := Az.mk ((by rw [hg]; exact (below_size (by repeat (first | (with_reducible first | exact HB.out | apply below_alloc | apply pw_below_drewN | apply below_drew1 | refine below_set ?_ GE266.out) | exact HB.out))) : w.heap.size ≤ gb267)); have n5_ := Az.mk ((by rw [hg]; exact Nat.ne_of_lt (blk_lt (g := gb266) (o := .cells #[.int .u8 a0_0, .string a0_1, .slice A0_2 l0_2.length c0_2, .string a0_3, .int .i64 a0_4] 33 (0, 0)) (twb BK266.out)) : gb266 ≠ gb267)); have n6_ := Az.mk ((by rw [hg]; exact Nat.ne_of_gt (blk_lt (g := gb266) (o := .cells #[.int .u8 a0_0, .string a0_1, .slice A0_2 l0_2.length c0_2, .string a0_3, .int .i64 a0_4] 33 (0, 0)) (twb BK266.out)) : gb267 ≠ gb266)); clear BK266; clear HB; have BK266 := n0_; have HB := n1_; have BK267 := n2_; have GW267 := n3_; have GE267 := n4_; have NB266_267 := n5_; have NB267_266 := n6_; clear n0_ n1_ n2_ n3_ n4_ n5_ n6_; clear hb hbox hg)))
 (try simp only [Act.put, List.setIfInBounds_toArray, List.set_cons_zero, List.set_cons_succ])
 go_cut [40] (fun v40 wc => ∃ (kq : Nat) (x40_2 : Bool), v40 = .bool x40_2 ∧ Az (w4_is.j0 kq x40_2 a0_0 a0_1 l0_2 a0_3 a0_4 a1_0 a1_1 l1_2 a1_3 a1_4 = some r) ∧ Az (kq ≤ k) ∧ Az (wc.heap[gb266]? = some (.cells #[.int .u8 a0_0, .string a0_1, (.slice A0_2 l0_2.length c0_2), .string a0_3, .int .i64 a0_4] 33 (0, 0))) ∧ Az (wc.heap[gb267]? = some (.cells #[.int .u8 a1_0, .string a1_1, (.slice A1_2 l1_2.length c1_2), .string a1_3, .int .i64 a1_4] 36 (0, 0))) ∧ Az (Below w.heap.size w wc))
 case first =>
  have H := HC3.out
  clear HC3
  by_cases c6 : a0_0 = a1_0
  ·rw [if_pos c6] at H
   have c6b0 : (a0_0 == a1_0) = true := beq_iff_eq.mpr c6
   have c6b1 : (a0_0 != a1_0) = false := bne_eq_false_iff_eq.mpr c6
   clear c6
   (first | rw [c6b0] | (simp only [i64_w, i32_w]; rw [c6b0]) | skip)
   by_cases c7 : a0_1.toList = a1_1.toList
   ·rw [if_pos c7] at H
    have c7b0 : (a0_1.toList == a1_1.toList) = true := beq_iff_eq.mpr c7
    have c7b1 : (a0_1.toList != a1_1.toList) = false := bne_eq_false_iff_eq.mpr c7
    clear c7
    by_cases c8 : a0_3.toList = a1_3.toList
    ·rw [if_pos c8] at H
     have c8b0 : (a0_3.toList == a1_3.toList) = true := beq_iff_eq.mpr c8
     have c8b1 : (a0_3.toList != a1_3.toList) = false := bne_eq_false_iff_eq.mpr c8
     clear c8
     by_cases c9 : a0_4 = a1_4
     ·rw [if_pos c9] at H
      have c9b0 : (a0_4 == a1_4) = true := beq_iff_eq.mpr c9
      have c9b1 : (a0_4 != a1_4) = false := bne_eq_false_iff_eq.mpr c9
      clear c9
      have H' := Az.mk H
      clear H
      have hnb10 := NB266_267.out
      have hnc10 := NB267_266.out
      have hcz11_0 : w5.cell? ⟨gb266, 0, none⟩ = some (.int .u8 a0_0) := (blk_cell BK266.out 0).trans rfl
      have hcz11_1 : w5.cell? ⟨gb266, 1, none⟩ = some (.string a0_1) := (blk_cell BK266.out 1).trans rfl
      have hcz11_2 : w5.cell? ⟨gb266, 2, none⟩ = some (.slice A0_2 l0_2.length c0_2) := (blk_cell BK266.out 2).trans rfl
      have hcz11_3 : w5.cell? ⟨gb266, 3, none⟩ = some (.string a0_3) := (blk_cell BK266.out 3).trans rfl
      have hcz11_4 : w5.cell? ⟨gb266, 4, none⟩ = some (.int .i64 a0_4) := (blk_cell BK266.out 4).trans rfl
      have hfz11_0 := blk_frozen BK266.out 0
      have hfz11_1 := blk_frozen BK266.out 1
      have hfz11_2 := blk_frozen BK266.out 2
      have hfz11_3 := blk_frozen BK266.out 3
      have hfz11_4 := blk_frozen BK266.out 4
      have hcz12_0 : w5.cell? ⟨gb267, 0, none⟩ = some (.int .u8 a1_0) := (blk_cell BK267.out 0).trans rfl
      have hcz12_1 : w5.cell? ⟨gb267, 1, none⟩ = some (.string a1_1) := (blk_cell BK267.out 1).trans rfl
      have hcz12_2 : w5.cell? ⟨gb267, 2, none⟩ = some (.slice A1_2 l1_2.length c1_2) := (blk_cell BK267.out 2).trans rfl
      have hcz12_3 : w5.cell? ⟨gb267, 3, none⟩ = some (.string a1_3) := (blk_cell BK267.out 3).trans rfl
      have hcz12_4 : w5.cell? ⟨gb267, 4, none⟩ = some (.int .i64 a1_4) := (blk_cell BK267.out 4).trans rfl
      have hfz12_0 := blk_frozen BK267.out 0
      have hfz12_1 := blk_frozen BK267.out 1
      have hfz12_2 := blk_frozen BK267.out 2
      have hfz12_3 := blk_frozen BK267.out 3
      have hfz12_4 := blk_frozen BK267.out 4
      go_wp2
      repeat (go_quiet (fail); try go_wp2)
      go_meet
      case rel => exact ⟨_, (((l0_2.length : Int) != (l1_2.length : Int))), (by first | rfl | (simp; done) | (simp [*]; done)), H', ⟨by first | omega | exact Nat.le_refl _⟩, ⟨twb BK266.out⟩, ⟨twb BK267.out⟩, ⟨by repeat (first | (with_reducible first | exact HB.out | apply below_alloc | apply pw_below_drewN | apply below_drew1 | refine below_set ?_ GE266.out | refine below_set ?_ GE267.out) | exact HB.out)⟩⟩
     ·rw [if_neg c9] at H
      have c9b0 : (a0_4 == a1_4) = false := beq_eq_false_iff_ne.mpr c9
      have c9b1 : (a0_4 != a1_4) = true := bne_iff_ne.mpr c9
      have H' := Az.mk H
      clear H
      have hnb13 := NB266_267.out
      have hnc13 := NB267_266.out
      have hcz14_0 : w5.cell? ⟨gb266, 0, none⟩ = some (.int .u8 a0_0) := (blk_cell BK266.out 0).trans rfl
      have hcz14_1 : w5.cell? ⟨gb266, 1, none⟩ = some (.string a0_1) := (blk_cell BK266.out 1).trans rfl
      have hcz14_2 : w5.cell? ⟨gb266, 2, none⟩ = some (.slice A0_2 l0_2.length c0_2) := (blk_cell BK266.out 2).trans rfl
      have hcz14_3 : w5.cell? ⟨gb266, 3, none⟩ = some (.string a0_3) := (blk_cell BK266.out 3).trans rfl
      have hcz14_4 : w5.cell? ⟨gb266, 4, none⟩ = some (.int .i64 a0_4) := (blk_cell BK266.out 4).trans rfl
      have hfz14_0 := blk_frozen BK266.out 0
      have hfz14_1 := blk_frozen BK266.out 1
      have hfz14_2 := blk_frozen BK266.out 2
      have hfz14_3 := blk_frozen BK266.out 3
      have hfz14_4 := blk_frozen BK266.out 4
      have hcz15_0 : w5.cell? ⟨gb267, 0, none⟩ = some (.int .u8 a1_0) := (blk_cell BK267.out 0).trans rfl
      have hcz15_1 : w5.cell? ⟨gb267, 1, none⟩ = some (.string a1_1) := (blk_cell BK267.out 1).trans rfl
      have hcz15_2 : w5.cell? ⟨gb267, 2, none⟩ = some (.slice A1_2 l1_2.length c1_2) := (blk_cell BK267.out 2).trans rfl
      have hcz15_3 : w5.cell? ⟨gb267, 3, none⟩ = some (.string a1_3) := (blk_cell BK267.out 3).trans rfl
      have hcz15_4 : w5.cell? ⟨gb267, 4, none⟩ = some (.int .i64 a1_4) := (blk_cell BK267.out 4).trans rfl
      have hfz15_0 := blk_frozen BK267.out 0
      have hfz15_1 := blk_frozen BK267.out 1
      have hfz15_2 := blk_frozen BK267.out 2
      have hfz15_3 := blk_frozen BK267.out 3
      have hfz15_4 := blk_frozen BK267.out 4
      go_wp2
      repeat (go_quiet (fail); try go_wp2)
      go_meet
      case rel => exact ⟨_, (true), (by first | rfl | (simp; done) | (simp [*]; done)), H', ⟨by first | omega | exact Nat.le_refl _⟩, ⟨twb BK266.out⟩, ⟨twb BK267.out⟩, ⟨by repeat (first | (with_reducible first | exact HB.out | apply below_alloc | apply pw_below_drewN | apply below_drew1 | refine below_set ?_ GE266.out | refine below_set ?_ GE267.out) | exact HB.out)⟩⟩
    ·rw [if_neg c8] at H
     have c8b0 : (a0_3.toList == a1_3.toList) = false := beq_eq_false_iff_ne.mpr c8
     have c8b1 : (a0_3.toList != a1_3.toList) = true := bne_iff_ne.mpr c8
     have H' := Az.mk H
     clear H
     have hnb16 := NB266_267.out
     have hnc16 := NB267_266.out
     have hcz17_0 : w5.cell? ⟨gb266, 0, none⟩ = some (.int .u8 a0_0) := (blk_cell BK266.out 0).trans rfl
     have hcz17_1 : w5.cell? ⟨gb266, 1, none⟩ = some (.string a0_1) := (blk_cell BK266.out 1).trans rfl
     have hcz17_2 : w5.cell? ⟨gb266, 2, none⟩ = some (.slice A0_2 l0_2.length c0_2) := (blk_cell BK266.out 2).trans rfl
     have hcz17_3 : w5.cell? ⟨gb266, 3, none⟩ = some (.string a0_3) := (blk_cell BK266.out 3).trans rfl
     have hcz17_4 : w5.cell? ⟨gb266, 4, none⟩ = some (.int .i64 a0_4) := (blk_cell BK266.out 4).trans rfl
     have hfz17_0 := blk_frozen BK266.out 0
     have hfz17_1 := blk_frozen BK266.out 1
     have hfz17_2 := blk_frozen BK266.out 2
     have hfz17_3 := blk_frozen BK266.out 3
     have hfz17_4 := blk_frozen BK266.out 4
     have hcz18_0 : w5.cell? ⟨gb267, 0, none⟩ = some (.int .u8 a1_0) := (blk_cell BK267.out 0).trans rfl
     have hcz18_1 : w5.cell? ⟨gb267, 1, none⟩ = some (.string a1_1) := (blk_cell BK267.out 1).trans rfl
     have hcz18_2 : w5.cell? ⟨gb267, 2, none⟩ = some (.slice A1_2 l1_2.length c1_2) := (blk_cell BK267.out 2).trans rfl
     have hcz18_3 : w5.cell? ⟨gb267, 3, none⟩ = some (.string a1_3) := (blk_cell BK267.out 3).trans rfl
     have hcz18_4 : w5.cell? ⟨gb267, 4, none⟩ = some (.int .i64 a1_4) := (blk_cell BK267.out 4).trans rfl
     have hfz18_0 := blk_frozen BK267.out 0
     have hfz18_1 := blk_frozen BK267.out 1
     have hfz18_2 := blk_frozen BK267.out 2
     have hfz18_3 := blk_frozen BK267.out 3
     have hfz18_4 := blk_frozen BK267.out 4
     go_wp2
     repeat (go_quiet (fail); try go_wp2)
     go_meet
     case rel => exact ⟨_, (true), (by first | rfl | (simp; done) | (simp [*]; done)), H', ⟨by first | omega | exact Nat.le_refl _⟩, ⟨twb BK266.out⟩, ⟨twb BK267.out⟩, ⟨by repeat (first | (with_reducible first | exact HB.out | apply below_alloc | apply pw_below_drewN | apply below_drew1 | refine below_set ?_ GE266.out | refine below_set ?_ GE267.out) | exact HB.out)⟩⟩
   ·rw [if_neg c7] at H
    have c7b0 : (a0_1.toList == a1_1.toList) = false := beq_eq_false_iff_ne.mpr c7
    have c7b1 : (a0_1.toList != a1_1.toList) = true := bne_iff_ne.mpr c7
    have H' := Az.mk H
    clear H
    have hnb19 := NB266_267.out
    have hnc19 := NB267_266.out
    have hcz20_0 : w5.cell? ⟨gb266, 0, none⟩ = some (.int .u8 a0_0) := (blk_cell BK266.out 0).trans rfl
    have hcz20_1 : w5.cell? ⟨gb266, 1, none⟩ = some (.string a0_1) := (blk_cell BK266.out 1).trans rfl
    have hcz20_2 : w5.cell? ⟨gb266, 2, none⟩ = some (.slice A0_2 l0_2.length c0_2) := (blk_cell BK266.out 2).trans rfl
    have hcz20_3 : w5.cell? ⟨gb266, 3, none⟩ = some (.string a0_3) := (blk_cell BK266.out 3).trans rfl
    have hcz20_4 : w5.cell? ⟨gb266, 4, none⟩ = some (.int .i64 a0_4) := (blk_cell BK266.out 4).trans rfl
    have hfz20_0 := blk_frozen BK266.out 0
    have hfz20_1 := blk_frozen BK266.out 1
    have hfz20_2 := blk_frozen BK266.out 2
    have hfz20_3 := blk_frozen BK266.out 3
    have hfz20_4 := blk_frozen BK266.out 4
    have hcz21_0 : w5.cell? ⟨gb267, 0, none⟩ = some (.int .u8 a1_0) := (blk_cell BK267.out 0).trans rfl
    have hcz21_1 : w5.cell? ⟨gb267, 1, none⟩ = some (.string a1_1) := (blk_cell BK267.out 1).trans rfl
    have hcz21_2 : w5.cell? ⟨gb267, 2, none⟩ = some (.slice A1_2 l1_2.length c1_2) := (blk_cell BK267.out 2).trans rfl
    have hcz21_3 : w5.cell? ⟨gb267, 3, none⟩ = some (.string a1_3) := (blk_cell BK267.out 3).trans rfl
    have hcz21_4 : w5.cell? ⟨gb267, 4, none⟩ = some (.int .i64 a1_4) := (blk_cell BK267.out 4).trans rfl
    have hfz21_0 := blk_frozen BK267.out 0
    have hfz21_1 := blk_frozen BK267.out 1
    have hfz21_2 := blk_frozen BK267.out 2
    have hfz21_3 := blk_frozen BK267.out 3
    have hfz21_4 := blk_frozen BK267.out 4
    go_wp2
    repeat (go_quiet (fail); try go_wp2)
    go_meet
    case rel => exact ⟨_, (true), (by first | rfl | (simp; done) | (simp [*]; done)), H', ⟨by first | omega | exact Nat.le_refl _⟩, ⟨twb BK266.out⟩, ⟨twb BK267.out⟩, ⟨by repeat (first | (with_reducible first | exact HB.out | apply below_alloc | apply pw_below_drewN | apply below_drew1 | refine below_set ?_ GE266.out | refine below_set ?_ GE267.out) | exact HB.out)⟩⟩
  ·rw [if_neg c6] at H
   have c6b0 : (a0_0 == a1_0) = false := beq_eq_false_iff_ne.mpr c6
   have c6b1 : (a0_0 != a1_0) = true := bne_iff_ne.mpr c6
   (first | rw [c6b0] | (simp only [i64_w, i32_w]; rw [c6b0]) | skip)
   have H' := Az.mk H
   clear H
   have hnb22 := NB266_267.out
   have hnc22 := NB267_266.out
   have hcz23_0 : w5.cell? ⟨gb266, 0, none⟩ = some (.int .u8 a0_0) := (blk_cell BK266.out 0).trans rfl
   have hcz23_1 : w5.cell? ⟨gb266, 1, none⟩ = some (.string a0_1) := (blk_cell BK266.out 1).trans rfl
   have hcz23_2 : w5.cell? ⟨gb266, 2, none⟩ = some (.slice A0_2 l0_2.length c0_2) := (blk_cell BK266.out 2).trans rfl
   have hcz23_3 : w5.cell? ⟨gb266, 3, none⟩ = some (.string a0_3) := (blk_cell BK266.out 3).trans rfl
   have hcz23_4 : w5.cell? ⟨gb266, 4, none⟩ = some (.int .i64 a0_4) := (blk_cell BK266.out 4).trans rfl
   have hfz23_0 := blk_frozen BK266.out 0
   have hfz23_1 := blk_frozen BK266.out 1
   have hfz23_2 := blk_frozen BK266.out 2
   have hfz23_3 := blk_frozen BK266.out 3
   have hfz23_4 := blk_frozen BK266.out 4
   have hcz24_0 : w5.cell? ⟨gb267, 0, none⟩ = some (.int .u8 a1_0) := (blk_cell BK267.out 0).trans rfl
   have hcz24_1 : w5.cell? ⟨gb267, 1, none⟩ = some (.string a1_1) := (blk_cell BK267.out 1).trans rfl
   have hcz24_2 : w5.cell? ⟨gb267, 2, none⟩ = some (.slice A1_2 l1_2.length c1_2) := (blk_cell BK267.out 2).trans rfl
   have hcz24_3 : w5.cell? ⟨gb267, 3, none⟩ = some (.string a1_3) := (blk_cell BK267.out 3).trans rfl
   have hcz24_4 : w5.cell? ⟨gb267, 4, none⟩ = some (.int .i64 a1_4) := (blk_cell BK267.out 4).trans rfl
   have hfz24_0 := blk_frozen BK267.out 0
   have hfz24_1 := blk_frozen BK267.out 1
   have hfz24_2 := blk_frozen BK267.out 2
   have hfz24_3 := blk_frozen BK267.out 3
   have hfz24_4 := blk_frozen BK267.out 4
   go_wp2
   repeat (go_quiet (fail); try go_wp2)
   go_meet
   case rel => exact ⟨_, (true), (by first | rfl | (simp; done) | (simp [*]; done)), H', ⟨by first | omega | exact Nat.le_refl _⟩, ⟨twb BK266.out⟩, ⟨twb BK267.out⟩, ⟨by repeat (first | (with_reducible first | exact HB.out | apply below_alloc | apply pw_below_drewN | apply below_drew1 | refine below_set ?_ GE266.out | refine below_set ?_ GE267.out) | exact HB.out)⟩⟩
 case rest =>
  clear HC3
  try clear c1
  try clear c2
  try clear p2
  try clear c6
  try clear c6b0
  try clear c6b1
  try clear c7
  try clear c7b0
  try clear c7b1
  try clear c8
  try clear c8b0
  try clear c8b1
  try clear c9
  try clear c9b0
  try clear c9b1
  try clear c10
  try clear c13
  try clear c16
  try clear c19
  try clear c22
  try clear hcz11_0
  try clear hcz11_1
  try clear hcz11_2
  try clear hcz11_3
  try clear hcz11_4
  try clear hcz12_0
  try clear hcz12_1
  try clear hcz12_2
  try clear hcz12_3
  try clear hcz12_4
  try clear hcz14_0
  try clear hcz14_1
  try clear hcz14_2
  try clear hcz14_3
  try clear hcz14_4
  try clear hcz15_0
  try clear hcz15_1
  try clear hcz15_2
  try clear hcz15_3
  try clear hcz15_4
  try clear hcz17_0
  try clear hcz17_1
  try clear hcz17_2
  try clear hcz17_3
  try clear hcz17_4
  try clear hcz18_0
  try clear hcz18_1
  try clear hcz18_2
  try clear hcz18_3
  try clear hcz18_4
  try clear hcz20_0
  try clear hcz20_1
  try clear hcz20_2
  try clear hcz20_3
  try clear hcz20_4
  try clear hcz21_0
  try clear hcz21_1
  try clear hcz21_2
  try clear hcz21_3
  try clear hcz21_4
  try clear hcz23_0
  try clear hcz23_1
  try clear hcz23_2
  try clear hcz23_3
  try clear hcz23_4
  try clear hcz24_0
  try clear hcz24_1
  try clear hcz24_2
  try clear hcz24_3
  try clear hcz24_4
  try clear hfz11_0
  try clear hfz11_1
  try clear hfz11_2
  try clear hfz11_3
  try clear hfz11_4
  try clear hfz12_0
  try clear hfz12_1
  try clear hfz12_2
  try clear hfz12_3
  try clear hfz12_4
  try clear hfz14_0
  try clear hfz14_1
  try clear hfz14_2
  try clear hfz14_3
  try clear hfz14_4
  try clear hfz15_0
  try clear hfz15_1
  try clear hfz15_2
  try clear hfz15_3
  try clear hfz15_4
  try clear hfz17_0
  try clear hfz17_1
  try clear hfz17_2
  try clear hfz17_3
  try clear hfz17_4
  try clear hfz18_0
  try clear hfz18_1
  try clear hfz18_2
  try clear hfz18_3
  try clear hfz18_4
  try clear hfz20_0
  try clear hfz20_1
  try clear hfz20_2
  try clear hfz20_3
  try clear hfz20_4
  try clear hfz21_0
  try clear hfz21_1
  try clear hfz21_2
  try clear hfz21_3
  try clear hfz21_4
  try clear hfz23_0
  try clear hfz23_1
  try clear hfz23_2
  try clear hfz23_3
  try clear hfz23_4
  try clear hfz24_0
  try clear hfz24_1
  try clear hfz24_2
  try clear hfz24_3
  try clear hfz24_4
  obtain ⟨kq, x40_2, rfl, HA, HJ2, BK266, BK267, HB⟩ := hcut
  cases kq with
  | zero => exact absurd HA.out (by simp [w4_is.j0])
  | succ kj2 =>
   have H := HA.out
   clear HA
   simp only [w4_is.j0] at H
   by_cases c25 : x40_2 = true
   ·subst c25
    have H1 : (some false) = some r := by rw [if_pos rfl] at H; exact H
    clear H
    have H := H1
    clear H1
    obtain rfl := Option.some.inj H
    go_wp2
    repeat (go_quiet (fail); try go_wp2)
    go_ret
    exact ⟨by first | rfl | (simp [errW_none, errW_some] <;> rfl) | (simp [*, errW_none, errW_some] <;> rfl), by repeat (first | (with_reducible first | exact HB.out | apply below_alloc | apply pw_below_drewN | apply below_drew1 | refine below_set ?_ GE266.out | refine below_set ?_ GE267.out) | exact HB.out)⟩
   ·replace c25 := Bool.eq_false_iff.mpr c25
    subst c25
    have H1 : (w4_is.l0 kj2 0 a0_0 a0_1 l0_2 a0_3 a0_4 a1_0 a1_1 l1_2 a1_3 a1_4) = some r := by rw [if_neg (show ¬ (false = true) by decide)] at H; exact H
    clear H
    have H := H1
    clear H1
    have H' := Az.mk H
    clear H
    go_wp2
    repeat (go_quiet (fail); try go_wp2)
    go_loopg [5] kj2 (fun kq v5 w' => ∃ (x5_2 : Int), v5 = .int .i64 x5_2 ∧ Az (w4_is.l0 kq x5_2 a0_0 a0_1 l0_2 a0_3 a0_4 a1_0 a1_1 l1_2 a1_3 a1_4 = some r) ∧ Az (kq ≤ kj2) ∧ Az (w'.heap[gb266]? = some (.cells #[.int .u8 a0_0, .string a0_1, (.slice A0_2 l0_2.length c0_2), .string a0_3, .int .i64 a0_4] 33 (0, 0))) ∧ Az (w'.heap[gb267]? = some (.cells #[.int .u8 a1_0, .string a1_1, (.slice A1_2 l1_2.length c1_2), .string a1_3, .int .i64 a1_4] 36 (0, 0))) ∧ Az (Below w.heap.size w w'))
    case atStart => exact ⟨(0), (by first | rfl | (simp; done) | (simp [*]; done)), H', ⟨Nat.le_refl _⟩, ⟨twb BK266.out⟩, ⟨twb BK267.out⟩, ⟨by repeat (first | (with_reducible first | exact HB.out | apply below_alloc | apply pw_below_drewN | apply below_drew1 | refine below_set ?_ GE266.out | refine below_set ?_ GE267.out) | exact HB.out)⟩⟩
    case round =>
     clear H'
     try clear c1
     try clear c2
     try clear p2
     try clear c6
     try clear c6b0
     try clear c6b1
     try clear c7
     try clear c7b0
     try clear c7b1
     try clear c8
     try clear c8b0
     try clear c8b1
     try clear c9
     try clear c9b0
     try clear c9b1
     try clear c10
     try clear c13
     try clear c16
     try clear c19
     try clear c22
     try clear c25
     try clear hcz11_0
     try clear hcz11_1
     try clear hcz11_2
     try clear hcz11_3
     try clear hcz11_4
     try clear hcz12_0
     try clear hcz12_1
     try clear hcz12_2
     try clear hcz12_3
     try clear hcz12_4
     try clear hcz14_0
     try clear hcz14_1
     try clear hcz14_2
     try clear hcz14_3
     try clear hcz14_4
     try clear hcz15_0
     try clear hcz15_1
     try clear hcz15_2
     try clear hcz15_3
     try clear hcz15_4
     try clear hcz17_0
     try clear hcz17_1
     try clear hcz17_2
     try clear hcz17_3
     try clear hcz17_4
     try clear hcz18_0
     try clear hcz18_1
     try clear hcz18_2
     try clear hcz18_3
     try clear hcz18_4
     try clear hcz20_0
     try clear hcz20_1
     try clear hcz20_2
     try clear hcz20_3
     try clear hcz20_4
     try clear hcz21_0
     try clear hcz21_1
     try clear hcz21_2
     try clear hcz21_3
     try clear hcz21_4
     try clear hcz23_0
     try clear hcz23_1
     try clear hcz23_2
     try clear hcz23_3
     try clear hcz23_4
     try clear hcz24_0
     try clear hcz24_1
     try clear hcz24_2
     try clear hcz24_3
     try clear hcz24_4
     try clear hfz11_0
     try clear hfz11_1
     try clear hfz11_2
     try clear hfz11_3
     try clear hfz11_4
     try clear hfz12_0
     try clear hfz12_1
     try clear hfz12_2
     try clear hfz12_3
     try clear hfz12_4
     try clear hfz14_0
     try clear hfz14_1
     try clear hfz14_2
     try clear hfz14_3
     try clear hfz14_4
     try clear hfz15_0
     try clear hfz15_1
     try clear hfz15_2
     try clear hfz15_3
     try clear hfz15_4
     try clear hfz17_0
     try clear hfz17_1
     try clear hfz17_2
     try clear hfz17_3
     try clear hfz17_4
     try clear hfz18_0
     try clear hfz18_1
     try clear hfz18_2
     try clear hfz18_3
     try clear hfz18_4
     try clear hfz20_0
     try clear hfz20_1
     try clear hfz20_2
     try clear hfz20_3
     try clear hfz20_4
     try clear hfz21_0
     try clear hfz21_1
     try clear hfz21_2
     try clear hfz21_3
     try clear hfz21_4
     try clear hfz23_0
     try clear hfz23_1
     try clear hfz23_2
     try clear hfz23_3
     try clear hfz23_4
     try clear hfz24_0
     try clear hfz24_1
     try clear hfz24_2
     try clear hfz24_3
     try clear hfz24_4
     try clear p2
     obtain ⟨x5_2, rfl, HA, HK2, BK266, BK267, HB⟩ := hrel
     cases gk with
     | zero => exact absurd HA.out (by simp [w4_is.l0])
     | succ k2 =>
      have H := HA.out
      clear HA
      simp only [w4_is.l0] at H
      by_cases c26 : x5_2 < (l0_2.length : Int)
      ·rw [if_pos c26] at H
       have c26b0 : decide (x5_2 < (l0_2.length : Int)) = true := decide_eq_true c26
       clear c26
       by_cases c27 : 0 ≤ x5_2
       ·rw [if_pos c27] at H
        have c27b0 : decide (0 ≤ x5_2) = true := decide_eq_true c27
        clear c27
        by_cases c28 : x5_2 < (l1_2.length : Int)
        ·rw [if_pos c28] at H
         have c28b0 : decide (x5_2 < (l1_2.length : Int)) = true := decide_eq_true c28
         clear c28
         by_cases c29 : ((rd_T38 l0_2 x5_2).f0).toList = ((rd_T66 l1_2 x5_2).f0).toList
         ·rw [if_pos c29] at H
          have c29b0 : (((rd_T38 l0_2 x5_2).f0).toList == ((rd_T66 l1_2 x5_2).f0).toList) = true := beq_iff_eq.mpr c29
          have c29b1 : (((rd_T38 l0_2 x5_2).f0).toList != ((rd_T66 l1_2 x5_2).f0).toList) = false := bne_eq_false_iff_eq.mpr c29
          clear c29
          by_cases c30 : ((rd_T38 l0_2 x5_2).f1).toList = ((rd_T66 l1_2 x5_2).f1).toList
          ·rw [if_pos c30] at H
           have c30b0 : (((rd_T38 l0_2 x5_2).f1).toList == ((rd_T66 l1_2 x5_2).f1).toList) = true := beq_iff_eq.mpr c30
           have c30b1 : (((rd_T38 l0_2 x5_2).f1).toList != ((rd_T66 l1_2 x5_2).f1).toList) = false := bne_eq_false_iff_eq.mpr c30
           clear c30
           have H' := Az.mk H
           clear H
           have hnb31 := NB266_267.out
           have hnc31 := NB267_266.out
           have hcz32_0 : wr.cell? ⟨gb266, 0, none⟩ = some (.int .u8 a0_0) := (blk_cell BK266.out 0).trans rfl
           have hcz32_1 : wr.cell? ⟨gb266, 1, none⟩ = some (.string a0_1) := (blk_cell BK266.out 1).trans rfl
           have hcz32_2 : wr.cell? ⟨gb266, 2, none⟩ = some (.slice A0_2 l0_2.length c0_2) := (blk_cell BK266.out 2).trans rfl
           have hcz32_3 : wr.cell? ⟨gb266, 3, none⟩ = some (.string a0_3) := (blk_cell BK266.out 3).trans rfl
           have hcz32_4 : wr.cell? ⟨gb266, 4, none⟩ = some (.int .i64 a0_4) := (blk_cell BK266.out 4).trans rfl
           have hfz32_0 := blk_frozen BK266.out 0
           have hfz32_1 := blk_frozen BK266.out 1
           have hfz32_2 := blk_frozen BK266.out 2
           have hfz32_3 := blk_frozen BK266.out 3
           have hfz32_4 := blk_frozen BK266.out 4
           have p268 : 0 ≤ (x5_2 : Int) := of_decide_eq_true (by assumption)
           have q268 : x5_2 < (l0_2.length : Int) := of_decide_eq_true (by assumption)
           obtain ⟨ad268, e268, hx268_0, hx268_1⟩ := at_T38 HR0_2.out x5_2 p268 q268
           cases e268
           replace hx268_0 := (HB.out.cell (World.block_lt_of_cell? w _ hx268_0)).trans hx268_0
           replace hx268_1 := (HB.out.cell (World.block_lt_of_cell? w _ hx268_1)).trans hx268_1
           replace p268 := eq_true p268
           replace q268 := eq_true q268
           have hcz33_0 : wr.cell? ⟨gb267, 0, none⟩ = some (.int .u8 a1_0) := (blk_cell BK267.out 0).trans rfl
           have hcz33_1 : wr.cell? ⟨gb267, 1, none⟩ = some (.string a1_1) := (blk_cell BK267.out 1).trans rfl
           have hcz33_2 : wr.cell? ⟨gb267, 2, none⟩ = some (.slice A1_2 l1_2.length c1_2) := (blk_cell BK267.out 2).trans rfl
           have hcz33_3 : wr.cell? ⟨gb267, 3, none⟩ = some (.string a1_3) := (blk_cell BK267.out 3).trans rfl
           have hcz33_4 : wr.cell? ⟨gb267, 4, none⟩ = some (.int .i64 a1_4) := (blk_cell BK267.out 4).trans rfl
           have hfz33_0 := blk_frozen BK267.out 0
           have hfz33_1 := blk_frozen BK267.out 1
           have hfz33_2 := blk_frozen BK267.out 2
           have hfz33_3 := blk_frozen BK267.out 3
           have hfz33_4 := blk_frozen BK267.out 4
           have p269 : 0 ≤ (x5_2 : Int) := of_decide_eq_true (by assumption)
           have q269 : x5_2 < (l1_2.length : Int) := of_decide_eq_true (by assumption)
           obtain ⟨ad269, e269, hx269_0, hx269_1, hx269_2⟩ := at_T66 HR1_2.out x5_2 p269 q269
           cases e269
           replace hx269_0 := (HB.out.cell (World.block_lt_of_cell? w _ hx269_0)).trans hx269_0
           replace hx269_1 := (HB.out.cell (World.block_lt_of_cell? w _ hx269_1)).trans hx269_1
           replace hx269_2 := (HB.out.cell (World.block_lt_of_cell? w _ hx269_2)).trans hx269_2
           replace p269 := eq_true p269
           replace q269 := eq_true q269
           have p270 : 0 ≤ (x5_2 : Int) := of_decide_eq_true (by assumption)
           have q270 : x5_2 < (l0_2.length : Int) := of_decide_eq_true (by assumption)
           obtain ⟨ad270, e270, hx270_0, hx270_1⟩ := at_T38 HR0_2.out x5_2 p270 q270
           obtain rfl : ad268 = ad270 := (by injection e270)
           replace hx270_0 := (HB.out.cell (World.block_lt_of_cell? w _ hx270_0)).trans hx270_0
           replace hx270_1 := (HB.out.cell (World.block_lt_of_cell? w _ hx270_1)).trans hx270_1
           replace p270 := eq_true p270
           replace q270 := eq_true q270
           have p271 : 0 ≤ (x5_2 : Int) := of_decide_eq_true (by assumption)
           have q271 : x5_2 < (l1_2.length : Int) := of_decide_eq_true (by assumption)
           obtain ⟨ad271, e271, hx271_0, hx271_1, hx271_2⟩ := at_T66 HR1_2.out x5_2 p271 q271
           obtain rfl : ad269 = ad271 := (by injection e271)
           replace hx271_0 := (HB.out.cell (World.block_lt_of_cell? w _ hx271_0)).trans hx271_0
           replace hx271_1 := (HB.out.cell (World.block_lt_of_cell? w _ hx271_1)).trans hx271_1
           replace hx271_2 := (HB.out.cell (World.block_lt_of_cell? w _ hx271_2)).trans hx271_2
           replace p271 := eq_true p271
           replace q271 := eq_true q271
           go_wp2
           repeat (go_quiet (fail); try go_wp2)
           go_roundg k2
           case measure => have := HJ2.out; have := HK2.out; omega
           case rel => exact ⟨(wrap64 (x5_2 + 1)), (by first | rfl | (simp; done) | (simp [*]; done)), H', ⟨by have := HJ2.out; have := HK2.out; omega⟩, ⟨twb BK266.out⟩, ⟨twb BK267.out⟩, ⟨by repeat (first | (with_reducible first | exact HB.out | apply below_alloc | apply pw_below_drewN | apply below_drew1 | refine below_set ?_ GE266.out | refine below_set ?_ GE267.out) | exact HB.out)⟩⟩
          ·rw [if_neg c30] at H
           have c30b0 : (((rd_T38 l0_2 x5_2).f1).toList == ((rd_T66 l1_2 x5_2).f1).toList) = false := beq_eq_false_iff_ne.mpr c30
           have c30b1 : (((rd_T38 l0_2 x5_2).f1).toList != ((rd_T66 l1_2 x5_2).f1).toList) = true := bne_iff_ne.mpr c30
           obtain rfl := Option.some.inj H
           have hnb34 := NB266_267.out
           have hnc34 := NB267_266.out
           have hcz35_0 : wr.cell? ⟨gb266, 0, none⟩ = some (.int .u8 a0_0) := (blk_cell BK266.out 0).trans rfl
           have hcz35_1 : wr.cell? ⟨gb266, 1, none⟩ = some (.string a0_1) := (blk_cell BK266.out 1).trans rfl
           have hcz35_2 : wr.cell? ⟨gb266, 2, none⟩ = some (.slice A0_2 l0_2.length c0_2) := (blk_cell BK266.out 2).trans rfl
           have hcz35_3 : wr.cell? ⟨gb266, 3, none⟩ = some (.string a0_3) := (blk_cell BK266.out 3).trans rfl
           have hcz35_4 : wr.cell? ⟨gb266, 4, none⟩ = some (.int .i64 a0_4) := (blk_cell BK266.out 4).trans rfl
           have hfz35_0 := blk_frozen BK266.out 0
           have hfz35_1 := blk_frozen BK266.out 1
           have hfz35_2 := blk_frozen BK266.out 2
           have hfz35_3 := blk_frozen BK266.out 3
           have hfz35_4 := blk_frozen BK266.out 4
           have p268 : 0 ≤ (x5_2 : Int) := of_decide_eq_true (by assumption)
           have q268 : x5_2 < (l0_2.length : Int) := of_decide_eq_true (by assumption)
           obtain ⟨ad268, e268, hx268_0, hx268_1⟩ := at_T38 HR0_2.out x5_2 p268 q268
           cases e268
           replace hx268_0 := (HB.out.cell (World.block_lt_of_cell? w _ hx268_0)).trans hx268_0
           replace hx268_1 := (HB.out.cell (World.block_lt_of_cell? w _ hx268_1)).trans hx268_1
           replace p268 := eq_true p268
           replace q268 := eq_true q268
           have hcz36_0 : wr.cell? ⟨gb267, 0, none⟩ = some (.int .u8 a1_0) := (blk_cell BK267.out 0).trans rfl
           have hcz36_1 : wr.cell? ⟨gb267, 1, none⟩ = some (.string a1_1) := (blk_cell BK267.out 1).trans rfl
           have hcz36_2 : wr.cell? ⟨gb267, 2, none⟩ = some (.slice A1_2 l1_2.length c1_2) := (blk_cell BK267.out 2).trans rfl
           have hcz36_3 : wr.cell? ⟨gb267, 3, none⟩ = some (.string a1_3) := (blk_cell BK267.out 3).trans rfl
           have hcz36_4 : wr.cell? ⟨gb267, 4, none⟩ = some (.int .i64 a1_4) := (blk_cell BK267.out 4).trans rfl
           have hfz36_0 := blk_frozen BK267.out 0
           have hfz36_1 := blk_frozen BK267.out 1
           have hfz36_2 := blk_frozen BK267.out 2
           have hfz36_3 := blk_frozen BK267.out 3
           have hfz36_4 := blk_frozen BK267.out 4
           have p269 : 0 ≤ (x5_2 : Int) := of_decide_eq_true (by assumption)
           have q269 : x5_2 < (l1_2.length : Int) := of_decide_eq_true (by assumption)
           obtain ⟨ad269, e269, hx269_0, hx269_1, hx269_2⟩ := at_T66 HR1_2.out x5_2 p269 q269
           cases e269
           replace hx269_0 := (HB.out.cell (World.block_lt_of_cell? w _ hx269_0)).trans hx269_0
           replace hx269_1 := (HB.out.cell (World.block_lt_of_cell? w _ hx269_1)).trans hx269_1
           replace hx269_2 := (HB.out.cell (World.block_lt_of_cell? w _ hx269_2)).trans hx269_2
           replace p269 := eq_true p269
           replace q269 := eq_true q269
           have p270 : 0 ≤ (x5_2 : Int) := of_decide_eq_true (by assumption)
           have q270 : x5_2 < (l0_2.length : Int) := of_decide_eq_true (by assumption)
           obtain ⟨ad270, e270, hx270_0, hx270_1⟩ := at_T38 HR0_2.out x5_2 p270 q270
           obtain rfl : ad268 = ad270 := (by injection e270)
           replace hx270_0 := (HB.out.cell (World.block_lt_of_cell? w _ hx270_0)).trans hx270_0
           replace hx270_1 := (HB.out.cell (World.block_lt_of_cell? w _ hx270_1)).trans hx270_1
           replace p270 := eq_true p270
           replace q270 := eq_true q270
           have p271 : 0 ≤ (x5_2 : Int) := of_decide_eq_true (by assumption)
           have q271 : x5_2 < (l1_2.length : Int) := of_decide_eq_true (by assumption)
           obtain ⟨ad271, e271, hx271_0, hx271_1, hx271_2⟩ := at_T66 HR1_2.out x5_2 p271 q271
           obtain rfl : ad269 = ad271 := (by injection e271)
           replace hx271_0 := (HB.out.cell (World.block_lt_of_cell? w _ hx271_0)).trans hx271_0
           replace hx271_1 := (HB.out.cell (World.block_lt_of_cell? w _ hx271_1)).trans hx271_1
           replace hx271_2 := (HB.out.cell (World.block_lt_of_cell? w _ hx271_2)).trans hx271_2
           replace p271 := eq_true p271
           replace q271 := eq_true q271
           go_wp2
           repeat (go_quiet (fail); try go_wp2)
           go_ret
           exact ⟨by first | rfl | (simp [errW_none, errW_some] <;> rfl) | (simp [*, errW_none, errW_some] <;> rfl), by repeat (first | (with_reducible first | exact HB.out | apply below_alloc | apply pw_below_drewN | apply below_drew1 | refine below_set ?_ GE266.out | refine below_set ?_ GE267.out) | exact HB.out)⟩
         ·rw [if_neg c29] at H
          have c29b0 : (((rd_T38 l0_2 x5_2).f0).toList == ((rd_T66 l1_2 x5_2).f0).toList) = false := beq_eq_false_iff_ne.mpr c29
          have c29b1 : (((rd_T38 l0_2 x5_2).f0).toList != ((rd_T66 l1_2 x5_2).f0).toList) = true := bne_iff_ne.mpr c29
          obtain rfl := Option.some.inj H
          have hnb37 := NB266_267.out
          have hnc37 := NB267_266.out
          have hcz38_0 : wr.cell? ⟨gb266, 0, none⟩ = some (.int .u8 a0_0) := (blk_cell BK266.out 0).trans rfl
          have hcz38_1 : wr.cell? ⟨gb266, 1, none⟩ = some (.string a0_1) := (blk_cell BK266.out 1).trans rfl
          have hcz38_2 : wr.cell? ⟨gb266, 2, none⟩ = some (.slice A0_2 l0_2.length c0_2) := (blk_cell BK266.out 2).trans rfl
          have hcz38_3 : wr.cell? ⟨gb266, 3, none⟩ = some (.string a0_3) := (blk_cell BK266.out 3).trans rfl
          have hcz38_4 : wr.cell? ⟨gb266, 4, none⟩ = some (.int .i64 a0_4) := (blk_cell BK266.out 4).trans rfl
          have hfz38_0 := blk_frozen BK266.out 0
          have hfz38_1 := blk_frozen BK266.out 1
          have hfz38_2 := blk_frozen BK266.out 2
          have hfz38_3 := blk_frozen BK266.out 3
          have hfz38_4 := blk_frozen BK266.out 4
          have p268 : 0 ≤ (x5_2 : Int) := of_decide_eq_true (by assumption)
          have q268 : x5_2 < (l0_2.length : Int) := of_decide_eq_true (by assumption)
          obtain ⟨ad268, e268, hx268_0, hx268_1⟩ := at_T38 HR0_2.out x5_2 p268 q268
          cases e268
          replace hx268_0 := (HB.out.cell (World.block_lt_of_cell? w _ hx268_0)).trans hx268_0
          replace hx268_1 := (HB.out.cell (World.block_lt_of_cell? w _ hx268_1)).trans hx268_1
          replace p268 := eq_true p268
          replace q268 := eq_true q268
          have hcz39_0 : wr.cell? ⟨gb267, 0, none⟩ = some (.int .u8 a1_0) := (blk_cell BK267.out 0).trans rfl
          have hcz39_1 : wr.cell? ⟨gb267, 1, none⟩ = some (.string a1_1) := (blk_cell BK267.out 1).trans rfl
          have hcz39_2 : wr.cell? ⟨gb267, 2, none⟩ = some (.slice A1_2 l1_2.length c1_2) := (blk_cell BK267.out 2).trans rfl
          have hcz39_3 : wr.cell? ⟨gb267, 3, none⟩ = some (.string a1_3) := (blk_cell BK267.out 3).trans rfl
          have hcz39_4 : wr.cell? ⟨gb267, 4, none⟩ = some (.int .i64 a1_4) := (blk_cell BK267.out 4).trans rfl
          have hfz39_0 := blk_frozen BK267.out 0
          have hfz39_1 := blk_frozen BK267.out 1
          have hfz39_2 := blk_frozen BK267.out 2
          have hfz39_3 := blk_frozen BK267.out 3
          have hfz39_4 := blk_frozen BK267.out 4
          have p269 : 0 ≤ (x5_2 : Int) := of_decide_eq_true (by assumption)
          have q269 : x5_2 < (l1_2.length : Int) := of_decide_eq_true (by assumption)
          obtain ⟨ad269, e269, hx269_0, hx269_1, hx269_2⟩ := at_T66 HR1_2.out x5_2 p269 q269
          cases e269
          replace hx269_0 := (HB.out.cell (World.block_lt_of_cell? w _ hx269_0)).trans hx269_0
          replace hx269_1 := (HB.out.cell (World.block_lt_of_cell? w _ hx269_1)).trans hx269_1
          replace hx269_2 := (HB.out.cell (World.block_lt_of_cell? w _ hx269_2)).trans hx269_2
          replace p269 := eq_true p269
          replace q269 := eq_true q269
          go_wp2
          repeat (go_quiet (fail); try go_wp2)
          go_ret
          exact ⟨by first | rfl | (simp [errW_none, errW_some] <;> rfl) | (simp [*, errW_none, errW_some] <;> rfl), by repeat (first | (with_reducible first | exact HB.out | apply below_alloc | apply pw_below_drewN | apply below_drew1 | refine below_set ?_ GE266.out | refine below_set ?_ GE267.out) | exact HB.out)⟩
        ·rw [if_neg c28] at H
         exact absurd H (by simp)
       ·rw [if_neg c27] at H
        exact absurd H (by simp)
      ·rw [if_neg c26] at H
       have c26b0 : decide (x5_2 < (l0_2.length : Int)) = false := decide_eq_false c26
       clear c26
       obtain rfl := Option.some.inj H
       have hnb40 := NB266_267.out
       have hnc40 := NB267_266.out
       have hcz41_0 : wr.cell? ⟨gb266, 0, none⟩ = some (.int .u8 a0_0) := (blk_cell BK266.out 0).trans rfl
       have hcz41_1 : wr.cell? ⟨gb266, 1, none⟩ = some (.string a0_1) := (blk_cell BK266.out 1).trans rfl
       have hcz41_2 : wr.cell? ⟨gb266, 2, none⟩ = some (.slice A0_2 l0_2.length c0_2) := (blk_cell BK266.out 2).trans rfl
       have hcz41_3 : wr.cell? ⟨gb266, 3, none⟩ = some (.string a0_3) := (blk_cell BK266.out 3).trans rfl
       have hcz41_4 : wr.cell? ⟨gb266, 4, none⟩ = some (.int .i64 a0_4) := (blk_cell BK266.out 4).trans rfl
       have hfz41_0 := blk_frozen BK266.out 0
       have hfz41_1 := blk_frozen BK266.out 1
       have hfz41_2 := blk_frozen BK266.out 2
       have hfz41_3 := blk_frozen BK266.out 3
       have hfz41_4 := blk_frozen BK266.out 4
       go_wp2
       repeat (go_quiet (fail); try go_wp2)
       go_ret
       exact ⟨by first | rfl | (simp [errW_none, errW_some] <;> rfl) | (simp [*, errW_none, errW_some] <;> rfl), by repeat (first | (with_reducible first | exact HB.out | apply below_alloc | apply pw_below_drewN | apply below_drew1 | refine below_set ?_ GE266.out | refine below_set ?_ GE267.out) | exact HB.out)⟩
def r4_Blank.l0 : Nat → ByteArray → Int → Option (Bool)
 | 0, _, _ => none
 | k + 1, x0, x3 => if x3 < (x0.size : Int) then (if 0 ≤ x3 then ((r4_blank.f (bt x0 x3)).bind fun t272 => (if t272 = true then (r4_Blank.l0 k x0 (wrap64 (x3 + 1))) else (some false))) else (none)) else (some true)
def r4_Blank.f (k : Nat) (a0 : ByteArray) : Option (Bool) := r4_Blank.l0 k a0 0
set_option maxHeartbeats 8000000 in
set_option maxRecDepth 100000 in
theorem r4_Blank.calls (k : Nat) (a0 : ByteArray) (r : Bool) (w : World) (h : r4_Blank.f k a0 = some r) :
  Calls Tryz.prog 12 #[.string a0] w fun e w' => e = .returned (.bool r) ∧ Drawn0 w w' := by
 have H := h
 unfold r4_Blank.f at H
 clear h
 have H' := Az.mk H
 clear H
 go_enter Tryz.func12, Tryz.ntmps12
 go_wp2
 go_loopg [3] k (fun kq v3 w' => ∃ (x3_1 : Int), v3 = .int .i64 x3_1 ∧ Az (r4_Blank.l0 kq a0 x3_1 = some r) ∧ Az (kq ≤ k) ∧ Drawn0 w w')
 case atStart => exact ⟨(0), (by first | rfl | (simp; done) | (simp [*]; done)), H', ⟨Nat.le_refl _⟩, by repeat (first | exact Drawn0.refl _ | apply Drawn0.step)⟩
 case round =>
  clear H'
  try clear c1
  obtain ⟨x3_1, rfl, HA, HK1, ⟨m1, rfl⟩⟩ := hrel
  cases gk with
  | zero => exact absurd HA.out (by simp [r4_Blank.l0])
  | succ k1 =>
   have H := HA.out
   clear HA
   simp only [r4_Blank.l0] at H
   by_cases c2 : x3_1 < (a0.size : Int)
   ·rw [if_pos c2] at H
    have c2b0 : decide (x3_1 < (a0.size : Int)) = true := decide_eq_true c2
    clear c2
    by_cases c3 : 0 ≤ x3_1
    ·rw [if_pos c3] at H
     have c3b0 : decide (0 ≤ x3_1) = true := decide_eq_true c3
     clear c3
     replace H := Option.bind_eq_some_iff.mp H
     obtain ⟨t272, A50, H⟩ := H
     replace H : (if t272 = true then (r4_Blank.l0 k1 a0 (wrap64 (x3_1 + 1))) else (some false)) = some r := H
     have A5 := Az.mk A50
     clear A50
     by_cases c6 : t272 = true
     ·subst c6
      have H1 : (r4_Blank.l0 k1 a0 (wrap64 (x3_1 + 1))) = some r := by rw [if_pos rfl] at H; exact H
      clear H
      have H := H1
      clear H1
      have H' := Az.mk H
      clear H
      have p4 : 0 ≤ (x3_1 : Int) := of_decide_eq_true (by assumption)
      have q4 : x3_1 < (a0.size : Int) := of_decide_eq_true (by assumption)
      have hx4 := bt_at a0 x3_1
      replace p4 := eq_true p4
      replace q4 := eq_true q4
      go_wp2_with (first | ((with_reducible refine gate_callee (f := 26) rfl ?_); refine goesL_ (some 13) rfl rfl Tryz.func26 (by kernel_rfl) rfl #[.int .u8 (bt a0 x3_1)] rfl (by (try simp only [List.map_toArray, List.map_cons, List.map_nil]); first | done | rfl | (simp only [List.length_drop, List.length_take]; rfl)) ?_; (with_reducible refine (r4_blank.calls (bt a0 x3_1) true _ A5.out).mono ?_); rintro e w' ⟨rfl, ⟨nd, rfl⟩⟩; refine ⟨_, rfl, ?_⟩))
      go_roundg k1
      case measure => have := HK1.out; omega
      case rel => exact ⟨(wrap64 (x3_1 + 1)), (by first | rfl | (simp; done) | (simp [*]; done)), H', ⟨by have := HK1.out; omega⟩, by repeat (first | exact Drawn0.refl _ | apply Drawn0.step)⟩
     ·replace c6 := Bool.eq_false_iff.mpr c6
      subst c6
      have H1 : (some false) = some r := by rw [if_neg (show ¬ (false = true) by decide)] at H; exact H
      clear H
      have H := H1
      clear H1
      obtain rfl := Option.some.inj H
      have p4 : 0 ≤ (x3_1 : Int) := of_decide_eq_true (by assumption)
      have q4 : x3_1 < (a0.size : Int) := of_decide_eq_true (by assumption)
      have hx4 := bt_at a0 x3_1
      replace p4 := eq_true p4
      replace q4 := eq_true q4
      go_wp2_with (first | ((with_reducible refine gate_callee (f := 26) rfl ?_); refine goesL_ (some 13) rfl rfl Tryz.func26 (by kernel_rfl) rfl #[.int .u8 (bt a0 x3_1)] rfl (by (try simp only [List.map_toArray, List.map_cons, List.map_nil]); first | done | rfl | (simp only [List.length_drop, List.length_take]; rfl)) ?_; (with_reducible refine (r4_blank.calls (bt a0 x3_1) false _ A5.out).mono ?_); rintro e w' ⟨rfl, ⟨nd, rfl⟩⟩; refine ⟨_, rfl, ?_⟩))
      go_ret
      exact ⟨by first | rfl | (simp; done) | (simp [*]; done), by repeat (first | exact Drawn0.refl _ | apply Drawn0.step)⟩
    ·rw [if_neg c3] at H
     exact absurd H (by simp)
   ·rw [if_neg c2] at H
    have c2b0 : decide (x3_1 < (a0.size : Int)) = false := decide_eq_false c2
    clear c2
    obtain rfl := Option.some.inj H
    go_wp2
    go_ret
    exact ⟨by first | rfl | (simp; done) | (simp [*]; done), by repeat (first | exact Drawn0.refl _ | apply Drawn0.step)⟩
end Go.Proofs.YtpknhgejnfmijaaGreatDoor.PC
