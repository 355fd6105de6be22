/- A text of the claim, with what no other text of it needs taken out. -/
import Derived.Test.YtpknhgejnfmijaaGreatDoorPC0
import Derived.Test.YtpknhgejnfmijaaGreatDoorPC4
import Derived.Test.YtpknhgejnfmijaaGreatDoorPC6
import Derived.Test.YtpknhgejnfmijaaGreatDoorPC9
namespace Go.Proofs.YtpknhgejnfmijaaGreatDoor.PC
open Go.Proofs.YtpknhgejnfmijaaGreatDoor.K
open Go.RowKit Go.Proofs.YtpknhgejnfmijaaGreatDoorW.PrintWords Go.Proofs.YtpknhgejnfmijaaGreatDoorW.PrintLast Go.Proofs.YtpknhgejnfmijaaGreatDoorW.PrintMore
attribute [local go_sem] max2_int min2_int max_two min_two max_three min_three max_four min_four
set_option linter.unusedVariables false
set_option linter.unusedSimpArgs false
def r4_read.l0 : Nat → Int → Int → ByteArray → List (S66) → ByteArray → Int → Option (Int × ByteArray × (List (S66)) × ByteArray × Int × Int × Int)
 | 0, _, _, _, _, _, _ => none
 | k + 1, x5, x222000, x222001, x222002, x222003, x222004 => if x5 < (x222002.length : Int) then (if 0 ≤ x5 then ((r3_Decode.f k ((rd_T66 x222002 x5).f1)).bind fun bt224 => (if bt224.2.2 = 0 then (r4_read.l0 k (wrap64 (x5 + 1)) x222000 x222001 (x222002.set (x5 : Int).toNat (⟨(rd_T66 x222002 x5).f0, bt224.1, (rd_T66 x222002 x5).f2⟩ : S66)) x222003 x222004) else (some (0, (⟨#[]⟩ : ByteArray), ([] : List (S66)), (⟨#[]⟩ : ByteArray), 0, wrap64 (((rd_T66 x222002 x5).f2) + bt224.2.1), bt224.2.2)))) else (none)) else (if (x222002.length : Int) > 32 then (some (0, (⟨#[]⟩ : ByteArray), ([] : List (S66)), (⟨#[]⟩ : ByteArray), 0, x222004, 3)) else (some (x222000, x222001, x222002, x222003, x222004, 0, 0)))
def r4_read.f (k : Nat) (a0_0 : Int) (a0_1 : ByteArray) (l0_2 : List (S66)) (a0_3 : ByteArray) (a0_4 : Int) : Option (Int × ByteArray × (List (S66)) × ByteArray × Int × Int × Int) := r4_read.l0 k 0 a0_0 a0_1 l0_2 a0_3 a0_4
def r4_read.T6 : Bool × List (List Nat × List Nat) := (true, [([], []), ([], []), ([1], [1]), ([], []), ([2, 3], [2, 3]), ([4], [4]), ([5], [5]), ([], []), ([6, 7], [6, 7]), ([], []), ([0, 0], [0]), ([8, 10, 0, 1, 2, 3, 4, 5, 6, 7, 8, 10], [8]), ([9, 11, 0, 1, 2, 3, 4, 5, 6, 7, 8, 9, 10, 11], [9])])
def r4_read.B6 : List Nat := [0, 0, 2, 0, 14, 30, 62, 0, 254, 0, 1, 1535, 4095]
theorem r4_read.tab6 : rtab .any (opsOf Tryz.f21 6) = r4_read.T6 := by kernel_rfl
theorem r4_read.bits6 : waitsOk r4_read.T6.2 r4_read.B6 = true := by kernel_rfl
set_option maxHeartbeats 8000000 in
set_option maxRecDepth 100000 in
theorem r4_read.calls (k : Nat) (a0_0 : Int) (a0_1 : ByteArray) (P0_2_ : Nat → Prop) (u9000_ : Value) (l0_2 : List (S66)) (a0_3 : ByteArray) (a0_4 : Int) (r1 : Int) (r2 : ByteArray) (r3 : List (S66)) (r4 : ByteArray) (r5 : Int) (r6 : Int) (r7 : Int) (w0 w : World) (hB : Below w0.heap.size w0 w) (ho0_2 : Kd.R k66 66 w w0.heap.size P0_2_ u9000_ l0_2) (h : r4_read.f k a0_0 a0_1 l0_2 a0_3 a0_4 = some (r1, r2, r3, r4, r5, r6, r7)) :
  Calls Tryz.prog 21 #[.agg #[.int .u8 a0_0, .string a0_1, u9000_, .string a0_3, .int .i64 a0_4]] w fun e w' => ∃ v2_ : Value, e = .returned (.tuple #[.agg #[.int .u8 r1, .string r2, v2_, .string r4, .int .i64 r5], .int .i64 r6, .int .i64 r7]) ∧ Kd.R k66 66 w' w0.heap.size (fun k_ => (P0_2_ k_ ∨ w.heap.size ≤ k_)) v2_ r3 ∧ Below w0.heap.size w0 w' ∧ Kept w w' (fun k_ => P0_2_ k_) := by
 have hu36 := Tryz.underlying36
 have HO0_2 := Az.mk (show Kd.R k66 66 w w0.heap.size (fun k_ => (P0_2_ k_ ∨ w.heap.size ≤ k_)) u9000_ l0_2 from Kd.R_mono ho0_2 (fun k_ hk => (.inl hk)))
 have HK := Az.mk (Kept.refl w (fun k_ => P0_2_ k_))
 have HW0 := Az.mk hB.size
 have HB := Az.mk hB
 clear hB
 have H := h
 unfold r4_read.f at H
 clear h
 have H' := Az.mk H
 clear H
 obtain ⟨Ao2, co2, eo2⟩ := Kd.R_slice HO0_2.out
 subst eo2
 go_enter Tryz.func21, Tryz.ntmps21
 go_wp2_with (first | ((with_reducible refine gate_dst (N := 1) rfl ?_); refine box_event ?hg (N := 1) ?hd (cs := #[.int .u8 a0_0, .string a0_1, .slice Ao2 l0_2.length co2, .string a0_3, .int .i64 a0_4]) (t := 36) ?hr ?_; (case hd => rfl); (case hg => rfl); (case hr => first | (go_simp; done) | (go_simp; rfl)); intro gb221 hg w3 hbox hb; have n0_ := Az.mk (Kd.R_below (twr HO0_2.out) hb); have n1_ := Az.mk (Kept.below (S := (fun k_ => P0_2_ k_)) (by repeat (first | (with_reducible first | exact HK.out | apply Kept.alloc | apply Kept.drewN | apply Kept.drew) | exact HK.out)) hb); have n2_ := Az.mk (below_step (tw HB.out) hb); have n3_ := Az.mk (hbox); have n4_ := Az.mk ((by rw [hg]; exact (by first | exact HK.out.1 | exact (show Kept w _ (fun k_ => P0_2_ k_) from by repeat (first | (with_reducible first | exact HK.out | apply Kept.alloc | apply Kept.drewN | apply Kept.drew) | exact HK.out)).1) : w.heap.size ≤ gb221)); have n5_ := Az.mk ((by rw [hg]; exact (below_size (tw HB.out)) : w0.heap.size ≤ gb221)); clear HO0_2; clear HK; clear HB; have HO0_2 := n0_; have HK := n1_; have HB := n2_; have BK221 := n3_; have GW221 := n4_; have GE221 := n5_; clear n0_ n1_ n2_ n3_ n4_ n5_; clear hb hbox hg) | ((with_reducible refine gate_dst (N := 2) rfl ?_); refine box_event ?hg (N := 2) ?hd (cs := #[.int .u8 0, .string (⟨#[]⟩ : ByteArray), .slice none 0 0, .string (⟨#[]⟩ : ByteArray), .int .i64 0]) (t := 36) ?hr ?_; (case hd => rfl); (case hg => rfl); (case hr => first | (go_simp; done) | (go_simp; rfl)); intro gb222 hg w4 hbox hb; have n0_ := Az.mk (Kd.R_below (twr HO0_2.out) hb); have n1_ := Az.mk (blk_below (g := gb221) (o := .cells #[.int .u8 a0_0, .string a0_1, .slice Ao2 l0_2.length co2, .string a0_3, .int .i64 a0_4] 36 (0, 0)) (twb BK221.out) hb); have n2_ := Az.mk (Kept.below (S := (fun k_ => P0_2_ k_)) (by repeat (first | (with_reducible first | exact HK.out | apply Kept.alloc | apply Kept.drewN | apply Kept.drew | refine Kept.setCell ?_ (.inr GW221.out) _) | exact HK.out)) hb); have n3_ := Az.mk (below_step (by repeat (first | (with_reducible first | exact HB.out | apply below_alloc | apply pw_below_drewN | apply below_drew1 | refine below_set ?_ GE221.out) | exact HB.out)) hb); have n4_ := Az.mk (hbox); have n5_ := Az.mk ((by rw [hg]; exact (by first | exact HK.out.1 | exact (show Kept w _ (fun k_ => P0_2_ k_) from by repeat (first | (with_reducible first | exact HK.out | apply Kept.alloc | apply Kept.drewN | apply Kept.drew | refine Kept.setCell ?_ (.inr GW221.out) _) | exact HK.out)).1) : w.heap.size ≤ gb222)); have n6_ := Az.mk ((by rw [hg]; exact (below_size (by repeat (first | (with_reducible first | exact HB.out | apply below_alloc | apply pw_below_drewN | apply below_drew1 | refine below_set ?_ GE221.out) | exact HB.out))) : w0.heap.size ≤ gb222)); have n7_ := Az.mk ((by rw [hg]; exact Nat.ne_of_lt (blk_lt (g := gb221) (o := .cells #[.int .u8 a0_0, .string a0_1, .slice Ao2 l0_2.length co2, .string a0_3, .int .i64 a0_4] 36 (0, 0)) (twb BK221.out)) : gb221 ≠ gb222)); have n8_ := Az.mk ((by rw [hg]; exact Nat.ne_of_gt (blk_lt (g := gb221) (o := .cells #[.int .u8 a0_0, .string a0_1, .slice Ao2 l0_2.length co2, .string a0_3, .int .i64 a0_4] 36 (0, 0)) (twb BK221.out)) : gb222 ≠ gb221)); clear HO0_2; clear BK221; clear HK; clear HB; have HO0_2 := n0_; have BK221 := n1_; have HK := n2_; have HB := n3_; have BK222 := n4_; have GW222 := n5_; have GE222 := n6_; have NB221_222 := n7_; have NB222_221 := n8_; clear n0_ n1_ n2_ n3_ n4_ n5_ n6_ n7_ n8_; clear hb hbox hg))
 go_loopg [5] k (fun kq v5 w' => ∃ (x5_1 : Int) (x222002_1 : List (S66)) (x223000_1 : Int) (x223001_1 : ByteArray) (x223003_1 : ByteArray) (x223004_1 : Int) (u222002 : Value), v5 = .int .i64 x5_1 ∧ Az (r4_read.l0 kq x5_1 a0_0 a0_1 x222002_1 a0_3 a0_4 = some (r1, r2, r3, r4, r5, r6, r7)) ∧ Az (kq ≤ k) ∧ Az (Kd.R k66 66 w' w0.heap.size (fun k_ => (P0_2_ k_ ∨ w.heap.size ≤ k_)) u222002 x222002_1) ∧ Az (w'.heap[gb221]? = some (.cells #[.int .u8 a0_0, .string a0_1, u222002, .string a0_3, .int .i64 a0_4] 36 (0, 0))) ∧ Az (w'.heap[gb222]? = some (.cells #[.int .u8 x223000_1, .string x223001_1, (.slice none 0 0), .string x223003_1, .int .i64 x223004_1] 36 (0, 0))) ∧ Az (Kept w w' (fun k_ => P0_2_ k_)) ∧ Az (Below w0.heap.size w0 w'))
 case atStart => exact ⟨(0), (l0_2), (0), ((⟨#[]⟩ : ByteArray)), ((⟨#[]⟩ : ByteArray)), (0), (.slice Ao2 l0_2.length co2), (by first | rfl | (simp; done) | (simp [*]; done)), H', ⟨Nat.le_refl _⟩, ⟨twr HO0_2.out⟩, ⟨twb BK221.out⟩, ⟨twb BK222.out⟩, ⟨by repeat (first | (with_reducible first | exact HK.out | apply Kept.alloc | apply Kept.drewN | apply Kept.drew | refine Kept.setCell ?_ (.inr GW221.out) _ | refine Kept.setCell ?_ (.inr GW222.out) _) | exact HK.out)⟩, ⟨by repeat (first | (with_reducible first | exact HB.out | apply below_alloc | apply pw_below_drewN | apply below_drew1 | refine below_set ?_ GE221.out | refine below_set ?_ GE222.out) | exact HB.out)⟩⟩
 case round =>
  clear H'
  try clear c2
  try clear p2
  obtain ⟨x5_1, x222002_1, x223000_1, x223001_1, x223003_1, x223004_1, u222002, rfl, HA, HK1, HO_222002, BK221, BK222, HK, HB⟩ := hrel
  cases gk with
  | zero => exact absurd HA.out (by simp [r4_read.l0])
  | succ k1 =>
   have H := HA.out
   clear HA
   simp only [r4_read.l0] at H
   by_cases c5 : x5_1 < (x222002_1.length : Int)
   ·rw [if_pos c5] at H
    have c5b0 : decide (x5_1 < (x222002_1.length : Int)) = true := decide_eq_true c5
    clear c5
    by_cases c6 : 0 ≤ x5_1
    ·rw [if_pos c6] at H
     have c6b0 : decide (0 ≤ x5_1) = true := decide_eq_true c6
     clear c6
     replace H := Option.bind_eq_some_iff.mp H
     obtain ⟨⟨t224, t225, t226⟩, A70, H⟩ := H
     replace H : (if t226 = 0 then (r4_read.l0 k1 (wrap64 (x5_1 + 1)) a0_0 a0_1 (x222002_1.set (x5_1 : Int).toNat (⟨(rd_T66 x222002_1 x5_1).f0, t224, (rd_T66 x222002_1 x5_1).f2⟩ : S66)) a0_3 a0_4) else (some (0, (⟨#[]⟩ : ByteArray), ([] : List (S66)), (⟨#[]⟩ : ByteArray), 0, wrap64 (((rd_T66 x222002_1 x5_1).f2) + t225), t226))) = some (r1, r2, r3, r4, r5, r6, r7) := H
     have A7 := Az.mk A70
     clear A70
     by_cases c8 : t226 = 0
     ·rw [if_pos c8] at H
      have c8b0 : (t226 == 0) = true := beq_iff_eq.mpr c8
      have c8b1 : (t226 != 0) = false := bne_eq_false_iff_eq.mpr c8
      clear c8
      obtain ⟨y227, hy227⟩ : ∃ y_ : List (S66), y_ = (x222002_1.set (x5_1 : Int).toNat (⟨(rd_T66 x222002_1 x5_1).f0, t224, (rd_T66 x222002_1 x5_1).f2⟩ : S66)) := ⟨_, rfl⟩
      replace H : (r4_read.l0 k1 (wrap64 (x5_1 + 1)) a0_0 a0_1 y227 a0_3 a0_4) = some (r1, r2, r3, r4, r5, r6, r7) := by first | (rw [hy227]; with_reducible exact H) | (have H2_ := (Option.bind_some _ _).symm.trans H; rw [hy227]; with_reducible exact H2_) | (have H2_ := (Option.bind_some _ _).symm.trans H; with_reducible exact H2_) | with_reducible exact H | (rw [hy227]; exact H) | exact H
      have Ny227 := Az.mk hy227
      clear hy227
      have H' := Az.mk H
      clear H
      have hnb10 := NB221_222.out
      have hnc10 := NB222_221.out
      have hcz11_0 : wr.cell? ⟨gb221, 0, none⟩ = some (.int .u8 a0_0) := (blk_cell BK221.out 0).trans rfl
      have hcz11_1 : wr.cell? ⟨gb221, 1, none⟩ = some (.string a0_1) := (blk_cell BK221.out 1).trans rfl
      have hcz11_2 : wr.cell? ⟨gb221, 2, none⟩ = some (u222002) := (blk_cell BK221.out 2).trans rfl
      have hcz11_3 : wr.cell? ⟨gb221, 3, none⟩ = some (.string a0_3) := (blk_cell BK221.out 3).trans rfl
      have hcz11_4 : wr.cell? ⟨gb221, 4, none⟩ = some (.int .i64 a0_4) := (blk_cell BK221.out 4).trans rfl
      have hfz11_0 := blk_frozen BK221.out 0
      have hfz11_1 := blk_frozen BK221.out 1
      have hfz11_2 := blk_frozen BK221.out 2
      have hfz11_3 := blk_frozen BK221.out 3
      have hfz11_4 := blk_frozen BK221.out 4
      obtain ⟨Ao12, co12, eo12⟩ := Kd.R_slice HO_222002.out
      subst eo12
      have p223 : 0 ≤ (x5_1 : Int) := of_decide_eq_true (by assumption)
      have q223 : x5_1 < (x222002_1.length : Int) := of_decide_eq_true (by assumption)
      obtain ⟨ad223, e223, hx223_0, hx223_1, hx223_2⟩ := at_T66 (Kd.R_reads' HO_222002.out).2.2 x5_1 p223 q223
      cases e223
      replace p223 := eq_true p223
      replace q223 := eq_true q223
      go_wp2_with (first | ((with_reducible refine gate_callee (f := 18) rfl ?_); refine goesL_ (some 23) rfl rfl Tryz.func18 (by kernel_rfl) rfl #[.string ((rd_T66 x222002_1 x5_1).f1)] rfl (by (try simp only [List.map_toArray, List.map_cons, List.map_nil]); first | done | rfl | (simp only [List.length_drop, List.length_take]; rfl)) ?_; (with_reducible refine (r3_Decode.calls k1 ((rd_T66 x222002_1 x5_1).f1) t224 t225 t226 _ A7.out).mono ?_); rintro e w13 ⟨rfl, hb⟩; refine ⟨_, rfl, ?_⟩; have n0_ := Az.mk (Kd.R_below (twr HO_222002.out) hb); have n1_ := Az.mk (blk_below (g := gb221) (o := .cells #[.int .u8 a0_0, .string a0_1, .slice (some ad223) x222002_1.length co12, .string a0_3, .int .i64 a0_4] 36 (0, 0)) (twb BK221.out) hb); have n2_ := Az.mk (blk_below (g := gb222) (o := .cells #[.int .u8 x223000_1, .string x223001_1, .slice none 0 0, .string x223003_1, .int .i64 x223004_1] 36 (0, 0)) (twb BK222.out) hb); have n3_ := Az.mk (Kept.below (S := (fun k_ => P0_2_ k_)) (by repeat (first | (with_reducible first | exact HK.out | apply Kept.alloc | apply Kept.drewN | apply Kept.drew | refine Kept.setCell ?_ (.inr GW221.out) _ | refine Kept.setCell ?_ (.inr GW222.out) _) | exact HK.out)) hb); have n4_ := Az.mk (below_step (by repeat (first | (with_reducible first | exact HB.out | apply below_alloc | apply pw_below_drewN | apply below_drew1 | refine below_set ?_ GE221.out | refine below_set ?_ GE222.out) | exact HB.out)) hb); clear HO_222002; clear BK221; clear BK222; clear HK; clear HB; have HO_222002 := n0_; have BK221 := n1_; have BK222 := n2_; have HK := n3_; have HB := n4_; clear n0_ n1_ n2_ n3_ n4_; (try clear hb); (try clear hb2); (try clear hk); (try clear hi); have hcz14_0 : w13.cell? ⟨gb221, 0, none⟩ = some (.int .u8 a0_0) := (blk_cell BK221.out 0).trans rfl; have hcz14_1 : w13.cell? ⟨gb221, 1, none⟩ = some (.string a0_1) := (blk_cell BK221.out 1).trans rfl; have hcz14_2 : w13.cell? ⟨gb221, 2, none⟩ = some (.slice (some ad223) x222002_1.length co12) := (blk_cell BK221.out 2).trans rfl; have hcz14_3 : w13.cell? ⟨gb221, 3, none⟩ = some (.string a0_3) := (blk_cell BK221.out 3).trans rfl; have hcz14_4 : w13.cell? ⟨gb221, 4, none⟩ = some (.int .i64 a0_4) := (blk_cell BK221.out 4).trans rfl; have hfz14_0 := blk_frozen BK221.out 0; have hfz14_1 := blk_frozen BK221.out 1; have hfz14_2 := blk_frozen BK221.out 2; have hfz14_3 := blk_frozen BK221.out 3; have hfz14_4 := blk_frozen BK221.out 4; have p9 : 0 ≤ (x5_1 : Int) := of_decide_eq_true (by assumption); have q9 : (x5_1 : Int) < ((x222002_1.length : Int) : Int) := of_decide_eq_true (by assumption); obtain ⟨go9, co9, eo9, gb9, gl9, cl9, HG9⟩ := Kd.R_form HO_222002.out (by omega); (first | cases eo9 | (injection eo9 with ea_ en_ ec_; (first | subst ea_ | (injection ea_ with ea_; subst ea_)); subst ec_; clear en_)); have GB9 := Az.mk gb9; have GG9 := Az.mk HG9; clear gb9 gl9 HG9; have HMgo9 := Az.mk (show (P0_2_ go9 ∨ w.heap.size ≤ go9) from (HO_222002.out.1 _ rfl)); (first | simp only [add_plain] at hx223_0 | skip); (first | simp only [add_plain] at hx223_1 | skip); (first | simp only [add_plain] at hx223_2 | skip); obtain ⟨ce9, hcl9, hM9, hcc9, hfr9⟩ := Kd.R_elem HO_222002.out z66 (x5_1 : Int) p9 q9; obtain rfl := k66_openM hM9; have hx9_0 : w13.cell? ⟨go9, (x5_1 : Int).toNat * 3, none⟩ = some (.string ((rd_T66 x222002_1 x5_1).f0)) := hcc9 0 _ rfl; have hx9_1 : w13.cell? ⟨go9, (x5_1 : Int).toNat * 3 + 1, none⟩ = some (.string ((rd_T66 x222002_1 x5_1).f1)) := hcc9 1 _ rfl; have hx9_2 : w13.cell? ⟨go9, (x5_1 : Int).toNat * 3 + 2, none⟩ = some (.int .i64 ((rd_T66 x222002_1 x5_1).f2)) := hcc9 2 _ rfl; have hf9_0 : w13.frozen? ⟨go9, (x5_1 : Int).toNat * 3, none⟩ = false := hfr9 0; have hf9_1 : w13.frozen? ⟨go9, (x5_1 : Int).toNat * 3 + 1, none⟩ = false := hfr9 1; have hf9_2 : w13.frozen? ⟨go9, (x5_1 : Int).toNat * 3 + 2, none⟩ = false := hfr9 2; clear hcl9 hcc9 hfr9 hM9; replace p9 := eq_true p9; replace q9 := eq_true q9; have HX15 := Az.mk (show Kd.R k66 66 w13 w0.heap.size (fun k_ => (P0_2_ k_ ∨ w.heap.size ≤ k_)) (.slice (some ⟨go9, 0, none⟩) x222002_1.length co12) x222002_1 from (twr HO_222002.out)); obtain ⟨ce15, hcl15, hM15, hcc15, hfr15⟩ := Kd.R_elem HX15.out z66 (x5_1 : Int) (of_decide_eq_true (by assumption)) (by have h_ : (x5_1 : Int) < ((x222002_1.length : Int) : Int) := of_decide_eq_true (by assumption); first | exact h_ | (have e_ := (Kd.R_reads' HO_222002.out).1; omega) | simpa using h_); obtain rfl := k66_openM hM15; have HP15 := Kd.R_seg HX15.out (x5_1 : Int) (of_decide_eq_true (by assumption)) (by have h_ : (x5_1 : Int) < ((x222002_1.length : Int) : Int) := of_decide_eq_true (by assumption); first | exact h_ | (have e_ := (Kd.R_reads' HO_222002.out).1; omega) | simpa using h_) (seg := [.string t224]) (j := 1) hcl15 hcc15 (show 2 ≤ 3 from by decide) (x' := (⟨(rd_T66 x222002_1 x5_1).f0, t224, (rd_T66 x222002_1 x5_1).f2⟩ : S66)) (k66_mkM _ _ _ (⟨(rd_T66 x222002_1 x5_1).f0, t224, (rd_T66 x222002_1 x5_1).f2⟩ : S66) ) (fun _ hk => hk); have hx15_1 := hcc15 1 _ rfl; (try simp only [show (k66).sz = 3 from rfl, Nat.mul_one, Nat.add_zero] at hx15_1); have hf15_1 := hfr15 1; (try simp only [show (k66).sz = 3 from rfl, Nat.mul_one, Nat.add_zero] at hf15_1); clear hcl15 hcc15 hfr15 hM15) | ((with_reducible refine gate_store (t := 9) (p := 44) rfl ?_); refine store_event (t := 9) (p := 44) (v := ?vo_w16) (w1 := (w13.setCell ⟨go9, (x5_1 : Int).toNat * 3 + 1, none⟩ (.string t224))) ?hg ?ho ?hn ?hr ?_; (case ho => rfl); (case hg => rfl); (case hn => rfl); (case hr => first | (go_simp; done) | (go_simp; rfl)); intro w16 hw; have hg : w13.grownBy w16 (some go9) := (by rw [hw]; exact HP15.2); have hp_ : Kd.R k66 66 w16 w0.heap.size (fun k_ => (P0_2_ k_ ∨ w.heap.size ≤ k_)) (.slice (some ⟨go9, 0, none⟩) x222002_1.length co12) y227 := (by rw [hw, Ny227.out]; exact HP15.1); clear HP15; have n0_ := Az.mk (hp_); have n1_ := Az.mk (blk_grown (g := gb221) (o := .cells #[.int .u8 a0_0, .string a0_1, .slice (some ⟨go9, 0, none⟩) x222002_1.length co12, .string a0_3, .int .i64 a0_4] 36 (0, 0)) (twb BK221.out) hg (Kd.R_ne HO_222002.out BK221.out (by decide))); have n2_ := Az.mk (blk_grown (g := gb222) (o := .cells #[.int .u8 x223000_1, .string x223001_1, .slice none 0 0, .string x223003_1, .int .i64 x223004_1] 36 (0, 0)) (twb BK222.out) hg (Kd.R_ne HO_222002.out BK222.out (by decide))); have n3_ := Az.mk ((by rw [hw]; exact below_set (HB.out) GB9.out : Below w0.heap.size w0 w16)); have n4_ := Az.mk (Kept.of_grown (S := (fun k_ => P0_2_ k_)) hg (by repeat (first | (with_reducible first | exact HK.out | apply Kept.alloc | apply Kept.drewN | apply Kept.drew | refine Kept.setCell ?_ (.inr GW221.out) _ | refine Kept.setCell ?_ (.inr GW222.out) _) | exact HK.out)) (fun k_ e_ => (HO_222002.out.1 k_ e_))); clear HO_222002; clear BK221; clear BK222; clear HB; clear HK; have HO_222002 := n0_; have BK221 := n1_; have BK222 := n2_; have HB := n3_; have HK := n4_; clear n0_ n1_ n2_ n3_ n4_; clear hg hw hp_))
      go_roundg k1
      case measure => have := HK1.out; omega
      case rel => exact ⟨(wrap64 (x5_1 + 1)), (y227), (x223000_1), (x223001_1), (x223003_1), (x223004_1), (.slice (some ⟨go9, 0, none⟩) x222002_1.length co12), (by first | rfl | (simp; done) | (simp [*]; done)), H', ⟨by have := HK1.out; omega⟩, ⟨twr HO_222002.out⟩, ⟨twb BK221.out⟩, ⟨twb BK222.out⟩, ⟨by repeat (first | (with_reducible first | exact HK.out | apply Kept.alloc | apply Kept.drewN | apply Kept.drew | refine Kept.setCell ?_ (.inr GW221.out) _ | refine Kept.setCell ?_ (.inr GW222.out) _) | exact HK.out)⟩, ⟨by repeat (first | (with_reducible first | exact HB.out | apply below_alloc | apply pw_below_drewN | apply below_drew1 | refine below_set ?_ GE221.out | refine below_set ?_ GE222.out) | exact HB.out)⟩⟩
     ·rw [if_neg c8] at H
      have c8b0 : (t226 == 0) = false := beq_eq_false_iff_ne.mpr c8
      have c8b1 : (t226 != 0) = true := bne_iff_ne.mpr c8
      simp only [Option.some.injEq, Prod.mk.injEq] at H
      obtain ⟨rfl, rfl, rfl, rfl, rfl, rfl, rfl⟩ := H
      have hnb17 := NB221_222.out
      have hnc17 := NB222_221.out
      have hcz18_0 : wr.cell? ⟨gb221, 0, none⟩ = some (.int .u8 a0_0) := (blk_cell BK221.out 0).trans rfl
      have hcz18_1 : wr.cell? ⟨gb221, 1, none⟩ = some (.string a0_1) := (blk_cell BK221.out 1).trans rfl
      have hcz18_2 : wr.cell? ⟨gb221, 2, none⟩ = some (u222002) := (blk_cell BK221.out 2).trans rfl
      have hcz18_3 : wr.cell? ⟨gb221, 3, none⟩ = some (.string a0_3) := (blk_cell BK221.out 3).trans rfl
      have hcz18_4 : wr.cell? ⟨gb221, 4, none⟩ = some (.int .i64 a0_4) := (blk_cell BK221.out 4).trans rfl
      have hfz18_0 := blk_frozen BK221.out 0
      have hfz18_1 := blk_frozen BK221.out 1
      have hfz18_2 := blk_frozen BK221.out 2
      have hfz18_3 := blk_frozen BK221.out 3
      have hfz18_4 := blk_frozen BK221.out 4
      obtain ⟨Ao19, co19, eo19⟩ := Kd.R_slice HO_222002.out
      subst eo19
      have p223 : 0 ≤ (x5_1 : Int) := of_decide_eq_true (by assumption)
      have q223 : x5_1 < (x222002_1.length : Int) := of_decide_eq_true (by assumption)
      obtain ⟨ad223, e223, hx223_0, hx223_1, hx223_2⟩ := at_T66 (Kd.R_reads' HO_222002.out).2.2 x5_1 p223 q223
      cases e223
      replace p223 := eq_true p223
      replace q223 := eq_true q223
      try go_wp2_with (first | ((with_reducible refine gate_callee (f := 18) rfl ?_); refine goesL_ (some 23) rfl rfl Tryz.func18 (by kernel_rfl) rfl #[.string ((rd_T66 x222002_1 x5_1).f1)] rfl (by (try simp only [List.map_toArray, List.map_cons, List.map_nil]); first | done | rfl | (simp only [List.length_drop, List.length_take]; rfl)) ?_; (with_reducible refine (r3_Decode.calls k1 ((rd_T66 x222002_1 x5_1).f1) t224 t225 t226 _ A7.out).mono ?_); rintro e w20 ⟨rfl, hb⟩; refine ⟨_, rfl, ?_⟩; have n0_ := Az.mk (Kd.R_below (twr HO_222002.out) hb); have n1_ := Az.mk (blk_below (g := gb221) (o := .cells #[.int .u8 a0_0, .string a0_1, .slice (some ad223) x222002_1.length co19, .string a0_3, .int .i64 a0_4] 36 (0, 0)) (twb BK221.out) hb); have n2_ := Az.mk (blk_below (g := gb222) (o := .cells #[.int .u8 x223000_1, .string x223001_1, .slice none 0 0, .string x223003_1, .int .i64 x223004_1] 36 (0, 0)) (twb BK222.out) hb); have n3_ := Az.mk (Kept.below (S := (fun k_ => P0_2_ k_)) (by repeat (first | (with_reducible first | exact HK.out | apply Kept.alloc | apply Kept.drewN | apply Kept.drew | refine Kept.setCell ?_ (.inr GW221.out) _ | refine Kept.setCell ?_ (.inr GW222.out) _) | exact HK.out)) hb); have n4_ := Az.mk (below_step (by repeat (first | (with_reducible first | exact HB.out | apply below_alloc | apply pw_below_drewN | apply below_drew1 | refine below_set ?_ GE221.out | refine below_set ?_ GE222.out) | exact HB.out)) hb); clear HO_222002; clear BK221; clear BK222; clear HK; clear HB; have HO_222002 := n0_; have BK221 := n1_; have BK222 := n2_; have HK := n3_; have HB := n4_; clear n0_ n1_ n2_ n3_ n4_; (try clear hb); (try clear hb2); (try clear hk); (try clear hi)))
      have n0_ := Az.mk (Kd.R_drew HO_222002.out)
      have n1_ := Az.mk (blk_drew BK221.out)
      have n2_ := Az.mk (blk_drew BK222.out)
      have n3_ := Az.mk (Kept.drew HK.out)
      have n4_ := Az.mk (below_drew1 HB.out)
      clear HO_222002
      clear BK221
      clear BK222
      clear HK
      clear HB
      have HO_222002 := n0_
      have BK221 := n1_
      have BK222 := n2_
      have HK := n3_
      have HB := n4_
      clear n0_ n1_ n2_ n3_ n4_
      have p228 : 0 ≤ (x5_1 : Int) := of_decide_eq_true (by assumption)
      have q228 : x5_1 < (x222002_1.length : Int) := of_decide_eq_true (by assumption)
      obtain ⟨ad228, e228, hx228_0, hx228_1, hx228_2⟩ := at_T66 (Kd.R_reads' HO_222002.out).2.2 x5_1 p228 q228
      obtain rfl : ad223 = ad228 := (by injection e228)
      replace p228 := eq_true p228
      replace q228 := eq_true q228
      refine start_ (n := 13) (S := fun w' => w'.cell? ⟨gb221, 0, none⟩ = some (.int .u8 a0_0) ∧ w'.cell? ⟨gb221, 1, none⟩ = some (.string a0_1) ∧ w'.cell? ⟨gb221, 2, none⟩ = some (.slice (some ad223) x222002_1.length co19) ∧ w'.cell? ⟨gb221, 3, none⟩ = some (.string a0_3) ∧ w'.cell? ⟨gb221, 4, none⟩ = some (.int .i64 a0_4) ∧ w'.cell? (ad223.add ((x5_1).toNat * 3)) = some (.string ((rd_T66 x222002_1 x5_1).f0)) ∧ w'.cell? ⟨(ad223.add ((x5_1).toNat * 3)).block, (ad223.add ((x5_1).toNat * 3)).off + 1, none⟩ = some (.string ((rd_T66 x222002_1 x5_1).f1)) ∧ w'.cell? ⟨(ad223.add ((x5_1).toNat * 3)).block, (ad223.add ((x5_1).toNat * 3)).off + 2, none⟩ = some (.int .i64 ((rd_T66 x222002_1 x5_1).f2))) (ds := []) #[false, false, false, false, false, false, false, false, false, false, false, false, false] (by kernel_rfl) rfl rfl ⟨(blk_cell BK221.out 0).trans rfl, (blk_cell BK221.out 1).trans rfl, (blk_cell BK221.out 2).trans rfl, (blk_cell BK221.out 3).trans rfl, (blk_cell BK221.out 4).trans rfl, hx228_0, hx228_1, hx228_2⟩ (fun hHeld => ?_); refine with_tabW r4_read.tab6 r4_read.bits6 (fun HT_ HW_ => ?_)
      generalize w20.drew = w21 at HO_222002 BK221 BK222 HK HB hx228_0 hx228_1 hx228_2 hHeld ⊢
      refine pure_ (i := 0) (N := some 29) (v := ?_) (a' := ?_) #[true, false, false, false, false, false, false, false, false, false, false, false, false] rfl rfl (any_of HT_.out (by kernel_rfl)) (fun _ _ _ h => h) (Or.inl ⟨by rfl, ?_⟩) ?_ ?_
      rotate_left
      ·intro w'
       go_simp
       with_reducible rfl
      rotate_left
      ·simp only [Act.put, List.setIfInBounds_toArray, List.set_cons_zero, List.set_cons_succ, i64_w, i32_w]
       rfl
      refine pure_ (i := 1) (N := some 30) (v := ?_) (a' := ?_) #[true, true, false, false, false, false, false, false, false, false, false, false, false] rfl rfl (any_of HT_.out (by kernel_rfl)) (fun _ _ _ h => h) (Or.inl ⟨by rfl, ?_⟩) ?_ ?_
      rotate_left
      ·intro w'
       go_simp
       with_reducible rfl
      rotate_left
      ·simp only [Act.put, List.setIfInBounds_toArray, List.set_cons_zero, List.set_cons_succ, i64_w, i32_w]
       rfl
      refine pure_ (i := 3) (N := some 32) (v := ?_) (a' := ?_) #[true, true, false, true, false, false, false, false, false, false, false, false, false] rfl rfl (any_of HT_.out (by kernel_rfl)) (fun _ _ _ h => h) (Or.inl ⟨by rfl, ?_⟩) ?_ ?_
      rotate_left
      ·intro w'
       go_simp
       with_reducible rfl
      rotate_left
      ·simp only [Act.put, List.setIfInBounds_toArray, List.set_cons_zero, List.set_cons_succ, i64_w, i32_w]
       rfl
      refine pure_ (i := 7) (N := some 36) (v := ?_) (a' := ?_) #[true, true, false, true, false, false, false, true, false, false, false, false, false] rfl rfl (any_of HT_.out (by kernel_rfl)) (fun _ _ _ h => h) (Or.inl ⟨by rfl, ?_⟩) ?_ ?_
      rotate_left
      ·intro w'
       go_simp
       with_reducible rfl
      rotate_left
      ·simp only [Act.put, List.setIfInBounds_toArray, List.set_cons_zero, List.set_cons_succ, i64_w, i32_w]
       rfl
      refine pure_ (i := 9) (N := some 38) (v := ?_) (a' := ?_) #[true, true, false, true, false, false, false, true, false, true, false, false, false] rfl rfl (any_of HT_.out (by kernel_rfl)) (fun _ _ _ h => h) (Or.inl ⟨by rfl, ?_⟩) ?_ ?_
      rotate_left
      ·intro w'
       go_simp
       with_reducible rfl
      rotate_left
      ·simp only [Act.put, List.setIfInBounds_toArray, List.set_cons_zero, List.set_cons_succ, i64_w, i32_w]
       rfl
      refine take_ (i := 2) (N := some 31) (v := ?_) (a' := ?_) #[true, true, true, true, false, false, false, true, false, true, false, false, false] rfl rfl (take_ofW HT_.out HW_.out (by kernel_rfl)) (fun _ _ _ h => h) (Or.inl ⟨by rfl, ?_⟩) hHeld ?_ ?_
      rotate_left
      ·rintro w' ⟨s0, s1, s2, s3, s4, s5, s6, s7⟩
       go_simp
       with_reducible rfl
      rotate_left
      ·simp only [Act.put, List.setIfInBounds_toArray, List.set_cons_zero, List.set_cons_succ, i64_w, i32_w]
       rfl
      refine pure_ (i := 4) (N := some 33) (v := ?_) (a' := ?_) #[true, true, true, true, true, false, false, true, false, true, false, false, false] rfl rfl (any_of HT_.out (by kernel_rfl)) (fun _ _ _ h => h) (Or.inl ⟨by rfl, ?_⟩) ?_ ?_
      rotate_left
      ·intro w'
       go_simp
       with_reducible rfl
      rotate_left
      ·simp only [Act.put, List.setIfInBounds_toArray, List.set_cons_zero, List.set_cons_succ, i64_w, i32_w]
       rfl
      refine pure_ (i := 5) (N := some 34) (v := ?_) (a' := ?_) #[true, true, true, true, true, true, false, true, false, true, false, false, false] rfl rfl (any_of HT_.out (by kernel_rfl)) (fun _ _ _ h => h) (Or.inl ⟨by rfl, ?_⟩) ?_ ?_
      rotate_left
      ·intro w'
       go_simp
       with_reducible rfl
      rotate_left
      ·simp only [Act.put, List.setIfInBounds_toArray, List.set_cons_zero, List.set_cons_succ, i64_w, i32_w]
       rfl
      refine take_ (i := 6) (N := some 35) (v := ?_) (a' := ?_) #[true, true, true, true, true, true, true, true, false, true, false, false, false] rfl rfl (take_ofW HT_.out HW_.out (by kernel_rfl)) (fun _ _ _ h => h) (Or.inl ⟨by rfl, ?_⟩) hHeld ?_ ?_
      rotate_left
      ·rintro w' ⟨s0, s1, s2, s3, s4, s5, s6, s7⟩
       go_simp
       with_reducible rfl
      rotate_left
      ·simp only [Act.put, List.setIfInBounds_toArray, List.set_cons_zero, List.set_cons_succ, i64_w, i32_w]
       rfl
      refine pure_ (i := 8) (N := some 37) (v := ?_) (a' := ?_) #[true, true, true, true, true, true, true, true, true, true, false, false, false] rfl rfl (any_of HT_.out (by kernel_rfl)) (fun _ _ _ h => h) (Or.inl ⟨by rfl, ?_⟩) ?_ ?_
      rotate_left
      ·intro w'
       go_simp
       with_reducible rfl
      rotate_left
      ·simp only [Act.put, List.setIfInBounds_toArray, List.set_cons_zero, List.set_cons_succ, i64_w, i32_w]
       rfl
      refine one_ (i := 10) (N := none) #[true, true, true, true, true, true, true, true, true, true, true, false, false] rfl rfl (one_of HT_.out (by kernel_rfl)) (by decide) (fun K hK => ?_)
      have hs22 : w21.cell? ⟨gb222, 0, none⟩ = some (.int .u8 x223000_1) := (blk_cell BK222.out 0).trans rfl
      have hfs22 := blk_frozen BK222.out 0
      have hns22_0 := NB221_222.out
      have hms22_0 := NB222_221.out
      have hs23 : w21.cell? ⟨gb222, 1, none⟩ = some (.string x223001_1) := (blk_cell BK222.out 1).trans rfl
      have hfs23 := blk_frozen BK222.out 1
      have hns23_0 := NB221_222.out
      have hms23_0 := NB222_221.out
      have hs24 : w21.cell? ⟨gb222, 2, none⟩ = some (.slice none 0 0) := (blk_cell BK222.out 2).trans rfl
      have hfs24 := blk_frozen BK222.out 2
      have hns24_0 := NB221_222.out
      have hms24_0 := NB222_221.out
      have hs25 : w21.cell? ⟨gb222, 3, none⟩ = some (.string x223003_1) := (blk_cell BK222.out 3).trans rfl
      have hfs25 := blk_frozen BK222.out 3
      have hns25_0 := NB221_222.out
      have hms25_0 := NB222_221.out
      have hs26 : w21.cell? ⟨gb222, 4, none⟩ = some (.int .i64 x223004_1) := (blk_cell BK222.out 4).trans rfl
      have hfs26 := blk_frozen BK222.out 4
      have hns26_0 := NB221_222.out
      have hms26_0 := NB222_221.out
      refine skip_ (w1 := ?_) (by rfl) rfl ?_ ?_
      rotate_left
      ·go_simp
       rfl
      refine hK.out _ _ ⟨((cell_far (p := ⟨gb222, _, none⟩) NB221_222.out _).trans (((cell_far (p := ⟨gb222, _, none⟩) NB221_222.out _).trans (((cell_far (p := ⟨gb222, _, none⟩) NB221_222.out _).trans (((cell_far (p := ⟨gb222, _, none⟩) NB221_222.out _).trans (((cell_far (p := ⟨gb222, _, none⟩) NB221_222.out _).trans (hHeld.1)))))))))), ((cell_far (p := ⟨gb222, _, none⟩) NB221_222.out _).trans (((cell_far (p := ⟨gb222, _, none⟩) NB221_222.out _).trans (((cell_far (p := ⟨gb222, _, none⟩) NB221_222.out _).trans (((cell_far (p := ⟨gb222, _, none⟩) NB221_222.out _).trans (((cell_far (p := ⟨gb222, _, none⟩) NB221_222.out _).trans (hHeld.2.1)))))))))), ((cell_far (p := ⟨gb222, _, none⟩) NB221_222.out _).trans (((cell_far (p := ⟨gb222, _, none⟩) NB221_222.out _).trans (((cell_far (p := ⟨gb222, _, none⟩) NB221_222.out _).trans (((cell_far (p := ⟨gb222, _, none⟩) NB221_222.out _).trans (((cell_far (p := ⟨gb222, _, none⟩) NB221_222.out _).trans (hHeld.2.2.1)))))))))), ((cell_far (p := ⟨gb222, _, none⟩) NB221_222.out _).trans (((cell_far (p := ⟨gb222, _, none⟩) NB221_222.out _).trans (((cell_far (p := ⟨gb222, _, none⟩) NB221_222.out _).trans (((cell_far (p := ⟨gb222, _, none⟩) NB221_222.out _).trans (((cell_far (p := ⟨gb222, _, none⟩) NB221_222.out _).trans (hHeld.2.2.2.1)))))))))), ((cell_far (p := ⟨gb222, _, none⟩) NB221_222.out _).trans (((cell_far (p := ⟨gb222, _, none⟩) NB221_222.out _).trans (((cell_far (p := ⟨gb222, _, none⟩) NB221_222.out _).trans (((cell_far (p := ⟨gb222, _, none⟩) NB221_222.out _).trans (((cell_far (p := ⟨gb222, _, none⟩) NB221_222.out _).trans (hHeld.2.2.2.2.1)))))))))), ((cell_far (p := ⟨gb222, _, none⟩) (by first | exact Kd.own_blk (Kd.R_ne HO_222002.out BK222.out (by decide)) | (rw [add_block]; exact Kd.own_blk (Kd.R_ne HO_222002.out BK222.out (by decide))) | (show (Addr.add _ _).block ≠ _; rw [add_block]; exact Kd.own_blk (Kd.R_ne HO_222002.out BK222.out (by decide))) | (dsimp only; exact Kd.own_blk (Kd.R_ne HO_222002.out BK222.out (by decide)))) _).trans (((cell_far (p := ⟨gb222, _, none⟩) (by first | exact Kd.own_blk (Kd.R_ne HO_222002.out BK222.out (by decide)) | (rw [add_block]; exact Kd.own_blk (Kd.R_ne HO_222002.out BK222.out (by decide))) | (show (Addr.add _ _).block ≠ _; rw [add_block]; exact Kd.own_blk (Kd.R_ne HO_222002.out BK222.out (by decide))) | (dsimp only; exact Kd.own_blk (Kd.R_ne HO_222002.out BK222.out (by decide)))) _).trans (((cell_far (p := ⟨gb222, _, none⟩) (by first | exact Kd.own_blk (Kd.R_ne HO_222002.out BK222.out (by decide)) | (rw [add_block]; exact Kd.own_blk (Kd.R_ne HO_222002.out BK222.out (by decide))) | (show (Addr.add _ _).block ≠ _; rw [add_block]; exact Kd.own_blk (Kd.R_ne HO_222002.out BK222.out (by decide))) | (dsimp only; exact Kd.own_blk (Kd.R_ne HO_222002.out BK222.out (by decide)))) _).trans (((cell_far (p := ⟨gb222, _, none⟩) (by first | exact Kd.own_blk (Kd.R_ne HO_222002.out BK222.out (by decide)) | (rw [add_block]; exact Kd.own_blk (Kd.R_ne HO_222002.out BK222.out (by decide))) | (show (Addr.add _ _).block ≠ _; rw [add_block]; exact Kd.own_blk (Kd.R_ne HO_222002.out BK222.out (by decide))) | (dsimp only; exact Kd.own_blk (Kd.R_ne HO_222002.out BK222.out (by decide)))) _).trans (((cell_far (p := ⟨gb222, _, none⟩) (by first | exact Kd.own_blk (Kd.R_ne HO_222002.out BK222.out (by decide)) | (rw [add_block]; exact Kd.own_blk (Kd.R_ne HO_222002.out BK222.out (by decide))) | (show (Addr.add _ _).block ≠ _; rw [add_block]; exact Kd.own_blk (Kd.R_ne HO_222002.out BK222.out (by decide))) | (dsimp only; exact Kd.own_blk (Kd.R_ne HO_222002.out BK222.out (by decide)))) _).trans (hHeld.2.2.2.2.2.1)))))))))), ((cell_far (p := ⟨gb222, _, none⟩) (by first | exact Kd.own_blk (Kd.R_ne HO_222002.out BK222.out (by decide)) | (rw [add_block]; exact Kd.own_blk (Kd.R_ne HO_222002.out BK222.out (by decide))) | (show (Addr.add _ _).block ≠ _; rw [add_block]; exact Kd.own_blk (Kd.R_ne HO_222002.out BK222.out (by decide))) | (dsimp only; exact Kd.own_blk (Kd.R_ne HO_222002.out BK222.out (by decide)))) _).trans (((cell_far (p := ⟨gb222, _, none⟩) (by first | exact Kd.own_blk (Kd.R_ne HO_222002.out BK222.out (by decide)) | (rw [add_block]; exact Kd.own_blk (Kd.R_ne HO_222002.out BK222.out (by decide))) | (show (Addr.add _ _).block ≠ _; rw [add_block]; exact Kd.own_blk (Kd.R_ne HO_222002.out BK222.out (by decide))) | (dsimp only; exact Kd.own_blk (Kd.R_ne HO_222002.out BK222.out (by decide)))) _).trans (((cell_far (p := ⟨gb222, _, none⟩) (by first | exact Kd.own_blk (Kd.R_ne HO_222002.out BK222.out (by decide)) | (rw [add_block]; exact Kd.own_blk (Kd.R_ne HO_222002.out BK222.out (by decide))) | (show (Addr.add _ _).block ≠ _; rw [add_block]; exact Kd.own_blk (Kd.R_ne HO_222002.out BK222.out (by decide))) | (dsimp only; exact Kd.own_blk (Kd.R_ne HO_222002.out BK222.out (by decide)))) _).trans (((cell_far (p := ⟨gb222, _, none⟩) (by first | exact Kd.own_blk (Kd.R_ne HO_222002.out BK222.out (by decide)) | (rw [add_block]; exact Kd.own_blk (Kd.R_ne HO_222002.out BK222.out (by decide))) | (show (Addr.add _ _).block ≠ _; rw [add_block]; exact Kd.own_blk (Kd.R_ne HO_222002.out BK222.out (by decide))) | (dsimp only; exact Kd.own_blk (Kd.R_ne HO_222002.out BK222.out (by decide)))) _).trans (((cell_far (p := ⟨gb222, _, none⟩) (by first | exact Kd.own_blk (Kd.R_ne HO_222002.out BK222.out (by decide)) | (rw [add_block]; exact Kd.own_blk (Kd.R_ne HO_222002.out BK222.out (by decide))) | (show (Addr.add _ _).block ≠ _; rw [add_block]; exact Kd.own_blk (Kd.R_ne HO_222002.out BK222.out (by decide))) | (dsimp only; exact Kd.own_blk (Kd.R_ne HO_222002.out BK222.out (by decide)))) _).trans (hHeld.2.2.2.2.2.2.1)))))))))), ((cell_far (p := ⟨gb222, _, none⟩) (by first | exact Kd.own_blk (Kd.R_ne HO_222002.out BK222.out (by decide)) | (rw [add_block]; exact Kd.own_blk (Kd.R_ne HO_222002.out BK222.out (by decide))) | (show (Addr.add _ _).block ≠ _; rw [add_block]; exact Kd.own_blk (Kd.R_ne HO_222002.out BK222.out (by decide))) | (dsimp only; exact Kd.own_blk (Kd.R_ne HO_222002.out BK222.out (by decide)))) _).trans (((cell_far (p := ⟨gb222, _, none⟩) (by first | exact Kd.own_blk (Kd.R_ne HO_222002.out BK222.out (by decide)) | (rw [add_block]; exact Kd.own_blk (Kd.R_ne HO_222002.out BK222.out (by decide))) | (show (Addr.add _ _).block ≠ _; rw [add_block]; exact Kd.own_blk (Kd.R_ne HO_222002.out BK222.out (by decide))) | (dsimp only; exact Kd.own_blk (Kd.R_ne HO_222002.out BK222.out (by decide)))) _).trans (((cell_far (p := ⟨gb222, _, none⟩) (by first | exact Kd.own_blk (Kd.R_ne HO_222002.out BK222.out (by decide)) | (rw [add_block]; exact Kd.own_blk (Kd.R_ne HO_222002.out BK222.out (by decide))) | (show (Addr.add _ _).block ≠ _; rw [add_block]; exact Kd.own_blk (Kd.R_ne HO_222002.out BK222.out (by decide))) | (dsimp only; exact Kd.own_blk (Kd.R_ne HO_222002.out BK222.out (by decide)))) _).trans (((cell_far (p := ⟨gb222, _, none⟩) (by first | exact Kd.own_blk (Kd.R_ne HO_222002.out BK222.out (by decide)) | (rw [add_block]; exact Kd.own_blk (Kd.R_ne HO_222002.out BK222.out (by decide))) | (show (Addr.add _ _).block ≠ _; rw [add_block]; exact Kd.own_blk (Kd.R_ne HO_222002.out BK222.out (by decide))) | (dsimp only; exact Kd.own_blk (Kd.R_ne HO_222002.out BK222.out (by decide)))) _).trans (((cell_far (p := ⟨gb222, _, none⟩) (by first | exact Kd.own_blk (Kd.R_ne HO_222002.out BK222.out (by decide)) | (rw [add_block]; exact Kd.own_blk (Kd.R_ne HO_222002.out BK222.out (by decide))) | (show (Addr.add _ _).block ≠ _; rw [add_block]; exact Kd.own_blk (Kd.R_ne HO_222002.out BK222.out (by decide))) | (dsimp only; exact Kd.own_blk (Kd.R_ne HO_222002.out BK222.out (by decide)))) _).trans (hHeld.2.2.2.2.2.2.2))))))))))⟩ (fun hHeld => ?_)
      clear hK K
      refine pure_ (i := 11) (N := some 3) (v := ?_) (a' := ?_) #[true, true, true, true, true, true, true, true, true, true, true, true, false] rfl rfl (any_of HT_.out (by kernel_rfl)) (fun _ _ _ h => h) (Or.inl ⟨by rfl, ?_⟩) ?_ ?_
      rotate_left
      ·intro w'
       go_simp
       with_reducible rfl
      rotate_left
      ·simp only [Act.put, List.setIfInBounds_toArray, List.set_cons_zero, List.set_cons_succ, i64_w, i32_w]
       rfl
      refine pure_ (i := 12) (N := some 4) (v := ?_) (a' := ?_) #[true, true, true, true, true, true, true, true, true, true, true, true, true] rfl rfl (any_of HT_.out (by kernel_rfl)) (fun _ _ _ h => h) (Or.inl ⟨by rfl, ?_⟩) ?_ ?_
      rotate_left
      ·intro w'
       go_simp
       with_reducible rfl
      rotate_left
      ·simp only [Act.put, List.setIfInBounds_toArray, List.set_cons_zero, List.set_cons_succ, i64_w, i32_w]
       rfl
      refine done_ (done_of HT_.out (by kernel_rfl)) ?_
      try go_wp2
      refine bodyPost_ret (results_ctt rfl _ _ gb222 36 #[.int .u8 0, .string (⟨#[]⟩ : ByteArray), .slice none 0 0, .string (⟨#[]⟩ : ByteArray), .int .i64 0] (0, 0) _ rfl (by (with_reducible repeat (first | refine blk_drewN ?_ _ | refine blk_drew ?_ | refine blk_alloc ?_ _)); refine blk_put (cs := #[.int .u8 0, .string (⟨#[]⟩ : ByteArray), .slice none 0 0, .string (⟨#[]⟩ : ByteArray), .int .i64 x223004_1]) ?_ 4 _ rfl; (with_reducible repeat (first | refine blk_drewN ?_ _ | refine blk_drew ?_ | refine blk_alloc ?_ _)); refine blk_put (cs := #[.int .u8 0, .string (⟨#[]⟩ : ByteArray), .slice none 0 0, .string x223003_1, .int .i64 x223004_1]) ?_ 3 _ rfl; (with_reducible repeat (first | refine blk_drewN ?_ _ | refine blk_drew ?_ | refine blk_alloc ?_ _)); refine blk_put (cs := #[.int .u8 0, .string (⟨#[]⟩ : ByteArray), .slice none 0 0, .string x223003_1, .int .i64 x223004_1]) ?_ 2 _ rfl; (with_reducible repeat (first | refine blk_drewN ?_ _ | refine blk_drew ?_ | refine blk_alloc ?_ _)); refine blk_put (cs := #[.int .u8 0, .string x223001_1, .slice none 0 0, .string x223003_1, .int .i64 x223004_1]) ?_ 1 _ rfl; (with_reducible repeat (first | refine blk_drewN ?_ _ | refine blk_drew ?_ | refine blk_alloc ?_ _)); refine blk_put (cs := #[.int .u8 x223000_1, .string x223001_1, .slice none 0 0, .string x223003_1, .int .i64 x223004_1]) ?_ 0 _ rfl; (with_reducible repeat (first | refine blk_drewN ?_ _ | refine blk_drew ?_ | refine blk_alloc ?_ _)); exact BK222.out) Tryz.underlying36 rfl (by kernel_rfl)) rfl ?_
      exact ⟨_, by first | rfl | (simp [errW_none, errW_some] <;> rfl) | (simp [*, errW_none, errW_some] <;> rfl), by first | exact Kd.R_nil _ _ _ _ _ | exact Kd.N_nil _ _ _ _ _ | exact Kd.V_nil _ _ _ _ _ | exact Kd.Q_nil _ _ _ _ _ | exact Kd.S_nil _ _ _ _ _, by repeat (first | (with_reducible first | exact HB.out | apply below_alloc | apply pw_below_drewN | apply below_drew1 | refine below_set ?_ GE221.out | refine below_set ?_ GE222.out) | exact HB.out), by repeat (first | (with_reducible first | exact HK.out | apply Kept.alloc | apply Kept.drewN | apply Kept.drew | refine Kept.setCell ?_ (.inr GW221.out) _ | refine Kept.setCell ?_ (.inr GW222.out) _) | exact HK.out)⟩
    ·rw [if_neg c6] at H
     exact absurd H (by simp)
   ·rw [if_neg c5] at H
    have c5b0 : decide (x5_1 < (x222002_1.length : Int)) = false := decide_eq_false c5
    clear c5
    by_cases c27 : (x222002_1.length : Int) > 32
    ·rw [if_pos c27] at H
     have c27b0 : decide (32 < (x222002_1.length : Int)) = true := decide_eq_true c27
     have c27b1 : decide (32 < x222002_1.length) = true := decide_eq_true (by omega)
     clear c27
     simp only [Option.some.injEq, Prod.mk.injEq] at H
     obtain ⟨rfl, rfl, rfl, rfl, rfl, rfl, rfl⟩ := H
     have hnb28 := NB221_222.out
     have hnc28 := NB222_221.out
     have hcz29_0 : wr.cell? ⟨gb221, 0, none⟩ = some (.int .u8 a0_0) := (blk_cell BK221.out 0).trans rfl
     have hcz29_1 : wr.cell? ⟨gb221, 1, none⟩ = some (.string a0_1) := (blk_cell BK221.out 1).trans rfl
     have hcz29_2 : wr.cell? ⟨gb221, 2, none⟩ = some (u222002) := (blk_cell BK221.out 2).trans rfl
     have hcz29_3 : wr.cell? ⟨gb221, 3, none⟩ = some (.string a0_3) := (blk_cell BK221.out 3).trans rfl
     have hcz29_4 : wr.cell? ⟨gb221, 4, none⟩ = some (.int .i64 a0_4) := (blk_cell BK221.out 4).trans rfl
     have hfz29_0 := blk_frozen BK221.out 0
     have hfz29_1 := blk_frozen BK221.out 1
     have hfz29_2 := blk_frozen BK221.out 2
     have hfz29_3 := blk_frozen BK221.out 3
     have hfz29_4 := blk_frozen BK221.out 4
     obtain ⟨Ao30, co30, eo30⟩ := Kd.R_slice HO_222002.out
     subst eo30
     try go_wp2
     have n0_ := Az.mk (Kd.R_drew HO_222002.out)
     have n1_ := Az.mk (blk_drew BK221.out)
     have n2_ := Az.mk (blk_drew BK222.out)
     have n3_ := Az.mk (Kept.drew HK.out)
     have n4_ := Az.mk (below_drew1 HB.out)
     clear HO_222002
     clear BK221
     clear BK222
     clear HK
     clear HB
     have HO_222002 := n0_
     have BK221 := n1_
     have BK222 := n2_
     have HK := n3_
     have HB := n4_
     clear n0_ n1_ n2_ n3_ n4_
     refine start_ (n := 6) (S := fun w' => w'.cell? ⟨gb221, 0, none⟩ = some (.int .u8 a0_0) ∧ w'.cell? ⟨gb221, 1, none⟩ = some (.string a0_1) ∧ w'.cell? ⟨gb221, 2, none⟩ = some (.slice Ao30 x222002_1.length co30) ∧ w'.cell? ⟨gb221, 3, none⟩ = some (.string a0_3) ∧ w'.cell? ⟨gb221, 4, none⟩ = some (.int .i64 a0_4)) (ds := []) #[false, false, false, false, false, false] (by kernel_rfl) rfl rfl ⟨(blk_cell BK221.out 0).trans rfl, (blk_cell BK221.out 1).trans rfl, (blk_cell BK221.out 2).trans rfl, (blk_cell BK221.out 3).trans rfl, (blk_cell BK221.out 4).trans rfl⟩ (fun hHeld => ?_)
     generalize wr.drew = w31 at HO_222002 BK221 BK222 HK HB hHeld ⊢
     refine pure_ (i := 0) (N := some 49) (v := ?_) (a' := ?_) #[true, false, false, false, false, false] rfl rfl (by kernel_rfl) (fun _ _ _ h => h) (Or.inl ⟨by rfl, ?_⟩) ?_ ?_
     rotate_left
     ·intro w'
      go_simp
      with_reducible rfl
     rotate_left
     ·simp only [Act.put, List.setIfInBounds_toArray, List.set_cons_zero, List.set_cons_succ, i64_w, i32_w]
      rfl
     refine pure_ (i := 1) (N := some 50) (v := ?_) (a' := ?_) #[true, true, false, false, false, false] rfl rfl (by kernel_rfl) (fun _ _ _ h => h) (Or.inl ⟨by rfl, ?_⟩) ?_ ?_
     rotate_left
     ·intro w'
      go_simp
      with_reducible rfl
     rotate_left
     ·simp only [Act.put, List.setIfInBounds_toArray, List.set_cons_zero, List.set_cons_succ, i64_w, i32_w]
      rfl
     refine take_ (i := 2) (N := some 51) (v := ?_) (a' := ?_) #[true, true, true, false, false, false] rfl rfl (by kernel_rfl) (fun _ _ _ h => h) (Or.inl ⟨by rfl, ?_⟩) hHeld ?_ ?_
     rotate_left
     ·rintro w' ⟨s0, s1, s2, s3, s4⟩
      go_simp
      with_reducible rfl
     rotate_left
     ·simp only [Act.put, List.setIfInBounds_toArray, List.set_cons_zero, List.set_cons_succ, i64_w, i32_w]
      rfl
     refine one_ (i := 3) (N := none) #[true, true, true, true, false, false] rfl rfl (by kernel_rfl) (by decide) (fun K hK => ?_)
     have hs32 : w31.cell? ⟨gb222, 0, none⟩ = some (.int .u8 x223000_1) := (blk_cell BK222.out 0).trans rfl
     have hfs32 := blk_frozen BK222.out 0
     have hns32_0 := NB221_222.out
     have hms32_0 := NB222_221.out
     have hs33 : w31.cell? ⟨gb222, 1, none⟩ = some (.string x223001_1) := (blk_cell BK222.out 1).trans rfl
     have hfs33 := blk_frozen BK222.out 1
     have hns33_0 := NB221_222.out
     have hms33_0 := NB222_221.out
     have hs34 : w31.cell? ⟨gb222, 2, none⟩ = some (.slice none 0 0) := (blk_cell BK222.out 2).trans rfl
     have hfs34 := blk_frozen BK222.out 2
     have hns34_0 := NB221_222.out
     have hms34_0 := NB222_221.out
     have hs35 : w31.cell? ⟨gb222, 3, none⟩ = some (.string x223003_1) := (blk_cell BK222.out 3).trans rfl
     have hfs35 := blk_frozen BK222.out 3
     have hns35_0 := NB221_222.out
     have hms35_0 := NB222_221.out
     have hs36 : w31.cell? ⟨gb222, 4, none⟩ = some (.int .i64 x223004_1) := (blk_cell BK222.out 4).trans rfl
     have hfs36 := blk_frozen BK222.out 4
     have hns36_0 := NB221_222.out
     have hms36_0 := NB222_221.out
     refine skip_ (w1 := ?_) (by rfl) rfl ?_ ?_
     rotate_left
     ·go_simp
      rfl
     refine hK.out _ _ ⟨((cell_far (p := ⟨gb222, _, none⟩) NB221_222.out _).trans (((cell_far (p := ⟨gb222, _, none⟩) NB221_222.out _).trans (((cell_far (p := ⟨gb222, _, none⟩) NB221_222.out _).trans (((cell_far (p := ⟨gb222, _, none⟩) NB221_222.out _).trans (((cell_far (p := ⟨gb222, _, none⟩) NB221_222.out _).trans (hHeld.1)))))))))), ((cell_far (p := ⟨gb222, _, none⟩) NB221_222.out _).trans (((cell_far (p := ⟨gb222, _, none⟩) NB221_222.out _).trans (((cell_far (p := ⟨gb222, _, none⟩) NB221_222.out _).trans (((cell_far (p := ⟨gb222, _, none⟩) NB221_222.out _).trans (((cell_far (p := ⟨gb222, _, none⟩) NB221_222.out _).trans (hHeld.2.1)))))))))), ((cell_far (p := ⟨gb222, _, none⟩) NB221_222.out _).trans (((cell_far (p := ⟨gb222, _, none⟩) NB221_222.out _).trans (((cell_far (p := ⟨gb222, _, none⟩) NB221_222.out _).trans (((cell_far (p := ⟨gb222, _, none⟩) NB221_222.out _).trans (((cell_far (p := ⟨gb222, _, none⟩) NB221_222.out _).trans (hHeld.2.2.1)))))))))), ((cell_far (p := ⟨gb222, _, none⟩) NB221_222.out _).trans (((cell_far (p := ⟨gb222, _, none⟩) NB221_222.out _).trans (((cell_far (p := ⟨gb222, _, none⟩) NB221_222.out _).trans (((cell_far (p := ⟨gb222, _, none⟩) NB221_222.out _).trans (((cell_far (p := ⟨gb222, _, none⟩) NB221_222.out _).trans (hHeld.2.2.2.1)))))))))), ((cell_far (p := ⟨gb222, _, none⟩) NB221_222.out _).trans (((cell_far (p := ⟨gb222, _, none⟩) NB221_222.out _).trans (((cell_far (p := ⟨gb222, _, none⟩) NB221_222.out _).trans (((cell_far (p := ⟨gb222, _, none⟩) NB221_222.out _).trans (((cell_far (p := ⟨gb222, _, none⟩) NB221_222.out _).trans (hHeld.2.2.2.2))))))))))⟩ (fun hHeld => ?_)
     clear hK K
     refine pure_ (i := 4) (N := some 3) (v := ?_) (a' := ?_) #[true, true, true, true, true, false] rfl rfl (by kernel_rfl) (fun _ _ _ h => h) (Or.inl ⟨by rfl, ?_⟩) ?_ ?_
     rotate_left
     ·intro w'
      go_simp
      with_reducible rfl
     rotate_left
     ·simp only [Act.put, List.setIfInBounds_toArray, List.set_cons_zero, List.set_cons_succ, i64_w, i32_w]
      rfl
     refine pure_ (i := 5) (N := some 4) (v := ?_) (a' := ?_) #[true, true, true, true, true, true] rfl rfl (by kernel_rfl) (fun _ _ _ h => h) (Or.inl ⟨by rfl, ?_⟩) ?_ ?_
     rotate_left
     ·intro w'
      go_simp
      with_reducible rfl
     rotate_left
     ·simp only [Act.put, List.setIfInBounds_toArray, List.set_cons_zero, List.set_cons_succ, i64_w, i32_w]
      rfl
     refine done_ (by kernel_rfl) ?_
     try go_wp2
     refine bodyPost_ret (results_ctt rfl _ _ gb222 36 #[.int .u8 0, .string (⟨#[]⟩ : ByteArray), .slice none 0 0, .string (⟨#[]⟩ : ByteArray), .int .i64 0] (0, 0) _ rfl (by (with_reducible repeat (first | refine blk_drewN ?_ _ | refine blk_drew ?_ | refine blk_alloc ?_ _)); refine blk_put (cs := #[.int .u8 0, .string (⟨#[]⟩ : ByteArray), .slice none 0 0, .string (⟨#[]⟩ : ByteArray), .int .i64 x223004_1]) ?_ 4 _ rfl; (with_reducible repeat (first | refine blk_drewN ?_ _ | refine blk_drew ?_ | refine blk_alloc ?_ _)); refine blk_put (cs := #[.int .u8 0, .string (⟨#[]⟩ : ByteArray), .slice none 0 0, .string x223003_1, .int .i64 x223004_1]) ?_ 3 _ rfl; (with_reducible repeat (first | refine blk_drewN ?_ _ | refine blk_drew ?_ | refine blk_alloc ?_ _)); refine blk_put (cs := #[.int .u8 0, .string (⟨#[]⟩ : ByteArray), .slice none 0 0, .string x223003_1, .int .i64 x223004_1]) ?_ 2 _ rfl; (with_reducible repeat (first | refine blk_drewN ?_ _ | refine blk_drew ?_ | refine blk_alloc ?_ _)); refine blk_put (cs := #[.int .u8 0, .string x223001_1, .slice none 0 0, .string x223003_1, .int .i64 x223004_1]) ?_ 1 _ rfl; (with_reducible repeat (first | refine blk_drewN ?_ _ | refine blk_drew ?_ | refine blk_alloc ?_ _)); refine blk_put (cs := #[.int .u8 x223000_1, .string x223001_1, .slice none 0 0, .string x223003_1, .int .i64 x223004_1]) ?_ 0 _ rfl; (with_reducible repeat (first | refine blk_drewN ?_ _ | refine blk_drew ?_ | refine blk_alloc ?_ _)); exact BK222.out) Tryz.underlying36 rfl (by kernel_rfl)) rfl ?_
     exact ⟨_, by first | rfl | (simp [errW_none, errW_some] <;> rfl) | (simp [*, errW_none, errW_some] <;> rfl), by first | exact Kd.R_nil _ _ _ _ _ | exact Kd.N_nil _ _ _ _ _ | exact Kd.V_nil _ _ _ _ _ | exact Kd.Q_nil _ _ _ _ _ | exact Kd.S_nil _ _ _ _ _, by repeat (first | (with_reducible first | exact HB.out | apply below_alloc | apply pw_below_drewN | apply below_drew1 | refine below_set ?_ GE221.out | refine below_set ?_ GE222.out) | exact HB.out), by repeat (first | (with_reducible first | exact HK.out | apply Kept.alloc | apply Kept.drewN | apply Kept.drew | refine Kept.setCell ?_ (.inr GW221.out) _ | refine Kept.setCell ?_ (.inr GW222.out) _) | exact HK.out)⟩
    ·rw [if_neg c27] at H
     have c27b0 : decide (32 < (x222002_1.length : Int)) = false := decide_eq_false c27
     have c27b1 : decide (32 < x222002_1.length) = false := decide_eq_false (by omega)
     clear c27
     simp only [Option.some.injEq, Prod.mk.injEq] at H
     obtain ⟨rfl, rfl, rfl, rfl, rfl, rfl, rfl⟩ := H
     have hnb37 := NB221_222.out
     have hnc37 := NB222_221.out
     have hcz38_0 : wr.cell? ⟨gb221, 0, none⟩ = some (.int .u8 a0_0) := (blk_cell BK221.out 0).trans rfl
     have hcz38_1 : wr.cell? ⟨gb221, 1, none⟩ = some (.string a0_1) := (blk_cell BK221.out 1).trans rfl
     have hcz38_2 : wr.cell? ⟨gb221, 2, none⟩ = some (u222002) := (blk_cell BK221.out 2).trans rfl
     have hcz38_3 : wr.cell? ⟨gb221, 3, none⟩ = some (.string a0_3) := (blk_cell BK221.out 3).trans rfl
     have hcz38_4 : wr.cell? ⟨gb221, 4, none⟩ = some (.int .i64 a0_4) := (blk_cell BK221.out 4).trans rfl
     have hfz38_0 := blk_frozen BK221.out 0
     have hfz38_1 := blk_frozen BK221.out 1
     have hfz38_2 := blk_frozen BK221.out 2
     have hfz38_3 := blk_frozen BK221.out 3
     have hfz38_4 := blk_frozen BK221.out 4
     obtain ⟨Ao39, co39, eo39⟩ := Kd.R_slice HO_222002.out
     subst eo39
     have hcz40_0 : wr.cell? ⟨gb222, 0, none⟩ = some (.int .u8 x223000_1) := (blk_cell BK222.out 0).trans rfl
     have hcz40_1 : wr.cell? ⟨gb222, 1, none⟩ = some (.string x223001_1) := (blk_cell BK222.out 1).trans rfl
     have hcz40_2 : wr.cell? ⟨gb222, 2, none⟩ = some (.slice none 0 0) := (blk_cell BK222.out 2).trans rfl
     have hcz40_3 : wr.cell? ⟨gb222, 3, none⟩ = some (.string x223003_1) := (blk_cell BK222.out 3).trans rfl
     have hcz40_4 : wr.cell? ⟨gb222, 4, none⟩ = some (.int .i64 x223004_1) := (blk_cell BK222.out 4).trans rfl
     have hfz40_0 := blk_frozen BK222.out 0
     have hfz40_1 := blk_frozen BK222.out 1
     have hfz40_2 := blk_frozen BK222.out 2
     have hfz40_3 := blk_frozen BK222.out 3
     have hfz40_4 := blk_frozen BK222.out 4
     go_wp2
     refine bodyPost_ret (results_ctt rfl _ _ gb222 36 #[.int .u8 a0_0, .string a0_1, .slice Ao39 x222002_1.length co39, .string a0_3, .int .i64 a0_4] (0, 0) _ rfl (by (with_reducible repeat (first | refine blk_drewN ?_ _ | refine blk_drew ?_ | refine blk_alloc ?_ _)); refine blk_put (cs := #[.int .u8 a0_0, .string a0_1, .slice Ao39 x222002_1.length co39, .string a0_3, .int .i64 x223004_1]) ?_ 4 _ rfl; (with_reducible repeat (first | refine blk_drewN ?_ _ | refine blk_drew ?_ | refine blk_alloc ?_ _)); refine blk_put (cs := #[.int .u8 a0_0, .string a0_1, .slice Ao39 x222002_1.length co39, .string x223003_1, .int .i64 x223004_1]) ?_ 3 _ rfl; (with_reducible repeat (first | refine blk_drewN ?_ _ | refine blk_drew ?_ | refine blk_alloc ?_ _)); refine blk_put (cs := #[.int .u8 a0_0, .string a0_1, .slice none 0 0, .string x223003_1, .int .i64 x223004_1]) ?_ 2 _ rfl; (with_reducible repeat (first | refine blk_drewN ?_ _ | refine blk_drew ?_ | refine blk_alloc ?_ _)); refine blk_put (cs := #[.int .u8 a0_0, .string x223001_1, .slice none 0 0, .string x223003_1, .int .i64 x223004_1]) ?_ 1 _ rfl; (with_reducible repeat (first | refine blk_drewN ?_ _ | refine blk_drew ?_ | refine blk_alloc ?_ _)); refine blk_put (cs := #[.int .u8 x223000_1, .string x223001_1, .slice none 0 0, .string x223003_1, .int .i64 x223004_1]) ?_ 0 _ rfl; (with_reducible repeat (first | refine blk_drewN ?_ _ | refine blk_drew ?_ | refine blk_alloc ?_ _)); exact BK222.out) Tryz.underlying36 rfl (by kernel_rfl)) rfl ?_
     exact ⟨_, by first | rfl | (simp [errW_none, errW_some] <;> rfl) | (simp [*, errW_none, errW_some] <;> rfl), by (with_reducible repeat (first | apply Kd.R_alloc | apply Kd.R_drewN | apply Kd.R_drew)); exact Kd.R_mono (Kd.R_far (p := ⟨gb222, 4, none⟩) (Kd.R_far (p := ⟨gb222, 3, none⟩) (Kd.R_far (p := ⟨gb222, 2, none⟩) (Kd.R_far (p := ⟨gb222, 1, none⟩) (Kd.R_far (p := ⟨gb222, 0, none⟩) (Kd.R_types HO_222002.out BK222.out (by decide)) (fun _ hk => hk.2) (.int .u8 a0_0)) (fun _ hk => hk.2) (.string a0_1)) (fun _ hk => hk.2) (.slice Ao39 x222002_1.length co39)) (fun _ hk => hk.2) (.string a0_3)) (fun _ hk => hk.2) (.int .i64 a0_4)) (fun _ hk => hk.1), by repeat (first | (with_reducible first | exact HB.out | apply below_alloc | apply pw_below_drewN | apply below_drew1 | refine below_set ?_ GE221.out | refine below_set ?_ GE222.out) | exact HB.out), by repeat (first | (with_reducible first | exact HK.out | apply Kept.alloc | apply Kept.drewN | apply Kept.drew | refine Kept.setCell ?_ (.inr GW221.out) _ | refine Kept.setCell ?_ (.inr GW222.out) _) | exact HK.out)⟩
def r4_Tokens.l0 : Nat → ByteArray → List (S36) → Int → Option ((List (S36)) × Int × Int)
 | 0, _, _, _ => none
 | k + 1, x0, x7, x8 => if x8 < (x0.size : Int) then (if 0 ≤ x8 then (if (bt x0 x8) = 60 then ((r4_remark.f k x0 x8).bind fun t244 => (if t244 > 0 then (r4_Tokens.l0 k x0 x7 (wrap64 (x8 + t244))) else ((r4_tag.f k x0 x8).bind fun bt245 => (if bt245.2.2.2.2.2 = 0 then (some (([] : List (S36)), x8, 40)) else ((r4_read.f k bt245.1 bt245.2.1 bt245.2.2.1 bt245.2.2.2.1 bt245.2.2.2.2.1).bind fun bt254 => (if bt254.2.2.2.2.2.2 = 0 then (if x7.length < 1954687338268 then (r4_Tokens.l0 k x0 (x7 ++ [(⟨bt254.1, bt254.2.1, bt254.2.2.1, bt254.2.2.2.1, bt254.2.2.2.2.1⟩ : S36)]) (wrap64 (x8 + bt245.2.2.2.2.2))) else (none)) else (some (([] : List (S36)), bt254.2.2.2.2.2.1, bt254.2.2.2.2.2.2)))))))) else ((r4_find.f k x0 x8 (⟨#[60]⟩ : ByteArray)).bind fun t231 => (if t231 < 0 then (if x8 ≤ (x0.size : Int) then (if (x0.size : Int) ≤ (x0.size : Int) then ((r3_Decode.f k (x0.extract (x8 : Int).toNat ((x0.size : Int) : Int).toNat)).bind fun bt232 => (if bt232.2.2 = 0 then (if x7.length < 1954687338268 then (r4_Tokens.l0 k x0 (x7 ++ [(⟨4, (⟨#[]⟩ : ByteArray), ([] : List (S66)), bt232.1, x8⟩ : S36)]) (x0.size : Int)) else (none)) else (some (([] : List (S36)), wrap64 (x8 + bt232.2.1), bt232.2.2)))) else (none)) else (none)) else (if x8 ≤ t231 then (if t231 ≤ (x0.size : Int) then ((r3_Decode.f k (x0.extract (x8 : Int).toNat (t231 : Int).toNat)).bind fun bt238 => (if bt238.2.2 = 0 then (if x7.length < 1954687338268 then (r4_Tokens.l0 k x0 (x7 ++ [(⟨4, (⟨#[]⟩ : ByteArray), ([] : List (S66)), bt238.1, x8⟩ : S36)]) t231) else (none)) else (some (([] : List (S36)), wrap64 (x8 + bt238.2.1), bt238.2.2)))) else (none)) else (none))))) else (none)) else (some (x7, 0, 0))
def r4_Tokens.f (k : Nat) (a0 : ByteArray) : Option ((List (S36)) × Int × Int) := if (a0.size : Int) > 65536 then (some (([] : List (S36)), 0, 3)) else ((r1_Valid.f k a0).bind fun bt229 => (if bt229.2 = 0 then (r4_Tokens.l0 k a0 ([] : List (S36)) 0) else (some (([] : List (S36)), bt229.1, bt229.2))))
set_option maxHeartbeats 8000000 in
set_option maxRecDepth 100000 in
theorem r4_Tokens.calls (k : Nat) (a0 : ByteArray) (r1 : List (S36)) (r2 : Int) (r3 : Int) (w : World) (h : r4_Tokens.f k a0 = some (r1, r2, r3)) :
  Calls Tryz.prog 8 #[.string a0] w fun e w' => ∃ v0_ : Value, e = .returned (.tuple #[v0_, .int .i64 r2, .int .i64 r3]) ∧ Kd.S k36 36 w' w.heap.size (fun _ => True) v0_ r1 ∧ Below w.heap.size w w' := by
 have hu36 := Tryz.underlying36
 have HB := Az.mk (Below.refl w.heap.size w)
 have H := h
 unfold r4_Tokens.f at H
 clear h
 by_cases c2 : (a0.size : Int) > 65536
 ·rw [if_pos c2] at H
  have c2b0 : decide (65536 < (a0.size : Int)) = true := decide_eq_true c2
  have c2b1 : decide (65536 < a0.size) = true := decide_eq_true (by omega)
  clear c2
  simp only [Option.some.injEq, Prod.mk.injEq] at H
  obtain ⟨rfl, rfl, rfl⟩ := H
  go_enter Tryz.func8, Tryz.ntmps8
  go_wp2
  go_ret3
  exact ⟨_, by first | rfl | (simp [errW_none, errW_some] <;> rfl) | (simp [*, errW_none, errW_some] <;> rfl), by first | exact Kd.S_nil _ _ _ _ _ | exact Kd.N_nil _ _ _ _ _ | exact Kd.V_nil _ _ _ _ _ | exact Kd.Q_nil _ _ _ _ _ | exact Kd.R_nil _ _ _ _ _, tw HB.out⟩
 ·rw [if_neg c2] at H
  have c2b0 : decide (65536 < (a0.size : Int)) = false := decide_eq_false c2
  have c2b1 : decide (65536 < a0.size) = false := decide_eq_false (by omega)
  clear c2
  replace H := Option.bind_eq_some_iff.mp H
  obtain ⟨⟨t229, t230⟩, A30, H⟩ := H
  replace H : (if t230 = 0 then (r4_Tokens.l0 k a0 ([] : List (S36)) 0) else (some (([] : List (S36)), t229, t230))) = some (r1, r2, r3) := H
  have A3 := Az.mk A30
  clear A30
  by_cases c4 : t230 = 0
  ·rw [if_pos c4] at H
   have c4b0 : (t230 == 0) = true := beq_iff_eq.mpr c4
   have c4b1 : (t230 != 0) = false := bne_eq_false_iff_eq.mpr c4
   clear c4
   have H' := Az.mk H
   clear H
   go_enter Tryz.func8, Tryz.ntmps8
   go_wp2_with (first | ((with_reducible refine gate_callee (f := 15) rfl ?_); refine goesL_ (some 22) rfl rfl Tryz.func15 (by kernel_rfl) rfl #[.string a0] rfl (by (try simp only [List.map_toArray, List.map_cons, List.map_nil]); first | done | rfl | (simp only [List.length_drop, List.length_take]; rfl)) ?_; (with_reducible refine (r1_Valid.calls k a0 t229 t230 _ A3.out).mono ?_); rintro e w5 ⟨rfl, hb⟩; refine ⟨_, rfl, ?_⟩; have n0_ := Az.mk (below_step (tw HB.out) hb); clear HB; have HB := n0_; clear n0_; (try clear hb); (try clear hb2); (try clear hk); (try clear hi)))
   go_loopg [7, 8] k (fun kq v7 v8 w' => ∃ (x7_1 : List (S36)) (x8_1 : Int), v8 = .int .i64 x8_1 ∧ Az (r4_Tokens.l0 kq a0 x7_1 x8_1 = some (r1, r2, r3)) ∧ Az (kq ≤ k) ∧ Az (Kd.S k36 36 w' w.heap.size (fun _ => True) v7 x7_1) ∧ Az (Below w.heap.size w w'))
   case atStart => exact ⟨(([] : List (S36))), (0), (by first | rfl | (simp; done) | (simp [*]; done)), H', ⟨Nat.le_refl _⟩, ⟨by first | exact Kd.S_nil _ _ _ _ _ | exact Kd.N_nil _ _ _ _ _ | exact Kd.V_nil _ _ _ _ _ | exact Kd.Q_nil _ _ _ _ _ | exact Kd.R_nil _ _ _ _ _⟩, ⟨tw HB.out⟩⟩
   case round =>
    clear H'
    try clear c1
    try clear c2
    try clear c2b0
    try clear c2b1
    try clear p2
    try clear c4
    try clear c4b0
    try clear c4b1
    obtain ⟨x7_1, x8_1, rfl, HA, HK1, HO_7, HB⟩ := hrel
    cases gk with
    | zero => exact absurd HA.out (by simp [r4_Tokens.l0])
    | succ k1 =>
     have H := HA.out
     clear HA
     simp only [r4_Tokens.l0] at H
     by_cases c6 : x8_1 < (a0.size : Int)
     ·rw [if_pos c6] at H
      have c6b0 : decide (x8_1 < (a0.size : Int)) = true := decide_eq_true c6
      clear c6
      by_cases c7 : 0 ≤ x8_1
      ·rw [if_pos c7] at H
       have c7b0 : decide (0 ≤ x8_1) = true := decide_eq_true c7
       clear c7
       by_cases c9 : (bt a0 x8_1) = 60
       ·rw [if_pos c9] at H
        have c9b0 : ((bt a0 x8_1) == 60) = true := beq_iff_eq.mpr c9
        have c9b1 : ((bt a0 x8_1) != 60) = false := bne_eq_false_iff_eq.mpr c9
        clear c9
        replace H := Option.bind_eq_some_iff.mp H
        obtain ⟨t244, A100, H⟩ := H
        replace H : (if t244 > 0 then (r4_Tokens.l0 k1 a0 x7_1 (wrap64 (x8_1 + t244))) else ((r4_tag.f k1 a0 x8_1).bind fun bt245 => (if bt245.2.2.2.2.2 = 0 then (some (([] : List (S36)), x8_1, 40)) else ((r4_read.f k1 bt245.1 bt245.2.1 bt245.2.2.1 bt245.2.2.2.1 bt245.2.2.2.2.1).bind fun bt254 => (if bt254.2.2.2.2.2.2 = 0 then (if x7_1.length < 1954687338268 then (r4_Tokens.l0 k1 a0 (x7_1 ++ [(⟨bt254.1, bt254.2.1, bt254.2.2.1, bt254.2.2.2.1, bt254.2.2.2.2.1⟩ : S36)]) (wrap64 (x8_1 + bt245.2.2.2.2.2))) else (none)) else (some (([] : List (S36)), bt254.2.2.2.2.2.1, bt254.2.2.2.2.2.2))))))) = some (r1, r2, r3) := H
        have A10 := Az.mk A100
        clear A100
        by_cases c11 : t244 > 0
        ·rw [if_pos c11] at H
         have c11b0 : decide (0 < t244) = true := decide_eq_true c11
         clear c11
         have H' := Az.mk H
         clear H
         have p8 : 0 ≤ (x8_1 : Int) := of_decide_eq_true (by assumption)
         have q8 : x8_1 < (a0.size : Int) := of_decide_eq_true (by assumption)
         have hx8 := bt_at a0 x8_1
         replace p8 := eq_true p8
         replace q8 := eq_true q8
         go_wp2_with (first | ((with_reducible refine gate_callee (f := 19) rfl ?_); refine goesL_ (some 68) rfl rfl Tryz.func19 (by kernel_rfl) rfl #[.string a0, .int .i64 x8_1] rfl (by (try simp only [List.map_toArray, List.map_cons, List.map_nil]); first | done | rfl | (simp only [List.length_drop, List.length_take]; rfl)) ?_; (with_reducible refine (r4_remark.calls k1 a0 x8_1 t244 _ A10.out).mono ?_); rintro e w' ⟨rfl, ⟨nd, rfl⟩⟩; refine ⟨_, rfl, ?_⟩))
         go_roundg k1
         case measure => have := HK1.out; omega
         case rel => exact ⟨(x7_1), (wrap64 (x8_1 + t244)), (by first | rfl | (simp; done) | (simp [*]; done)), H', ⟨by have := HK1.out; omega⟩, ⟨tws HO_7.out⟩, ⟨tw HB.out⟩⟩
        ·rw [if_neg c11] at H
         have c11b0 : decide (0 < t244) = false := decide_eq_false c11
         clear c11
         replace H := Option.bind_eq_some_iff.mp H
         obtain ⟨⟨t245, t246, t247, t250, t251, t252⟩, A120, H⟩ := H
         replace H : (if t252 = 0 then (some (([] : List (S36)), x8_1, 40)) else ((r4_read.f k1 t245 t246 t247 t250 t251).bind fun bt254 => (if bt254.2.2.2.2.2.2 = 0 then (if x7_1.length < 1954687338268 then (r4_Tokens.l0 k1 a0 (x7_1 ++ [(⟨bt254.1, bt254.2.1, bt254.2.2.1, bt254.2.2.2.1, bt254.2.2.2.2.1⟩ : S36)]) (wrap64 (x8_1 + t252))) else (none)) else (some (([] : List (S36)), bt254.2.2.2.2.2.1, bt254.2.2.2.2.2.2))))) = some (r1, r2, r3) := H
         have A12 := Az.mk A120
         clear A120
         by_cases c13 : t252 = 0
         ·rw [if_pos c13] at H
          have c13b0 : (t252 == 0) = true := beq_iff_eq.mpr c13
          have c13b1 : (t252 != 0) = false := bne_eq_false_iff_eq.mpr c13
          clear c13
          simp only [Option.some.injEq, Prod.mk.injEq] at H
          obtain ⟨rfl, rfl, rfl⟩ := H
          have p8 : 0 ≤ (x8_1 : Int) := of_decide_eq_true (by assumption)
          have q8 : x8_1 < (a0.size : Int) := of_decide_eq_true (by assumption)
          have hx8 := bt_at a0 x8_1
          replace p8 := eq_true p8
          replace q8 := eq_true q8
          go_wp2_with (first | ((with_reducible refine gate_callee (f := 19) rfl ?_); refine goesL_ (some 68) rfl rfl Tryz.func19 (by kernel_rfl) rfl #[.string a0, .int .i64 x8_1] rfl (by (try simp only [List.map_toArray, List.map_cons, List.map_nil]); first | done | rfl | (simp only [List.length_drop, List.length_take]; rfl)) ?_; (with_reducible refine (r4_remark.calls k1 a0 x8_1 t244 _ A10.out).mono ?_); rintro e w' ⟨rfl, ⟨nd, rfl⟩⟩; refine ⟨_, rfl, ?_⟩; (try (rw [drewN_self wr]; generalize hq_ : World.drewN wr _ = wr; have n0_ : Az (Kd.S k36 36 wr w.heap.size (fun _ => True) u7 x7_1) := ⟨by rw [← hq_]; exact (tws HO_7.out)⟩; have n1_ : Az (Below w.heap.size w wr) := ⟨by rw [← hq_]; exact (tw HB.out)⟩; clear HO_7 HB hq_; have HO_7 := n0_; have HB := n1_; clear n0_ n1_))) | ((with_reducible refine gate_callee (f := 20) rfl ?_); refine goesL_ (some 77) rfl rfl Tryz.func20 (by kernel_rfl) rfl #[.string a0, .int .i64 x8_1] rfl (by (try simp only [List.map_toArray, List.map_cons, List.map_nil]); first | done | rfl | (simp only [List.length_drop, List.length_take]; rfl)) ?_; (with_reducible refine (r4_tag.calls k1 a0 x8_1 t245 t246 t247 t250 t251 t252 _ A12.out).mono ?_); rintro e w14 ⟨v248, rfl, ho0, hb⟩; refine ⟨_, rfl, ?_⟩; have n0_ := Az.mk (Kd.S_elder' (tws HO_7.out) (Kd.R_base ho0) hb); have n1_ := Az.mk (Kd.R_lower ho0 (below_size (tw HB.out))); have n2_ := Az.mk (below_step (tw HB.out) hb); clear HO_7; clear HB; have HO_7 := n0_; have HO249 := n1_; have HB := n2_; clear n0_ n1_ n2_; (try clear hb); (try clear hb2); (try clear hk); (try clear hi); (try clear ho0)) | ((with_reducible refine gate_dst (N := 14) rfl ?_); refine box_event ?hg (N := 14) ?hd (cs := #[.int .u8 0, .string (⟨#[]⟩ : ByteArray), .slice none 0 0, .string (⟨#[]⟩ : ByteArray), .int .i64 0]) (t := 36) ?hr ?_; (case hd => rfl); (case hg => rfl); (case hr => first | (go_simp; done) | (go_simp; rfl)); intro gb253 hg w15 hbox hb; have n0_ := Az.mk (Kd.S_below (Kd.S_elderB (tws HO_7.out) gb253 (Nat.le_of_eq hg.symm)) hb); have n1_ := Az.mk (Kd.R_below (twr HO249.out) hb); have n2_ := Az.mk (below_step (tw HB.out) hb); have n3_ := Az.mk (hbox); have n4_ := Az.mk ((by rw [hg]; exact (below_size (tw HB.out)) : w.heap.size ≤ gb253)); have n5_ := Az.mk ((by rw [hg]; exact (below_size (tw HB.out)) : w.heap.size ≤ gb253)); clear HO_7; clear HO249; clear HB; have HO_7 := n0_; have HO249 := n1_; have HB := n2_; have BK253 := n3_; have GW253 := n4_; have GE253 := n5_; clear n0_ n1_ n2_ n3_ n4_ n5_; clear hb hbox hg; have hcz16_0 : w15.cell? ⟨gb253, 0, none⟩ = some (.int .u8 0) := (blk_cell BK253.out 0).trans rfl; have hcz16_1 : w15.cell? ⟨gb253, 1, none⟩ = some (.string (⟨#[]⟩ : ByteArray)) := (blk_cell BK253.out 1).trans rfl; have hcz16_2 : w15.cell? ⟨gb253, 2, none⟩ = some (.slice none 0 0) := (blk_cell BK253.out 2).trans rfl; have hcz16_3 : w15.cell? ⟨gb253, 3, none⟩ = some (.string (⟨#[]⟩ : ByteArray)) := (blk_cell BK253.out 3).trans rfl; have hcz16_4 : w15.cell? ⟨gb253, 4, none⟩ = some (.int .i64 0) := (blk_cell BK253.out 4).trans rfl; have hfz16_0 := blk_frozen BK253.out 0; have hfz16_1 := blk_frozen BK253.out 1; have hfz16_2 := blk_frozen BK253.out 2; have hfz16_3 := blk_frozen BK253.out 3; have hfz16_4 := blk_frozen BK253.out 4; obtain ⟨Ao17, co17, eo17⟩ := Kd.R_slice HO249.out; subst eo17))
          go_ret3
          exact ⟨_, by first | rfl | (simp [errW_none, errW_some] <;> rfl) | (simp [*, errW_none, errW_some] <;> rfl), by first | exact Kd.S_nil _ _ _ _ _ | exact Kd.N_nil _ _ _ _ _ | exact Kd.V_nil _ _ _ _ _ | exact Kd.Q_nil _ _ _ _ _ | exact Kd.R_nil _ _ _ _ _, by repeat (first | (with_reducible first | exact HB.out | apply below_alloc | apply pw_below_drewN | apply below_drew1 | refine below_set ?_ GE253.out) | exact HB.out)⟩
         ·rw [if_neg c13] at H
          have c13b0 : (t252 == 0) = false := beq_eq_false_iff_ne.mpr c13
          have c13b1 : (t252 != 0) = true := bne_iff_ne.mpr c13
          replace H := Option.bind_eq_some_iff.mp H
          obtain ⟨⟨t254, t255, t256, t259, t260, t261, t262⟩, A180, H⟩ := H
          replace H : (if t262 = 0 then (if x7_1.length < 1954687338268 then (r4_Tokens.l0 k1 a0 (x7_1 ++ [(⟨t254, t255, t256, t259, t260⟩ : S36)]) (wrap64 (x8_1 + t252))) else (none)) else (some (([] : List (S36)), t261, t262))) = some (r1, r2, r3) := H
          have A18 := Az.mk A180
          clear A180
          by_cases c19 : t262 = 0
          ·rw [if_pos c19] at H
           have c19b0 : (t262 == 0) = true := beq_iff_eq.mpr c19
           have c19b1 : (t262 != 0) = false := bne_eq_false_iff_eq.mpr c19
           clear c19
           by_cases c20 : x7_1.length < 1954687338268
           ·rw [if_pos c20] at H
            have LMc20 := Az.mk c20
            clear c20
            obtain ⟨y263, hy263⟩ : ∃ y_ : List (S36), y_ = (x7_1 ++ [(⟨t254, t255, t256, t259, t260⟩ : S36)]) := ⟨_, rfl⟩
            replace H : (r4_Tokens.l0 k1 a0 y263 (wrap64 (x8_1 + t252))) = some (r1, r2, r3) := by first | (rw [hy263]; with_reducible exact H) | (have H2_ := (Option.bind_some _ _).symm.trans H; rw [hy263]; with_reducible exact H2_) | (have H2_ := (Option.bind_some _ _).symm.trans H; with_reducible exact H2_) | with_reducible exact H | (rw [hy263]; exact H) | exact H
            have Ny263 := Az.mk hy263
            clear hy263
            have H' := Az.mk H
            clear H
            have p8 : 0 ≤ (x8_1 : Int) := of_decide_eq_true (by assumption)
            have q8 : x8_1 < (a0.size : Int) := of_decide_eq_true (by assumption)
            have hx8 := bt_at a0 x8_1
            replace p8 := eq_true p8
            replace q8 := eq_true q8
            go_wp2_with (first | ((with_reducible refine gate_callee (f := 19) rfl ?_); refine goesL_ (some 68) rfl rfl Tryz.func19 (by kernel_rfl) rfl #[.string a0, .int .i64 x8_1] rfl (by (try simp only [List.map_toArray, List.map_cons, List.map_nil]); first | done | rfl | (simp only [List.length_drop, List.length_take]; rfl)) ?_; (with_reducible refine (r4_remark.calls k1 a0 x8_1 t244 _ A10.out).mono ?_); rintro e w' ⟨rfl, ⟨nd, rfl⟩⟩; refine ⟨_, rfl, ?_⟩; (try (rw [drewN_self wr]; generalize hq_ : World.drewN wr _ = wr; have n0_ : Az (Kd.S k36 36 wr w.heap.size (fun _ => True) u7 x7_1) := ⟨by rw [← hq_]; exact (tws HO_7.out)⟩; have n1_ : Az (Below w.heap.size w wr) := ⟨by rw [← hq_]; exact (tw HB.out)⟩; clear HO_7 HB hq_; have HO_7 := n0_; have HB := n1_; clear n0_ n1_))) | ((with_reducible refine gate_callee (f := 20) rfl ?_); refine goesL_ (some 77) rfl rfl Tryz.func20 (by kernel_rfl) rfl #[.string a0, .int .i64 x8_1] rfl (by (try simp only [List.map_toArray, List.map_cons, List.map_nil]); first | done | rfl | (simp only [List.length_drop, List.length_take]; rfl)) ?_; (with_reducible refine (r4_tag.calls k1 a0 x8_1 t245 t246 t247 t250 t251 t252 _ A12.out).mono ?_); rintro e w21 ⟨v248, rfl, ho0, hb⟩; refine ⟨_, rfl, ?_⟩; have n0_ := Az.mk (Kd.S_elder' (tws HO_7.out) (Kd.R_base ho0) hb); have n1_ := Az.mk (Kd.R_lower ho0 (below_size (tw HB.out))); have n2_ := Az.mk (below_step (tw HB.out) hb); clear HO_7; clear HB; have HO_7 := n0_; have HO249 := n1_; have HB := n2_; clear n0_ n1_ n2_; (try clear hb); (try clear hb2); (try clear hk); (try clear hi); (try clear ho0)) | ((with_reducible refine gate_dst (N := 14) rfl ?_); refine box_event ?hg (N := 14) ?hd (cs := #[.int .u8 0, .string (⟨#[]⟩ : ByteArray), .slice none 0 0, .string (⟨#[]⟩ : ByteArray), .int .i64 0]) (t := 36) ?hr ?_; (case hd => rfl); (case hg => rfl); (case hr => first | (go_simp; done) | (go_simp; rfl)); intro gb253 hg w22 hbox hb; have n0_ := Az.mk (Kd.S_below (Kd.S_elderB (tws HO_7.out) gb253 (Nat.le_of_eq hg.symm)) hb); have n1_ := Az.mk (Kd.R_below (twr HO249.out) hb); have n2_ := Az.mk (below_step (tw HB.out) hb); have n3_ := Az.mk (hbox); have n4_ := Az.mk ((by rw [hg]; exact (below_size (tw HB.out)) : w.heap.size ≤ gb253)); have n5_ := Az.mk ((by rw [hg]; exact (below_size (tw HB.out)) : w.heap.size ≤ gb253)); clear HO_7; clear HO249; clear HB; have HO_7 := n0_; have HO249 := n1_; have HB := n2_; have BK253 := n3_; have GW253 := n4_; have GE253 := n5_; clear n0_ n1_ n2_ n3_ n4_ n5_; clear hb hbox hg; have hcz23_0 : w22.cell? ⟨gb253, 0, none⟩ = some (.int .u8 0) := (blk_cell BK253.out 0).trans rfl; have hcz23_1 : w22.cell? ⟨gb253, 1, none⟩ = some (.string (⟨#[]⟩ : ByteArray)) := (blk_cell BK253.out 1).trans rfl; have hcz23_2 : w22.cell? ⟨gb253, 2, none⟩ = some (.slice none 0 0) := (blk_cell BK253.out 2).trans rfl; have hcz23_3 : w22.cell? ⟨gb253, 3, none⟩ = some (.string (⟨#[]⟩ : ByteArray)) := (blk_cell BK253.out 3).trans rfl; have hcz23_4 : w22.cell? ⟨gb253, 4, none⟩ = some (.int .i64 0) := (blk_cell BK253.out 4).trans rfl; have hfz23_0 := blk_frozen BK253.out 0; have hfz23_1 := blk_frozen BK253.out 1; have hfz23_2 := blk_frozen BK253.out 2; have hfz23_3 := blk_frozen BK253.out 3; have hfz23_4 := blk_frozen BK253.out 4; obtain ⟨Ao24, co24, eo24⟩ := Kd.R_slice HO249.out; subst eo24) | ((with_reducible refine gate_store (t := 36) (p := 14) rfl ?_); refine store_event (t := 36) (p := 14) (v := ?vo_w25) (w1 := (((((w22.setCell ⟨gb253, 0, none⟩ (.int .u8 t245)).setCell ⟨gb253, 1, none⟩ (.string t246)).setCell ⟨gb253, 2, none⟩ (.slice Ao24 t247.length co24)).setCell ⟨gb253, 3, none⟩ (.string t250)).setCell ⟨gb253, 4, none⟩ (.int .i64 t251))) ?hg ?ho ?hn ?hr ?_; (case ho => rfl); (case hg => rfl); (case hn => rfl); (case hr => first | (go_simp; done) | (go_simp; rfl)); intro w25 hw; have n0_ : Az (Kd.S k36 36 w25 w.heap.size (fun k_ => some k_ ≠ (.slice Ao24 t247.length co24 : Value).ownBlock ∧ k_ ≠ gb253) u7 x7_1) := ⟨(by rw [hw]; exact (by (with_reducible repeat (first | apply Kd.S_alloc | apply Kd.S_drewN | apply Kd.S_drew)); exact Kd.S_mono (Kd.S_far (p := ⟨gb253, 4, none⟩) (Kd.S_far (p := ⟨gb253, 3, none⟩) (Kd.S_far (p := ⟨gb253, 2, none⟩) (Kd.S_far (p := ⟨gb253, 1, none⟩) (Kd.S_far (p := ⟨gb253, 0, none⟩) (Kd.S_mono HO_7.out (fun k_ hk => (⟨hk, hk.2⟩ : _ ∧ k_ ≠ gb253))) (fun _ hk => hk.2) (.int .u8 t245)) (fun _ hk => hk.2) (.string t246)) (fun _ hk => hk.2) (.slice Ao24 t247.length co24)) (fun _ hk => hk.2) (.string t250)) (fun _ hk => hk.2) (.int .i64 t251)) (fun _ hk => ⟨hk.1.1.2, hk.1.2⟩)))⟩; have n1_ : Az (Kd.R k66 66 w25 w.heap.size (fun _ => True) (.slice Ao24 t247.length co24) t247) := ⟨(by rw [hw]; exact (by (with_reducible repeat (first | apply Kd.R_alloc | apply Kd.R_drewN | apply Kd.R_drew)); exact Kd.R_mono (Kd.R_far (p := ⟨gb253, 4, none⟩) (Kd.R_far (p := ⟨gb253, 3, none⟩) (Kd.R_far (p := ⟨gb253, 2, none⟩) (Kd.R_far (p := ⟨gb253, 1, none⟩) (Kd.R_far (p := ⟨gb253, 0, none⟩) (Kd.R_types HO249.out BK253.out (by decide)) (fun _ hk => hk.2) (.int .u8 t245)) (fun _ hk => hk.2) (.string t246)) (fun _ hk => hk.2) (.slice Ao24 t247.length co24)) (fun _ hk => hk.2) (.string t250)) (fun _ hk => hk.2) (.int .i64 t251)) (fun _ hk => trivial)))⟩; have n2_ : Az (w25.heap[gb253]? = some (.cells #[.int .u8 t245, .string t246, .slice Ao24 t247.length co24, .string t250, .int .i64 t251] 36 (0, 0))) := ⟨(by rw [hw]; exact (by (with_reducible repeat (first | refine blk_drewN ?_ _ | refine blk_drew ?_ | refine blk_alloc ?_ _)); refine blk_put (cs := #[.int .u8 t245, .string t246, .slice Ao24 t247.length co24, .string t250, .int .i64 0]) ?_ 4 _ rfl; (with_reducible repeat (first | refine blk_drewN ?_ _ | refine blk_drew ?_ | refine blk_alloc ?_ _)); refine blk_put (cs := #[.int .u8 t245, .string t246, .slice Ao24 t247.length co24, .string (⟨#[]⟩ : ByteArray), .int .i64 0]) ?_ 3 _ rfl; (with_reducible repeat (first | refine blk_drewN ?_ _ | refine blk_drew ?_ | refine blk_alloc ?_ _)); refine blk_put (cs := #[.int .u8 t245, .string t246, .slice none 0 0, .string (⟨#[]⟩ : ByteArray), .int .i64 0]) ?_ 2 _ rfl; (with_reducible repeat (first | refine blk_drewN ?_ _ | refine blk_drew ?_ | refine blk_alloc ?_ _)); refine blk_put (cs := #[.int .u8 t245, .string (⟨#[]⟩ : ByteArray), .slice none 0 0, .string (⟨#[]⟩ : ByteArray), .int .i64 0]) ?_ 1 _ rfl; (with_reducible repeat (first | refine blk_drewN ?_ _ | refine blk_drew ?_ | refine blk_alloc ?_ _)); refine blk_put (cs := #[.int .u8 0, .string (⟨#[]⟩ : ByteArray), .slice none 0 0, .string (⟨#[]⟩ : ByteArray), .int .i64 0]) ?_ 0 _ rfl; (with_reducible repeat (first | refine blk_drewN ?_ _ | refine blk_drew ?_ | refine blk_alloc ?_ _)); exact BK253.out))⟩; have n3_ : Az (Below w.heap.size w w25) := ⟨(by rw [hw]; exact (by repeat (first | (with_reducible first | exact HB.out | apply below_alloc | apply pw_below_drewN | apply below_drew1 | refine below_set ?_ GE253.out) | exact HB.out)))⟩; clear hw; clear HO_7; clear HO249; clear BK253; clear HB; have HO_7 := n0_; have HO249 := n1_; have BK253 := n2_; have HB := n3_; clear n0_ n1_ n2_ n3_; have hcz26_0 : w25.cell? ⟨gb253, 0, none⟩ = some (.int .u8 t245) := (blk_cell BK253.out 0).trans rfl; have hcz26_1 : w25.cell? ⟨gb253, 1, none⟩ = some (.string t246) := (blk_cell BK253.out 1).trans rfl; have hcz26_2 : w25.cell? ⟨gb253, 2, none⟩ = some (.slice Ao24 t247.length co24) := (blk_cell BK253.out 2).trans rfl; have hcz26_3 : w25.cell? ⟨gb253, 3, none⟩ = some (.string t250) := (blk_cell BK253.out 3).trans rfl; have hcz26_4 : w25.cell? ⟨gb253, 4, none⟩ = some (.int .i64 t251) := (blk_cell BK253.out 4).trans rfl; have hfz26_0 := blk_frozen BK253.out 0; have hfz26_1 := blk_frozen BK253.out 1; have hfz26_2 := blk_frozen BK253.out 2; have hfz26_3 := blk_frozen BK253.out 3; have hfz26_4 := blk_frozen BK253.out 4) | ((with_reducible refine gate_callee (f := 21) rfl ?_); refine goesL_ (some 85) rfl rfl Tryz.func21 (by kernel_rfl) rfl #[.agg #[.int .u8 t245, .string t246, .slice Ao24 t247.length co24, .string t250, .int .i64 t251]] rfl (by (try simp only [List.map_toArray, List.map_cons, List.map_nil]); first | done | rfl | (simp only [List.length_drop, List.length_take]; rfl)) ?_; (with_reducible refine (r4_read.calls k1 t245 t246 (fun k_ => some k_ = (.slice Ao24 t247.length co24 : Value).ownBlock) (.slice Ao24 t247.length co24) t247 t250 t251 t254 t255 t256 t259 t260 t261 t262 w _ ?side1 ?side2 A18.out).mono ?_); (case side1 => repeat (first | (with_reducible first | exact HB.out | apply below_alloc | apply pw_below_drewN | apply below_drew1 | refine below_set ?_ GE253.out) | exact HB.out)); (case side2 => exact Kd.R_tight rfl HO249.out); rintro e w27 ⟨v257, rfl, ho0, hb, hkp⟩; refine ⟨_, rfl, ?_⟩; have n0_ := Az.mk (Kd.S_mono (ok' := fun k_ => k_ ≠ gb253 ∧ some k_ ≠ (v257 : Value).ownBlock) (Kd.S_keptB (HO_7.out) hkp (fun k_ hk_ hs_ => (hk_.1) hs_)) (fun k_ hk_ => ⟨hk_.1.2, fun e_ => Or.elim (ho0.1 k_ e_.symm) (fun hs_ => hk_.2.1 hs_) (fun hn_ => Nat.not_le.2 hk_.2.2 hn_)⟩)); have n1_ := Az.mk (blk_kept (twb BK253.out) hkp (fun hs_ => (fun e_ => (Kd.R_ne HO249.out BK253.out (by decide)) e_) hs_)); have n2_ := Az.mk (Kd.R_mono (ok' := fun k_ => True) ho0 (fun k_ hk_ => trivial)); have n3_ := Az.mk (hb); clear HO_7; clear BK253; clear HB; clear HO249; have HO_7 := n0_; have BK253 := n1_; have HO258 := n2_; have HB := n3_; clear n0_ n1_ n2_ n3_; (try clear hb); (try clear hkp); (try clear ho0); have hcz28_0 : w27.cell? ⟨gb253, 0, none⟩ = some (.int .u8 t245) := (blk_cell BK253.out 0).trans rfl; have hcz28_1 : w27.cell? ⟨gb253, 1, none⟩ = some (.string t246) := (blk_cell BK253.out 1).trans rfl; have hcz28_2 : w27.cell? ⟨gb253, 2, none⟩ = some (.slice Ao24 t247.length co24) := (blk_cell BK253.out 2).trans rfl; have hcz28_3 : w27.cell? ⟨gb253, 3, none⟩ = some (.string t250) := (blk_cell BK253.out 3).trans rfl; have hcz28_4 : w27.cell? ⟨gb253, 4, none⟩ = some (.int .i64 t251) := (blk_cell BK253.out 4).trans rfl; have hfz28_0 := blk_frozen BK253.out 0; have hfz28_1 := blk_frozen BK253.out 1; have hfz28_2 := blk_frozen BK253.out 2; have hfz28_3 := blk_frozen BK253.out 3; have hfz28_4 := blk_frozen BK253.out 4; obtain ⟨Ao29, co29, eo29⟩ := Kd.R_slice HO258.out; subst eo29) | ((with_reducible refine gate_store (t := 36) (p := 14) rfl ?_); refine store_event (t := 36) (p := 14) (v := ?vo_w30) (w1 := (((((w27.setCell ⟨gb253, 0, none⟩ (.int .u8 t254)).setCell ⟨gb253, 1, none⟩ (.string t255)).setCell ⟨gb253, 2, none⟩ (.slice Ao29 t256.length co29)).setCell ⟨gb253, 3, none⟩ (.string t259)).setCell ⟨gb253, 4, none⟩ (.int .i64 t260))) ?hg ?ho ?hn ?hr ?_; (case ho => rfl); (case hg => rfl); (case hn => rfl); (case hr => first | (go_simp; done) | (go_simp; rfl)); intro w30 hw; have n0_ : Az (Kd.S k36 36 w30 w.heap.size (fun k_ => some k_ ≠ (.slice Ao29 t256.length co29 : Value).ownBlock ∧ k_ ≠ gb253) u7 x7_1) := ⟨(by rw [hw]; exact (by (with_reducible repeat (first | apply Kd.S_alloc | apply Kd.S_drewN | apply Kd.S_drew)); exact Kd.S_mono (Kd.S_far (p := ⟨gb253, 4, none⟩) (Kd.S_far (p := ⟨gb253, 3, none⟩) (Kd.S_far (p := ⟨gb253, 2, none⟩) (Kd.S_far (p := ⟨gb253, 1, none⟩) (Kd.S_far (p := ⟨gb253, 0, none⟩) (Kd.S_mono HO_7.out (fun k_ hk => (⟨hk, hk.1⟩ : _ ∧ k_ ≠ gb253))) (fun _ hk => hk.2) (.int .u8 t254)) (fun _ hk => hk.2) (.string t255)) (fun _ hk => hk.2) (.slice Ao29 t256.length co29)) (fun _ hk => hk.2) (.string t259)) (fun _ hk => hk.2) (.int .i64 t260)) (fun _ hk => ⟨hk.1.2, hk.1.1⟩)))⟩; have n1_ : Az (Kd.R k66 66 w30 w.heap.size (fun _ => True) (.slice Ao29 t256.length co29) t256) := ⟨(by rw [hw]; exact (by (with_reducible repeat (first | apply Kd.R_alloc | apply Kd.R_drewN | apply Kd.R_drew)); exact Kd.R_mono (Kd.R_far (p := ⟨gb253, 4, none⟩) (Kd.R_far (p := ⟨gb253, 3, none⟩) (Kd.R_far (p := ⟨gb253, 2, none⟩) (Kd.R_far (p := ⟨gb253, 1, none⟩) (Kd.R_far (p := ⟨gb253, 0, none⟩) (Kd.R_types HO258.out BK253.out (by decide)) (fun _ hk => hk.2) (.int .u8 t254)) (fun _ hk => hk.2) (.string t255)) (fun _ hk => hk.2) (.slice Ao29 t256.length co29)) (fun _ hk => hk.2) (.string t259)) (fun _ hk => hk.2) (.int .i64 t260)) (fun _ hk => trivial)))⟩; have n2_ : Az (w30.heap[gb253]? = some (.cells #[.int .u8 t254, .string t255, .slice Ao29 t256.length co29, .string t259, .int .i64 t260] 36 (0, 0))) := ⟨(by rw [hw]; exact (by (with_reducible repeat (first | refine blk_drewN ?_ _ | refine blk_drew ?_ | refine blk_alloc ?_ _)); refine blk_put (cs := #[.int .u8 t254, .string t255, .slice Ao29 t256.length co29, .string t259, .int .i64 t251]) ?_ 4 _ rfl; (with_reducible repeat (first | refine blk_drewN ?_ _ | refine blk_drew ?_ | refine blk_alloc ?_ _)); refine blk_put (cs := #[.int .u8 t254, .string t255, .slice Ao29 t256.length co29, .string t250, .int .i64 t251]) ?_ 3 _ rfl; (with_reducible repeat (first | refine blk_drewN ?_ _ | refine blk_drew ?_ | refine blk_alloc ?_ _)); refine blk_put (cs := #[.int .u8 t254, .string t255, .slice Ao24 t247.length co24, .string t250, .int .i64 t251]) ?_ 2 _ rfl; (with_reducible repeat (first | refine blk_drewN ?_ _ | refine blk_drew ?_ | refine blk_alloc ?_ _)); refine blk_put (cs := #[.int .u8 t254, .string t246, .slice Ao24 t247.length co24, .string t250, .int .i64 t251]) ?_ 1 _ rfl; (with_reducible repeat (first | refine blk_drewN ?_ _ | refine blk_drew ?_ | refine blk_alloc ?_ _)); refine blk_put (cs := #[.int .u8 t245, .string t246, .slice Ao24 t247.length co24, .string t250, .int .i64 t251]) ?_ 0 _ rfl; (with_reducible repeat (first | refine blk_drewN ?_ _ | refine blk_drew ?_ | refine blk_alloc ?_ _)); exact BK253.out))⟩; have n3_ : Az (Below w.heap.size w w30) := ⟨(by rw [hw]; exact (by repeat (first | (with_reducible first | exact HB.out | apply below_alloc | apply pw_below_drewN | apply below_drew1 | refine below_set ?_ GE253.out) | exact HB.out)))⟩; clear hw; clear HO_7; clear HO258; clear BK253; clear HB; have HO_7 := n0_; have HO258 := n1_; have BK253 := n2_; have HB := n3_; clear n0_ n1_ n2_ n3_; have hcz31_0 : w30.cell? ⟨gb253, 0, none⟩ = some (.int .u8 t254) := (blk_cell BK253.out 0).trans rfl; have hcz31_1 : w30.cell? ⟨gb253, 1, none⟩ = some (.string t255) := (blk_cell BK253.out 1).trans rfl; have hcz31_2 : w30.cell? ⟨gb253, 2, none⟩ = some (.slice Ao29 t256.length co29) := (blk_cell BK253.out 2).trans rfl; have hcz31_3 : w30.cell? ⟨gb253, 3, none⟩ = some (.string t259) := (blk_cell BK253.out 3).trans rfl; have hcz31_4 : w30.cell? ⟨gb253, 4, none⟩ = some (.int .i64 t260) := (blk_cell BK253.out 4).trans rfl; have hfz31_0 := blk_frozen BK253.out 0; have hfz31_1 := blk_frozen BK253.out 1; have hfz31_2 := blk_frozen BK253.out 2; have hfz31_3 := blk_frozen BK253.out 3; have hfz31_4 := blk_frozen BK253.out 4) | ((with_reducible refine gate_builtin (b := .append) (xs := #[.tmp 93, .tmp 95]) rfl ?_); at_builtin; refine Kd.S_append k36 (w0 := w) w.heap.size rfl (.tmp 93) (.tmp 95) 23 36 (.agg #[(.int .u8 0), (.string ⟨#[]⟩), (.slice none 0 0), (.string ⟨#[]⟩), (.int .i64 0)]) 72 rfl Tryz.underlying23 info36 rfl (by decide) (by omega) u7 x7_1 (⟨t254, t255, t256, t259, t260⟩ : S36) [.int .u8 t254, .string t255, .slice Ao29 t256.length co29, .string t259, .int .i64 t260] (fun k_ => k_ ≠ gb253) (fun k_ => some k_ = (.slice Ao29 t256.length co29 : Value).ownBlock) rfl rfl ?aP (fun k_ hk_ => ((Kd.R_mono (ok' := fun k_ => ((fun k_ => k_ ≠ gb253)) k_ ∧ some k_ ≠ (u7 : Value).ownBlock) (Kd.R_types (Kd.R_apart' (HO258.out) (Kd.S_typed HO_7.out) (by decide)) BK253.out (by decide)) (fun k_ hk => ⟨hk.2, hk.1.2⟩))).1 k_ hk_.symm) ?aF ?aO ?aB ?aS ?aL ?_; (case aP => exact k36_mkM _ _ _ (⟨t254, t255, t256, t259, t260⟩ : S36) (Kd.R_mono (Kd.R_tight rfl (Kd.R_mono (ok' := fun k_ => ((fun k_ => k_ ≠ gb253)) k_ ∧ some k_ ≠ (u7 : Value).ownBlock) (Kd.R_types (Kd.R_apart' (HO258.out) (Kd.S_typed HO_7.out) (by decide)) BK253.out (by decide)) (fun k_ hk => ⟨hk.2, hk.1.2⟩))) (fun _ h_ => h_))); (case aB => exact (by repeat (first | (with_reducible first | exact HB.out | apply below_alloc | apply pw_below_drewN | apply below_drew1 | refine below_set ?_ GE253.out) | exact HB.out))); (case aF => exact (fun k_ hk => Kd.freshB (g := gb253) (o := .cells #[.int .u8 t254, .string t255, .slice Ao29 t256.length co29, .string t259, .int .i64 t260] 36 (0, 0)) (twb BK253.out) k_ hk)); (case aO => exact (by (with_reducible repeat (first | apply Kd.S_alloc | apply Kd.S_drewN | apply Kd.S_drew)); exact Kd.S_mono HO_7.out (fun k_ hk => ⟨hk.2, fun e_ => hk.1 e_⟩))); (case aS => exact (below_size (by repeat (first | (with_reducible first | exact HB.out | apply below_alloc | apply pw_below_drewN | apply below_drew1 | refine below_set ?_ GE253.out) | exact HB.out)))); (case aL => have := LMc20.out; omega); intro v264 w32 ho hb hg hat; rw [← Ny263.out] at ho; have n0_ := Az.mk (blk_grown (g := gb253) (o := .cells #[.int .u8 t254, .string t255, .slice Ao29 t256.length co29, .string t259, .int .i64 t260] 36 (0, 0)) (twb BK253.out) hg (Kd.S_away HO_7.out (fun _ hk => hk.2))); have n1_ := Az.mk (hb); have n2_ := Az.mk (ho); clear BK253; clear HB; clear HO_7; clear HO258; have BK253 := n0_; have HB := n1_; have HO265 := n2_; clear n0_ n1_ n2_; clear ho hb hg hat))
            go_roundg k1
            case measure => have := HK1.out; omega
            case rel => exact ⟨(y263), (wrap64 (x8_1 + t252)), (by first | rfl | (simp; done) | (simp [*]; done)), H', ⟨by have := HK1.out; omega⟩, ⟨by (with_reducible repeat (first | apply Kd.S_alloc | apply Kd.S_drewN | apply Kd.S_drew)); exact Kd.S_mono HO265.out (fun _ hk => trivial)⟩, ⟨by repeat (first | (with_reducible first | exact HB.out | apply below_alloc | apply pw_below_drewN | apply below_drew1 | refine below_set ?_ GE253.out) | exact HB.out)⟩⟩
           ·rw [if_neg c20] at H
            exact absurd H (by simp)
          ·rw [if_neg c19] at H
           have c19b0 : (t262 == 0) = false := beq_eq_false_iff_ne.mpr c19
           have c19b1 : (t262 != 0) = true := bne_iff_ne.mpr c19
           simp only [Option.some.injEq, Prod.mk.injEq] at H
           obtain ⟨rfl, rfl, rfl⟩ := H
           have p8 : 0 ≤ (x8_1 : Int) := of_decide_eq_true (by assumption)
           have q8 : x8_1 < (a0.size : Int) := of_decide_eq_true (by assumption)
           have hx8 := bt_at a0 x8_1
           replace p8 := eq_true p8
           replace q8 := eq_true q8
           go_wp2_with (first | ((with_reducible refine gate_callee (f := 19) rfl ?_); refine goesL_ (some 68) rfl rfl Tryz.func19 (by kernel_rfl) rfl #[.string a0, .int .i64 x8_1] rfl (by (try simp only [List.map_toArray, List.map_cons, List.map_nil]); first | done | rfl | (simp only [List.length_drop, List.length_take]; rfl)) ?_; (with_reducible refine (r4_remark.calls k1 a0 x8_1 t244 _ A10.out).mono ?_); rintro e w' ⟨rfl, ⟨nd, rfl⟩⟩; refine ⟨_, rfl, ?_⟩; (try (rw [drewN_self wr]; generalize hq_ : World.drewN wr _ = wr; have n0_ : Az (Kd.S k36 36 wr w.heap.size (fun _ => True) u7 x7_1) := ⟨by rw [← hq_]; exact (tws HO_7.out)⟩; have n1_ : Az (Below w.heap.size w wr) := ⟨by rw [← hq_]; exact (tw HB.out)⟩; clear HO_7 HB hq_; have HO_7 := n0_; have HB := n1_; clear n0_ n1_))) | ((with_reducible refine gate_callee (f := 20) rfl ?_); refine goesL_ (some 77) rfl rfl Tryz.func20 (by kernel_rfl) rfl #[.string a0, .int .i64 x8_1] rfl (by (try simp only [List.map_toArray, List.map_cons, List.map_nil]); first | done | rfl | (simp only [List.length_drop, List.length_take]; rfl)) ?_; (with_reducible refine (r4_tag.calls k1 a0 x8_1 t245 t246 t247 t250 t251 t252 _ A12.out).mono ?_); rintro e w33 ⟨v248, rfl, ho0, hb⟩; refine ⟨_, rfl, ?_⟩; have n0_ := Az.mk (Kd.S_elder' (tws HO_7.out) (Kd.R_base ho0) hb); have n1_ := Az.mk (Kd.R_lower ho0 (below_size (tw HB.out))); have n2_ := Az.mk (below_step (tw HB.out) hb); clear HO_7; clear HB; have HO_7 := n0_; have HO249 := n1_; have HB := n2_; clear n0_ n1_ n2_; (try clear hb); (try clear hb2); (try clear hk); (try clear hi); (try clear ho0)) | ((with_reducible refine gate_dst (N := 14) rfl ?_); refine box_event ?hg (N := 14) ?hd (cs := #[.int .u8 0, .string (⟨#[]⟩ : ByteArray), .slice none 0 0, .string (⟨#[]⟩ : ByteArray), .int .i64 0]) (t := 36) ?hr ?_; (case hd => rfl); (case hg => rfl); (case hr => first | (go_simp; done) | (go_simp; rfl)); intro gb253 hg w34 hbox hb; have n0_ := Az.mk (Kd.S_below (Kd.S_elderB (tws HO_7.out) gb253 (Nat.le_of_eq hg.symm)) hb); have n1_ := Az.mk (Kd.R_below (twr HO249.out) hb); have n2_ := Az.mk (below_step (tw HB.out) hb); have n3_ := Az.mk (hbox); have n4_ := Az.mk ((by rw [hg]; exact (below_size (tw HB.out)) : w.heap.size ≤ gb253)); have n5_ := Az.mk ((by rw [hg]; exact (below_size (tw HB.out)) : w.heap.size ≤ gb253)); clear HO_7; clear HO249; clear HB; have HO_7 := n0_; have HO249 := n1_; have HB := n2_; have BK253 := n3_; have GW253 := n4_; have GE253 := n5_; clear n0_ n1_ n2_ n3_ n4_ n5_; clear hb hbox hg; have hcz35_0 : w34.cell? ⟨gb253, 0, none⟩ = some (.int .u8 0) := (blk_cell BK253.out 0).trans rfl; have hcz35_1 : w34.cell? ⟨gb253, 1, none⟩ = some (.string (⟨#[]⟩ : ByteArray)) := (blk_cell BK253.out 1).trans rfl; have hcz35_2 : w34.cell? ⟨gb253, 2, none⟩ = some (.slice none 0 0) := (blk_cell BK253.out 2).trans rfl; have hcz35_3 : w34.cell? ⟨gb253, 3, none⟩ = some (.string (⟨#[]⟩ : ByteArray)) := (blk_cell BK253.out 3).trans rfl; have hcz35_4 : w34.cell? ⟨gb253, 4, none⟩ = some (.int .i64 0) := (blk_cell BK253.out 4).trans rfl; have hfz35_0 := blk_frozen BK253.out 0; have hfz35_1 := blk_frozen BK253.out 1; have hfz35_2 := blk_frozen BK253.out 2; have hfz35_3 := blk_frozen BK253.out 3; have hfz35_4 := blk_frozen BK253.out 4; obtain ⟨Ao36, co36, eo36⟩ := Kd.R_slice HO249.out; subst eo36) | ((with_reducible refine gate_store (t := 36) (p := 14) rfl ?_); refine store_event (t := 36) (p := 14) (v := ?vo_w37) (w1 := (((((w34.setCell ⟨gb253, 0, none⟩ (.int .u8 t245)).setCell ⟨gb253, 1, none⟩ (.string t246)).setCell ⟨gb253, 2, none⟩ (.slice Ao36 t247.length co36)).setCell ⟨gb253, 3, none⟩ (.string t250)).setCell ⟨gb253, 4, none⟩ (.int .i64 t251))) ?hg ?ho ?hn ?hr ?_; (case ho => rfl); (case hg => rfl); (case hn => rfl); (case hr => first | (go_simp; done) | (go_simp; rfl)); intro w37 hw; have n0_ : Az (Kd.S k36 36 w37 w.heap.size (fun k_ => some k_ ≠ (.slice Ao36 t247.length co36 : Value).ownBlock ∧ k_ ≠ gb253) u7 x7_1) := ⟨(by rw [hw]; exact (by (with_reducible repeat (first | apply Kd.S_alloc | apply Kd.S_drewN | apply Kd.S_drew)); exact Kd.S_mono (Kd.S_far (p := ⟨gb253, 4, none⟩) (Kd.S_far (p := ⟨gb253, 3, none⟩) (Kd.S_far (p := ⟨gb253, 2, none⟩) (Kd.S_far (p := ⟨gb253, 1, none⟩) (Kd.S_far (p := ⟨gb253, 0, none⟩) (Kd.S_mono HO_7.out (fun k_ hk => (⟨hk, hk.2⟩ : _ ∧ k_ ≠ gb253))) (fun _ hk => hk.2) (.int .u8 t245)) (fun _ hk => hk.2) (.string t246)) (fun _ hk => hk.2) (.slice Ao36 t247.length co36)) (fun _ hk => hk.2) (.string t250)) (fun _ hk => hk.2) (.int .i64 t251)) (fun _ hk => ⟨hk.1.1.2, hk.1.2⟩)))⟩; have n1_ : Az (Kd.R k66 66 w37 w.heap.size (fun _ => True) (.slice Ao36 t247.length co36) t247) := ⟨(by rw [hw]; exact (by (with_reducible repeat (first | apply Kd.R_alloc | apply Kd.R_drewN | apply Kd.R_drew)); exact Kd.R_mono (Kd.R_far (p := ⟨gb253, 4, none⟩) (Kd.R_far (p := ⟨gb253, 3, none⟩) (Kd.R_far (p := ⟨gb253, 2, none⟩) (Kd.R_far (p := ⟨gb253, 1, none⟩) (Kd.R_far (p := ⟨gb253, 0, none⟩) (Kd.R_types HO249.out BK253.out (by decide)) (fun _ hk => hk.2) (.int .u8 t245)) (fun _ hk => hk.2) (.string t246)) (fun _ hk => hk.2) (.slice Ao36 t247.length co36)) (fun _ hk => hk.2) (.string t250)) (fun _ hk => hk.2) (.int .i64 t251)) (fun _ hk => trivial)))⟩; have n2_ : Az (w37.heap[gb253]? = some (.cells #[.int .u8 t245, .string t246, .slice Ao36 t247.length co36, .string t250, .int .i64 t251] 36 (0, 0))) := ⟨(by rw [hw]; exact (by (with_reducible repeat (first | refine blk_drewN ?_ _ | refine blk_drew ?_ | refine blk_alloc ?_ _)); refine blk_put (cs := #[.int .u8 t245, .string t246, .slice Ao36 t247.length co36, .string t250, .int .i64 0]) ?_ 4 _ rfl; (with_reducible repeat (first | refine blk_drewN ?_ _ | refine blk_drew ?_ | refine blk_alloc ?_ _)); refine blk_put (cs := #[.int .u8 t245, .string t246, .slice Ao36 t247.length co36, .string (⟨#[]⟩ : ByteArray), .int .i64 0]) ?_ 3 _ rfl; (with_reducible repeat (first | refine blk_drewN ?_ _ | refine blk_drew ?_ | refine blk_alloc ?_ _)); refine blk_put (cs := #[.int .u8 t245, .string t246, .slice none 0 0, .string (⟨#[]⟩ : ByteArray), .int .i64 0]) ?_ 2 _ rfl; (with_reducible repeat (first | refine blk_drewN ?_ _ | refine blk_drew ?_ | refine blk_alloc ?_ _)); refine blk_put (cs := #[.int .u8 t245, .string (⟨#[]⟩ : ByteArray), .slice none 0 0, .string (⟨#[]⟩ : ByteArray), .int .i64 0]) ?_ 1 _ rfl; (with_reducible repeat (first | refine blk_drewN ?_ _ | refine blk_drew ?_ | refine blk_alloc ?_ _)); refine blk_put (cs := #[.int .u8 0, .string (⟨#[]⟩ : ByteArray), .slice none 0 0, .string (⟨#[]⟩ : ByteArray), .int .i64 0]) ?_ 0 _ rfl; (with_reducible repeat (first | refine blk_drewN ?_ _ | refine blk_drew ?_ | refine blk_alloc ?_ _)); exact BK253.out))⟩; have n3_ : Az (Below w.heap.size w w37) := ⟨(by rw [hw]; exact (by repeat (first | (with_reducible first | exact HB.out | apply below_alloc | apply pw_below_drewN | apply below_drew1 | refine below_set ?_ GE253.out) | exact HB.out)))⟩; clear hw; clear HO_7; clear HO249; clear BK253; clear HB; have HO_7 := n0_; have HO249 := n1_; have BK253 := n2_; have HB := n3_; clear n0_ n1_ n2_ n3_; have hcz38_0 : w37.cell? ⟨gb253, 0, none⟩ = some (.int .u8 t245) := (blk_cell BK253.out 0).trans rfl; have hcz38_1 : w37.cell? ⟨gb253, 1, none⟩ = some (.string t246) := (blk_cell BK253.out 1).trans rfl; have hcz38_2 : w37.cell? ⟨gb253, 2, none⟩ = some (.slice Ao36 t247.length co36) := (blk_cell BK253.out 2).trans rfl; have hcz38_3 : w37.cell? ⟨gb253, 3, none⟩ = some (.string t250) := (blk_cell BK253.out 3).trans rfl; have hcz38_4 : w37.cell? ⟨gb253, 4, none⟩ = some (.int .i64 t251) := (blk_cell BK253.out 4).trans rfl; have hfz38_0 := blk_frozen BK253.out 0; have hfz38_1 := blk_frozen BK253.out 1; have hfz38_2 := blk_frozen BK253.out 2; have hfz38_3 := blk_frozen BK253.out 3; have hfz38_4 := blk_frozen BK253.out 4) | ((with_reducible refine gate_callee (f := 21) rfl ?_); refine goesL_ (some 85) rfl rfl Tryz.func21 (by kernel_rfl) rfl #[.agg #[.int .u8 t245, .string t246, .slice Ao36 t247.length co36, .string t250, .int .i64 t251]] rfl (by (try simp only [List.map_toArray, List.map_cons, List.map_nil]); first | done | rfl | (simp only [List.length_drop, List.length_take]; rfl)) ?_; (with_reducible refine (r4_read.calls k1 t245 t246 (fun k_ => some k_ = (.slice Ao36 t247.length co36 : Value).ownBlock) (.slice Ao36 t247.length co36) t247 t250 t251 t254 t255 t256 t259 t260 t261 t262 w _ ?side1 ?side2 A18.out).mono ?_); (case side1 => repeat (first | (with_reducible first | exact HB.out | apply below_alloc | apply pw_below_drewN | apply below_drew1 | refine below_set ?_ GE253.out) | exact HB.out)); (case side2 => exact Kd.R_tight rfl HO249.out); rintro e w39 ⟨v257, rfl, ho0, hb, hkp⟩; refine ⟨_, rfl, ?_⟩; have n0_ := Az.mk (Kd.S_mono (ok' := fun k_ => k_ ≠ gb253 ∧ some k_ ≠ (v257 : Value).ownBlock) (Kd.S_keptB (HO_7.out) hkp (fun k_ hk_ hs_ => (hk_.1) hs_)) (fun k_ hk_ => ⟨hk_.1.2, fun e_ => Or.elim (ho0.1 k_ e_.symm) (fun hs_ => hk_.2.1 hs_) (fun hn_ => Nat.not_le.2 hk_.2.2 hn_)⟩)); have n1_ := Az.mk (blk_kept (twb BK253.out) hkp (fun hs_ => (fun e_ => (Kd.R_ne HO249.out BK253.out (by decide)) e_) hs_)); have n2_ := Az.mk (Kd.R_mono (ok' := fun k_ => True) ho0 (fun k_ hk_ => trivial)); have n3_ := Az.mk (hb); clear HO_7; clear BK253; clear HB; clear HO249; have HO_7 := n0_; have BK253 := n1_; have HO258 := n2_; have HB := n3_; clear n0_ n1_ n2_ n3_; (try clear hb); (try clear hkp); (try clear ho0); have hcz40_0 : w39.cell? ⟨gb253, 0, none⟩ = some (.int .u8 t245) := (blk_cell BK253.out 0).trans rfl; have hcz40_1 : w39.cell? ⟨gb253, 1, none⟩ = some (.string t246) := (blk_cell BK253.out 1).trans rfl; have hcz40_2 : w39.cell? ⟨gb253, 2, none⟩ = some (.slice Ao36 t247.length co36) := (blk_cell BK253.out 2).trans rfl; have hcz40_3 : w39.cell? ⟨gb253, 3, none⟩ = some (.string t250) := (blk_cell BK253.out 3).trans rfl; have hcz40_4 : w39.cell? ⟨gb253, 4, none⟩ = some (.int .i64 t251) := (blk_cell BK253.out 4).trans rfl; have hfz40_0 := blk_frozen BK253.out 0; have hfz40_1 := blk_frozen BK253.out 1; have hfz40_2 := blk_frozen BK253.out 2; have hfz40_3 := blk_frozen BK253.out 3; have hfz40_4 := blk_frozen BK253.out 4; obtain ⟨Ao41, co41, eo41⟩ := Kd.R_slice HO258.out; subst eo41))
           go_ret3
           exact ⟨_, by first | rfl | (simp [errW_none, errW_some] <;> rfl) | (simp [*, errW_none, errW_some] <;> rfl), by first | exact Kd.S_nil _ _ _ _ _ | exact Kd.N_nil _ _ _ _ _ | exact Kd.V_nil _ _ _ _ _ | exact Kd.Q_nil _ _ _ _ _ | exact Kd.R_nil _ _ _ _ _, by repeat (first | (with_reducible first | exact HB.out | apply below_alloc | apply pw_below_drewN | apply below_drew1 | refine below_set ?_ GE253.out) | exact HB.out)⟩
       ·rw [if_neg c9] at H
        have c9b0 : ((bt a0 x8_1) == 60) = false := beq_eq_false_iff_ne.mpr c9
        have c9b1 : ((bt a0 x8_1) != 60) = true := bne_iff_ne.mpr c9
        replace H := Option.bind_eq_some_iff.mp H
        obtain ⟨t231, A420, H⟩ := H
        replace H : (if t231 < 0 then (if x8_1 ≤ (a0.size : Int) then (if (a0.size : Int) ≤ (a0.size : Int) then ((r3_Decode.f k1 (a0.extract (x8_1 : Int).toNat ((a0.size : Int) : Int).toNat)).bind fun bt232 => (if bt232.2.2 = 0 then (if x7_1.length < 1954687338268 then (r4_Tokens.l0 k1 a0 (x7_1 ++ [(⟨4, (⟨#[]⟩ : ByteArray), ([] : List (S66)), bt232.1, x8_1⟩ : S36)]) (a0.size : Int)) else (none)) else (some (([] : List (S36)), wrap64 (x8_1 + bt232.2.1), bt232.2.2)))) else (none)) else (none)) else (if x8_1 ≤ t231 then (if t231 ≤ (a0.size : Int) then ((r3_Decode.f k1 (a0.extract (x8_1 : Int).toNat (t231 : Int).toNat)).bind fun bt238 => (if bt238.2.2 = 0 then (if x7_1.length < 1954687338268 then (r4_Tokens.l0 k1 a0 (x7_1 ++ [(⟨4, (⟨#[]⟩ : ByteArray), ([] : List (S66)), bt238.1, x8_1⟩ : S36)]) t231) else (none)) else (some (([] : List (S36)), wrap64 (x8_1 + bt238.2.1), bt238.2.2)))) else (none)) else (none))) = some (r1, r2, r3) := H
        have A42 := Az.mk A420
        clear A420
        by_cases c43 : t231 < 0
        ·rw [if_pos c43] at H
         have c43b0 : decide (t231 < 0) = true := decide_eq_true c43
         clear c43
         have c44b0 := eq_true (of_decide_eq_true (by assumption) : 0 ≤ x8_1)
         by_cases c45 : x8_1 ≤ (a0.size : Int)
         ·rw [if_pos c45] at H
          have c45b0 := eq_true c45
          have c45b1 : decide (x8_1 ≤ (a0.size : Int)) = true := decide_eq_true c45
          clear c45
          by_cases c46 : (a0.size : Int) ≤ (a0.size : Int)
          ·rw [if_pos c46] at H
           have c46b0 := eq_true c46
           have c46b1 : decide ((a0.size : Int) ≤ (a0.size : Int)) = true := decide_eq_true c46
           clear c46
           replace H := Option.bind_eq_some_iff.mp H
           obtain ⟨⟨t232, t233, t234⟩, A470, H⟩ := H
           replace H : (if t234 = 0 then (if x7_1.length < 1954687338268 then (r4_Tokens.l0 k1 a0 (x7_1 ++ [(⟨4, (⟨#[]⟩ : ByteArray), ([] : List (S66)), t232, x8_1⟩ : S36)]) (a0.size : Int)) else (none)) else (some (([] : List (S36)), wrap64 (x8_1 + t233), t234))) = some (r1, r2, r3) := H
           have A47 := Az.mk A470
           clear A470
           by_cases c48 : t234 = 0
           ·rw [if_pos c48] at H
            have c48b0 : (t234 == 0) = true := beq_iff_eq.mpr c48
            have c48b1 : (t234 != 0) = false := bne_eq_false_iff_eq.mpr c48
            clear c48
            by_cases c49 : x7_1.length < 1954687338268
            ·rw [if_pos c49] at H
             have LMc49 := Az.mk c49
             clear c49
             obtain ⟨y235, hy235⟩ : ∃ y_ : List (S36), y_ = (x7_1 ++ [(⟨4, (⟨#[]⟩ : ByteArray), ([] : List (S66)), t232, x8_1⟩ : S36)]) := ⟨_, rfl⟩
             replace H : (r4_Tokens.l0 k1 a0 y235 (a0.size : Int)) = some (r1, r2, r3) := by first | (rw [hy235]; with_reducible exact H) | (have H2_ := (Option.bind_some _ _).symm.trans H; rw [hy235]; with_reducible exact H2_) | (have H2_ := (Option.bind_some _ _).symm.trans H; with_reducible exact H2_) | with_reducible exact H | (rw [hy235]; exact H) | exact H
             have Ny235 := Az.mk hy235
             clear hy235
             have H' := Az.mk H
             clear H
             have p8 : 0 ≤ (x8_1 : Int) := of_decide_eq_true (by assumption)
             have q8 : x8_1 < (a0.size : Int) := of_decide_eq_true (by assumption)
             have hx8 := bt_at a0 x8_1
             replace p8 := eq_true p8
             replace q8 := eq_true q8
             go_wp2_with (first | ((with_reducible refine gate_callee (f := 17) rfl ?_); refine goesL_ (some 39) rfl rfl Tryz.func17 (by kernel_rfl) rfl #[.string a0, .int .i64 x8_1, .string (⟨#[60]⟩ : ByteArray)] rfl (by (try simp only [List.map_toArray, List.map_cons, List.map_nil]); first | done | rfl | (simp only [List.length_drop, List.length_take]; rfl)) ?_; (with_reducible refine (r4_find.calls k1 a0 x8_1 (⟨#[60]⟩ : ByteArray) t231 _ A42.out).mono ?_); rintro e w' ⟨rfl, ⟨nd, rfl⟩⟩; refine ⟨_, rfl, ?_⟩) | ((with_reducible refine gate_callee (f := 18) rfl ?_); refine goesL_ (some 49) rfl rfl Tryz.func18 (by kernel_rfl) rfl #[.string (a0.extract (x8_1 : Int).toNat ((a0.size : Int) : Int).toNat)] rfl (by (try simp only [List.map_toArray, List.map_cons, List.map_nil]); first | done | rfl | (simp only [List.length_drop, List.length_take]; rfl)) ?_; (with_reducible refine (r3_Decode.calls k1 (a0.extract (x8_1 : Int).toNat ((a0.size : Int) : Int).toNat) t232 t233 t234 _ A47.out).mono ?_); rintro e w50 ⟨rfl, hb⟩; refine ⟨_, rfl, ?_⟩; have n0_ := Az.mk (Kd.S_below (tws HO_7.out) hb); have n1_ := Az.mk (below_step (tw HB.out) hb); clear HO_7; clear HB; have HO_7 := n0_; have HB := n1_; clear n0_ n1_; (try clear hb); (try clear hb2); (try clear hk); (try clear hi)) | ((with_reducible refine gate_builtin (b := .append) (xs := #[.tmp 59, .tmp 63]) rfl ?_); at_builtin; refine Kd.S_append k36 (w0 := w) w.heap.size rfl (.tmp 59) (.tmp 63) 23 36 (.agg #[(.int .u8 0), (.string ⟨#[]⟩), (.slice none 0 0), (.string ⟨#[]⟩), (.int .i64 0)]) 72 rfl Tryz.underlying23 info36 rfl (by decide) (by omega) u7 x7_1 (⟨4, (⟨#[]⟩ : ByteArray), ([] : List (S66)), t232, x8_1⟩ : S36) [.int .u8 4, .string (⟨#[]⟩ : ByteArray), .slice none 0 0, .string t232, .int .i64 x8_1] (fun _ => True) (fun _ => False) rfl rfl ?aP (fun k_ hk_ => hk_.elim) ?aF ?aO ?aB ?aS ?aL ?_; (case aP => exact k36_mkM _ _ _ (⟨4, (⟨#[]⟩ : ByteArray), ([] : List (S66)), t232, x8_1⟩ : S36) (Kd.R_nil _ _ _ _ _)); (case aB => exact (tw HB.out)); (case aF => exact (fun _ _ => trivial)); (case aO => exact (by (with_reducible repeat (first | apply Kd.S_alloc | apply Kd.S_drewN | apply Kd.S_drew)); exact Kd.S_mono HO_7.out (fun k_ hk => ⟨trivial, fun e_ => e_⟩))); (case aS => exact (below_size (tw HB.out))); (case aL => have := LMc49.out; omega); intro v236 w51 ho hb hg hat; rw [← Ny235.out] at ho; have n0_ := Az.mk (hb); have n1_ := Az.mk (ho); clear HB; clear HO_7; have HB := n0_; have HO237 := n1_; clear n0_ n1_; clear ho hb hg hat))
             go_roundg k1
             case measure => have := HK1.out; omega
             case rel => exact ⟨(y235), ((a0.size : Int)), (by first | rfl | (simp; done) | (simp [*]; done)), H', ⟨by have := HK1.out; omega⟩, ⟨tws HO237.out⟩, ⟨tw HB.out⟩⟩
            ·rw [if_neg c49] at H
             exact absurd H (by simp)
           ·rw [if_neg c48] at H
            have c48b0 : (t234 == 0) = false := beq_eq_false_iff_ne.mpr c48
            have c48b1 : (t234 != 0) = true := bne_iff_ne.mpr c48
            simp only [Option.some.injEq, Prod.mk.injEq] at H
            obtain ⟨rfl, rfl, rfl⟩ := H
            have p8 : 0 ≤ (x8_1 : Int) := of_decide_eq_true (by assumption)
            have q8 : x8_1 < (a0.size : Int) := of_decide_eq_true (by assumption)
            have hx8 := bt_at a0 x8_1
            replace p8 := eq_true p8
            replace q8 := eq_true q8
            go_wp2_with (first | ((with_reducible refine gate_callee (f := 17) rfl ?_); refine goesL_ (some 39) rfl rfl Tryz.func17 (by kernel_rfl) rfl #[.string a0, .int .i64 x8_1, .string (⟨#[60]⟩ : ByteArray)] rfl (by (try simp only [List.map_toArray, List.map_cons, List.map_nil]); first | done | rfl | (simp only [List.length_drop, List.length_take]; rfl)) ?_; (with_reducible refine (r4_find.calls k1 a0 x8_1 (⟨#[60]⟩ : ByteArray) t231 _ A42.out).mono ?_); rintro e w' ⟨rfl, ⟨nd, rfl⟩⟩; refine ⟨_, rfl, ?_⟩) | ((with_reducible refine gate_callee (f := 18) rfl ?_); refine goesL_ (some 49) rfl rfl Tryz.func18 (by kernel_rfl) rfl #[.string (a0.extract (x8_1 : Int).toNat ((a0.size : Int) : Int).toNat)] rfl (by (try simp only [List.map_toArray, List.map_cons, List.map_nil]); first | done | rfl | (simp only [List.length_drop, List.length_take]; rfl)) ?_; (with_reducible refine (r3_Decode.calls k1 (a0.extract (x8_1 : Int).toNat ((a0.size : Int) : Int).toNat) t232 t233 t234 _ A47.out).mono ?_); rintro e w52 ⟨rfl, hb⟩; refine ⟨_, rfl, ?_⟩; have n0_ := Az.mk (Kd.S_below (tws HO_7.out) hb); have n1_ := Az.mk (below_step (tw HB.out) hb); clear HO_7; clear HB; have HO_7 := n0_; have HB := n1_; clear n0_ n1_; (try clear hb); (try clear hb2); (try clear hk); (try clear hi)))
            go_ret3
            exact ⟨_, by first | rfl | (simp [errW_none, errW_some] <;> rfl) | (simp [*, errW_none, errW_some] <;> rfl), by first | exact Kd.S_nil _ _ _ _ _ | exact Kd.N_nil _ _ _ _ _ | exact Kd.V_nil _ _ _ _ _ | exact Kd.Q_nil _ _ _ _ _ | exact Kd.R_nil _ _ _ _ _, tw HB.out⟩
          ·rw [if_neg c46] at H
           exact absurd H (by simp)
         ·rw [if_neg c45] at H
          exact absurd H (by simp)
        ·rw [if_neg c43] at H
         have c43b0 : decide (t231 < 0) = false := decide_eq_false c43
         clear c43
         have c53b0 := eq_true (of_decide_eq_true (by assumption) : 0 ≤ x8_1)
         by_cases c54 : x8_1 ≤ t231
         ·rw [if_pos c54] at H
          have c54b0 := eq_true c54
          have c54b1 : decide (x8_1 ≤ t231) = true := decide_eq_true c54
          clear c54
          by_cases c55 : t231 ≤ (a0.size : Int)
          ·rw [if_pos c55] at H
           have c55b0 := eq_true c55
           have c55b1 : decide (t231 ≤ (a0.size : Int)) = true := decide_eq_true c55
           clear c55
           replace H := Option.bind_eq_some_iff.mp H
           obtain ⟨⟨t238, t239, t240⟩, A560, H⟩ := H
           replace H : (if t240 = 0 then (if x7_1.length < 1954687338268 then (r4_Tokens.l0 k1 a0 (x7_1 ++ [(⟨4, (⟨#[]⟩ : ByteArray), ([] : List (S66)), t238, x8_1⟩ : S36)]) t231) else (none)) else (some (([] : List (S36)), wrap64 (x8_1 + t239), t240))) = some (r1, r2, r3) := H
           have A56 := Az.mk A560
           clear A560
           by_cases c57 : t240 = 0
           ·rw [if_pos c57] at H
            have c57b0 : (t240 == 0) = true := beq_iff_eq.mpr c57
            have c57b1 : (t240 != 0) = false := bne_eq_false_iff_eq.mpr c57
            clear c57
            by_cases c58 : x7_1.length < 1954687338268
            ·rw [if_pos c58] at H
             have LMc58 := Az.mk c58
             clear c58
             obtain ⟨y241, hy241⟩ : ∃ y_ : List (S36), y_ = (x7_1 ++ [(⟨4, (⟨#[]⟩ : ByteArray), ([] : List (S66)), t238, x8_1⟩ : S36)]) := ⟨_, rfl⟩
             replace H : (r4_Tokens.l0 k1 a0 y241 t231) = some (r1, r2, r3) := by first | (rw [hy241]; with_reducible exact H) | (have H2_ := (Option.bind_some _ _).symm.trans H; rw [hy241]; with_reducible exact H2_) | (have H2_ := (Option.bind_some _ _).symm.trans H; with_reducible exact H2_) | with_reducible exact H | (rw [hy241]; exact H) | exact H
             have Ny241 := Az.mk hy241
             clear hy241
             have H' := Az.mk H
             clear H
             have p8 : 0 ≤ (x8_1 : Int) := of_decide_eq_true (by assumption)
             have q8 : x8_1 < (a0.size : Int) := of_decide_eq_true (by assumption)
             have hx8 := bt_at a0 x8_1
             replace p8 := eq_true p8
             replace q8 := eq_true q8
             go_wp2_with (first | ((with_reducible refine gate_callee (f := 17) rfl ?_); refine goesL_ (some 39) rfl rfl Tryz.func17 (by kernel_rfl) rfl #[.string a0, .int .i64 x8_1, .string (⟨#[60]⟩ : ByteArray)] rfl (by (try simp only [List.map_toArray, List.map_cons, List.map_nil]); first | done | rfl | (simp only [List.length_drop, List.length_take]; rfl)) ?_; (with_reducible refine (r4_find.calls k1 a0 x8_1 (⟨#[60]⟩ : ByteArray) t231 _ A42.out).mono ?_); rintro e w' ⟨rfl, ⟨nd, rfl⟩⟩; refine ⟨_, rfl, ?_⟩) | ((with_reducible refine gate_callee (f := 18) rfl ?_); refine goesL_ (some 49) rfl rfl Tryz.func18 (by kernel_rfl) rfl #[.string (a0.extract (x8_1 : Int).toNat (t231 : Int).toNat)] rfl (by (try simp only [List.map_toArray, List.map_cons, List.map_nil]); first | done | rfl | (simp only [List.length_drop, List.length_take]; rfl)) ?_; (with_reducible refine (r3_Decode.calls k1 (a0.extract (x8_1 : Int).toNat (t231 : Int).toNat) t238 t239 t240 _ A56.out).mono ?_); rintro e w59 ⟨rfl, hb⟩; refine ⟨_, rfl, ?_⟩; have n0_ := Az.mk (Kd.S_below (tws HO_7.out) hb); have n1_ := Az.mk (below_step (tw HB.out) hb); clear HO_7; clear HB; have HO_7 := n0_; have HB := n1_; clear n0_ n1_; (try clear hb); (try clear hb2); (try clear hk); (try clear hi)) | ((with_reducible refine gate_builtin (b := .append) (xs := #[.tmp 59, .tmp 63]) rfl ?_); at_builtin; refine Kd.S_append k36 (w0 := w) w.heap.size rfl (.tmp 59) (.tmp 63) 23 36 (.agg #[(.int .u8 0), (.string ⟨#[]⟩), (.slice none 0 0), (.string ⟨#[]⟩), (.int .i64 0)]) 72 rfl Tryz.underlying23 info36 rfl (by decide) (by omega) u7 x7_1 (⟨4, (⟨#[]⟩ : ByteArray), ([] : List (S66)), t238, x8_1⟩ : S36) [.int .u8 4, .string (⟨#[]⟩ : ByteArray), .slice none 0 0, .string t238, .int .i64 x8_1] (fun _ => True) (fun _ => False) rfl rfl ?aP (fun k_ hk_ => hk_.elim) ?aF ?aO ?aB ?aS ?aL ?_; (case aP => exact k36_mkM _ _ _ (⟨4, (⟨#[]⟩ : ByteArray), ([] : List (S66)), t238, x8_1⟩ : S36) (Kd.R_nil _ _ _ _ _)); (case aB => exact (tw HB.out)); (case aF => exact (fun _ _ => trivial)); (case aO => exact (by (with_reducible repeat (first | apply Kd.S_alloc | apply Kd.S_drewN | apply Kd.S_drew)); exact Kd.S_mono HO_7.out (fun k_ hk => ⟨trivial, fun e_ => e_⟩))); (case aS => exact (below_size (tw HB.out))); (case aL => have := LMc58.out; omega); intro v242 w60 ho hb hg hat; rw [← Ny241.out] at ho; have n0_ := Az.mk (hb); have n1_ := Az.mk (ho); clear HB; clear HO_7; have HB := n0_; have HO243 := n1_; clear n0_ n1_; clear ho hb hg hat))
             go_roundg k1
             case measure => have := HK1.out; omega
             case rel => exact ⟨(y241), (t231), (by first | rfl | (simp; done) | (simp [*]; done)), H', ⟨by have := HK1.out; omega⟩, ⟨tws HO243.out⟩, ⟨tw HB.out⟩⟩
            ·rw [if_neg c58] at H
             exact absurd H (by simp)
           ·rw [if_neg c57] at H
            have c57b0 : (t240 == 0) = false := beq_eq_false_iff_ne.mpr c57
            have c57b1 : (t240 != 0) = true := bne_iff_ne.mpr c57
            simp only [Option.some.injEq, Prod.mk.injEq] at H
            obtain ⟨rfl, rfl, rfl⟩ := H
            have p8 : 0 ≤ (x8_1 : Int) := of_decide_eq_true (by assumption)
            have q8 : x8_1 < (a0.size : Int) := of_decide_eq_true (by assumption)
            have hx8 := bt_at a0 x8_1
            replace p8 := eq_true p8
            replace q8 := eq_true q8
            go_wp2_with (first | ((with_reducible refine gate_callee (f := 17) rfl ?_); refine goesL_ (some 39) rfl rfl Tryz.func17 (by kernel_rfl) rfl #[.string a0, .int .i64 x8_1, .string (⟨#[60]⟩ : ByteArray)] rfl (by (try simp only [List.map_toArray, List.map_cons, List.map_nil]); first | done | rfl | (simp only [List.length_drop, List.length_take]; rfl)) ?_; (with_reducible refine (r4_find.calls k1 a0 x8_1 (⟨#[60]⟩ : ByteArray) t231 _ A42.out).mono ?_); rintro e w' ⟨rfl, ⟨nd, rfl⟩⟩; refine ⟨_, rfl, ?_⟩) | ((with_reducible refine gate_callee (f := 18) rfl ?_); refine goesL_ (some 49) rfl rfl Tryz.func18 (by kernel_rfl) rfl #[.string (a0.extract (x8_1 : Int).toNat (t231 : Int).toNat)] rfl (by (try simp only [List.map_toArray, List.map_cons, List.map_nil]); first | done | rfl | (simp only [List.length_drop, List.length_take]; rfl)) ?_; (with_reducible refine (r3_Decode.calls k1 (a0.extract (x8_1 : Int).toNat (t231 : Int).toNat) t238 t239 t240 _ A56.out).mono ?_); rintro e w61 ⟨rfl, hb⟩; refine ⟨_, rfl, ?_⟩; have n0_ := Az.mk (Kd.S_below (tws HO_7.out) hb); have n1_ := Az.mk (below_step (tw HB.out) hb); clear HO_7; clear HB; have HO_7 := n0_; have HB := n1_; clear n0_ n1_; (try clear hb); (try clear hb2); (try clear hk); (try clear hi)))
            go_ret3
            exact ⟨_, by first | rfl | (simp [errW_none, errW_some] <;> rfl) | (simp [*, errW_none, errW_some] <;> rfl), by first | exact Kd.S_nil _ _ _ _ _ | exact Kd.N_nil _ _ _ _ _ | exact Kd.V_nil _ _ _ _ _ | exact Kd.Q_nil _ _ _ _ _ | exact Kd.R_nil _ _ _ _ _, tw HB.out⟩
          ·rw [if_neg c55] at H
           exact absurd H (by simp)
         ·rw [if_neg c54] at H
          exact absurd H (by simp)
      ·rw [if_neg c7] at H
       exact absurd H (by simp)
     ·rw [if_neg c6] at H
      have c6b0 : decide (x8_1 < (a0.size : Int)) = false := decide_eq_false c6
      clear c6
      simp only [Option.some.injEq, Prod.mk.injEq] at H
      obtain ⟨rfl, rfl, rfl⟩ := H
      go_wp2
      go_ret3
      exact ⟨_, by first | rfl | (simp [errW_none, errW_some] <;> rfl) | (simp [*, errW_none, errW_some] <;> rfl), tws HO_7.out, tw HB.out⟩
  ·rw [if_neg c4] at H
   have c4b0 : (t230 == 0) = false := beq_eq_false_iff_ne.mpr c4
   have c4b1 : (t230 != 0) = true := bne_iff_ne.mpr c4
   simp only [Option.some.injEq, Prod.mk.injEq] at H
   obtain ⟨rfl, rfl, rfl⟩ := H
   go_enter Tryz.func8, Tryz.ntmps8
   go_wp2_with (first | ((with_reducible refine gate_callee (f := 15) rfl ?_); refine goesL_ (some 22) rfl rfl Tryz.func15 (by kernel_rfl) rfl #[.string a0] rfl (by (try simp only [List.map_toArray, List.map_cons, List.map_nil]); first | done | rfl | (simp only [List.length_drop, List.length_take]; rfl)) ?_; (with_reducible refine (r1_Valid.calls k a0 t229 t230 _ A3.out).mono ?_); rintro e w62 ⟨rfl, hb⟩; refine ⟨_, rfl, ?_⟩; have n0_ := Az.mk (below_step (tw HB.out) hb); clear HB; have HB := n0_; clear n0_; (try clear hb); (try clear hb2); (try clear hk); (try clear hi)))
   go_ret3
   exact ⟨_, by first | rfl | (simp [errW_none, errW_some] <;> rfl) | (simp [*, errW_none, errW_some] <;> rfl), by first | exact Kd.S_nil _ _ _ _ _ | exact Kd.N_nil _ _ _ _ _ | exact Kd.V_nil _ _ _ _ _ | exact Kd.Q_nil _ _ _ _ _ | exact Kd.R_nil _ _ _ _ _, tw HB.out⟩
end Go.Proofs.YtpknhgejnfmijaaGreatDoor.PC
