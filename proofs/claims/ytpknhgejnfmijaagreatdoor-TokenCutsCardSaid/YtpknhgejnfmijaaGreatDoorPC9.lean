/- A text of the claim, with what no other text of it needs taken out. -/
import Derived.Test.YtpknhgejnfmijaaGreatDoorPC0
import Derived.Test.YtpknhgejnfmijaaGreatDoorPC4
import Derived.Test.YtpknhgejnfmijaaGreatDoorPC7
import Derived.Test.YtpknhgejnfmijaaGreatDoorPC8
namespace Go.Proofs.YtpknhgejnfmijaaGreatDoor.PC
open Go.Proofs.YtpknhgejnfmijaaGreatDoor.K
open Go.RowKit Go.Proofs.YtpknhgejnfmijaaGreatDoorW.PrintWords Go.Proofs.YtpknhgejnfmijaaGreatDoorW.PrintLast Go.Proofs.YtpknhgejnfmijaaGreatDoorW.PrintMore
attribute [local go_sem] max2_int min2_int max_two min_two max_three min_three max_four min_four
set_option linter.unusedVariables false
set_option linter.unusedSimpArgs false
mutual
def r4_tag.l0 : Nat → ByteArray → Int → Int → Int → ByteArray → List (S66) → ByteArray → Int → Option (Int × ByteArray × (List (S66)) × ByteArray × Int × Int)
 | 0, _, _, _, _, _, _, _, _ => none
 | k + 1, x0, x1, x10, x210000, x210001, x210002, x210003, x210004 => (r4_blanks.f k x0 x10).bind fun t210 => ((r4_has.f x0 (wrap64 (x10 + t210)) (⟨#[62]⟩ : ByteArray)).bind fun t211 => (if t211 = true then (some (x210000, x210001, x210002, x210003, x210004, wrap64 ((wrap64 ((wrap64 (x10 + t210)) + 1)) - x1))) else ((r4_has.f x0 (wrap64 (x10 + t210)) (⟨#[47, 62]⟩ : ByteArray)).bind fun t212 => (if t212 = true then (some (3, x210001, x210002, x210003, x210004, wrap64 ((wrap64 ((wrap64 (x10 + t210)) + 2)) - x1))) else (if t210 = 0 then (r4_tag.j1 k x0 x1 x10 t210 true x210000 x210001 x210002 x210003 x210004) else (r4_tag.j1 k x0 x1 x10 t210 (decide ((wrap64 (x10 + t210)) ≥ (x0.size : Int))) x210000 x210001 x210002 x210003 x210004))))))
def r4_tag.j1 : Nat → ByteArray → Int → Int → Int → Bool → Int → ByteArray → List (S66) → ByteArray → Int → Option (Int × ByteArray × (List (S66)) × ByteArray × Int × Int)
 | 0, _, _, _, _, _, _, _, _, _, _ => none
 | k + 1, x0, x1, x10, x11, x113, x210000, x210001, x210002, x210003, x210004 => if x113 = true then (some (0, (⟨#[]⟩ : ByteArray), ([] : List (S66)), (⟨#[]⟩ : ByteArray), 0, 0)) else ((r4_attribute.f k x0 (wrap64 (x10 + x11))).bind fun bt213 => (if bt213.2.2.2 = 0 then (some (0, (⟨#[]⟩ : ByteArray), ([] : List (S66)), (⟨#[]⟩ : ByteArray), 0, 0)) else (if x210002.length < 3518437208883 then (r4_tag.l0 k x0 x1 (wrap64 ((wrap64 (x10 + x11)) + bt213.2.2.2)) x210000 x210001 (x210002 ++ [(⟨bt213.1, bt213.2.1, bt213.2.2.1⟩ : S66)]) x210003 x210004) else (none))))
end
def r4_tag.f (k : Nat) (a0 : ByteArray) (a1 : Int) : Option (Int × ByteArray × (List (S66)) × ByteArray × Int × Int) := (r4_has.f a0 a1 (⟨#[60, 47]⟩ : ByteArray)).bind fun t204 => (if t204 = true then (if 0 ≤ (wrap64 (a1 + 2)) then (if (wrap64 (a1 + 2)) ≤ (a0.size : Int) then ((r2_Begin.f k (a0.extract ((wrap64 (a1 + 2)) : Int).toNat a0.size)).bind fun t205 => ((r4_blanks.f k a0 (wrap64 ((wrap64 (a1 + 2)) + t205))).bind fun t206 => (if t205 = 0 then (some (0, (⟨#[]⟩ : ByteArray), ([] : List (S66)), (⟨#[]⟩ : ByteArray), 0, 0)) else ((r4_has.f a0 (wrap64 ((wrap64 ((wrap64 (a1 + 2)) + t205)) + t206)) (⟨#[62]⟩ : ByteArray)).bind fun t207 => (if t207 = true then (if (wrap64 (a1 + 2)) ≤ (wrap64 ((wrap64 (a1 + 2)) + t205)) then (if (wrap64 ((wrap64 (a1 + 2)) + t205)) ≤ (a0.size : Int) then (some (2, a0.extract ((wrap64 (a1 + 2)) : Int).toNat ((wrap64 ((wrap64 (a1 + 2)) + t205)) : Int).toNat, ([] : List (S66)), (⟨#[]⟩ : ByteArray), a1, wrap64 ((wrap64 ((wrap64 ((wrap64 ((wrap64 (a1 + 2)) + t205)) + t206)) + 1)) - a1))) else (none)) else (none)) else (some (0, (⟨#[]⟩ : ByteArray), ([] : List (S66)), (⟨#[]⟩ : ByteArray), 0, 0))))))) else (none)) else (none)) else (if 0 ≤ (wrap64 (a1 + 1)) then (if (wrap64 (a1 + 1)) ≤ (a0.size : Int) then ((r2_Begin.f k (a0.extract ((wrap64 (a1 + 1)) : Int).toNat a0.size)).bind fun t208 => (if t208 = 0 then (some (0, (⟨#[]⟩ : ByteArray), ([] : List (S66)), (⟨#[]⟩ : ByteArray), 0, 0)) else (if (wrap64 (a1 + 1)) ≤ (wrap64 ((wrap64 (a1 + 1)) + t208)) then (if (wrap64 ((wrap64 (a1 + 1)) + t208)) ≤ (a0.size : Int) then (r4_tag.l0 k a0 a1 (wrap64 ((wrap64 (a1 + 1)) + t208)) 1 (a0.extract ((wrap64 (a1 + 1)) : Int).toNat ((wrap64 ((wrap64 (a1 + 1)) + t208)) : Int).toNat) ([] : List (S66)) (⟨#[]⟩ : ByteArray) a1) else (none)) else (none)))) else (none)) else (none)))
set_option maxHeartbeats 8000000 in
set_option maxRecDepth 100000 in
theorem r4_tag.calls (k : Nat) (a0 : ByteArray) (a1 : Int) (r1 : Int) (r2 : ByteArray) (r3 : List (S66)) (r4 : ByteArray) (r5 : Int) (r6 : Int) (w : World) (h : r4_tag.f k a0 a1 = some (r1, r2, r3, r4, r5, r6)) :
  Calls Tryz.prog 20 #[.string a0, .int .i64 a1] w fun e w' => ∃ v2_ : Value, e = .returned (.tuple #[.agg #[.int .u8 r1, .string r2, v2_, .string r4, .int .i64 r5], .int .i64 r6]) ∧ Kd.R k66 66 w' w.heap.size (fun _ => True) v2_ r3 ∧ Below w.heap.size w w' := by
 have hu36 := Tryz.underlying36
 have hu66 := Tryz.underlying66
 have HB := Az.mk (Below.refl w.heap.size w)
 have H := h
 unfold r4_tag.f at H
 clear h
 replace H := Option.bind_eq_some_iff.mp H
 obtain ⟨t204, A30, H⟩ := H
 replace H : (if t204 = true then (if 0 ≤ (wrap64 (a1 + 2)) then (if (wrap64 (a1 + 2)) ≤ (a0.size : Int) then ((r2_Begin.f k (a0.extract ((wrap64 (a1 + 2)) : Int).toNat a0.size)).bind fun t205 => ((r4_blanks.f k a0 (wrap64 ((wrap64 (a1 + 2)) + t205))).bind fun t206 => (if t205 = 0 then (some (0, (⟨#[]⟩ : ByteArray), ([] : List (S66)), (⟨#[]⟩ : ByteArray), 0, 0)) else ((r4_has.f a0 (wrap64 ((wrap64 ((wrap64 (a1 + 2)) + t205)) + t206)) (⟨#[62]⟩ : ByteArray)).bind fun t207 => (if t207 = true then (if (wrap64 (a1 + 2)) ≤ (wrap64 ((wrap64 (a1 + 2)) + t205)) then (if (wrap64 ((wrap64 (a1 + 2)) + t205)) ≤ (a0.size : Int) then (some (2, a0.extract ((wrap64 (a1 + 2)) : Int).toNat ((wrap64 ((wrap64 (a1 + 2)) + t205)) : Int).toNat, ([] : List (S66)), (⟨#[]⟩ : ByteArray), a1, wrap64 ((wrap64 ((wrap64 ((wrap64 ((wrap64 (a1 + 2)) + t205)) + t206)) + 1)) - a1))) else (none)) else (none)) else (some (0, (⟨#[]⟩ : ByteArray), ([] : List (S66)), (⟨#[]⟩ : ByteArray), 0, 0))))))) else (none)) else (none)) else (if 0 ≤ (wrap64 (a1 + 1)) then (if (wrap64 (a1 + 1)) ≤ (a0.size : Int) then ((r2_Begin.f k (a0.extract ((wrap64 (a1 + 1)) : Int).toNat a0.size)).bind fun t208 => (if t208 = 0 then (some (0, (⟨#[]⟩ : ByteArray), ([] : List (S66)), (⟨#[]⟩ : ByteArray), 0, 0)) else (if (wrap64 (a1 + 1)) ≤ (wrap64 ((wrap64 (a1 + 1)) + t208)) then (if (wrap64 ((wrap64 (a1 + 1)) + t208)) ≤ (a0.size : Int) then (r4_tag.l0 k a0 a1 (wrap64 ((wrap64 (a1 + 1)) + t208)) 1 (a0.extract ((wrap64 (a1 + 1)) : Int).toNat ((wrap64 ((wrap64 (a1 + 1)) + t208)) : Int).toNat) ([] : List (S66)) (⟨#[]⟩ : ByteArray) a1) else (none)) else (none)))) else (none)) else (none))) = some (r1, r2, r3, r4, r5, r6) := H
 have A3 := Az.mk A30
 clear A30
 by_cases c4 : t204 = true
 ·subst c4
  have H1 : (if 0 ≤ (wrap64 (a1 + 2)) then (if (wrap64 (a1 + 2)) ≤ (a0.size : Int) then ((r2_Begin.f k (a0.extract ((wrap64 (a1 + 2)) : Int).toNat a0.size)).bind fun t205 => ((r4_blanks.f k a0 (wrap64 ((wrap64 (a1 + 2)) + t205))).bind fun t206 => (if t205 = 0 then (some (0, (⟨#[]⟩ : ByteArray), ([] : List (S66)), (⟨#[]⟩ : ByteArray), 0, 0)) else ((r4_has.f a0 (wrap64 ((wrap64 ((wrap64 (a1 + 2)) + t205)) + t206)) (⟨#[62]⟩ : ByteArray)).bind fun t207 => (if t207 = true then (if (wrap64 (a1 + 2)) ≤ (wrap64 ((wrap64 (a1 + 2)) + t205)) then (if (wrap64 ((wrap64 (a1 + 2)) + t205)) ≤ (a0.size : Int) then (some (2, a0.extract ((wrap64 (a1 + 2)) : Int).toNat ((wrap64 ((wrap64 (a1 + 2)) + t205)) : Int).toNat, ([] : List (S66)), (⟨#[]⟩ : ByteArray), a1, wrap64 ((wrap64 ((wrap64 ((wrap64 ((wrap64 (a1 + 2)) + t205)) + t206)) + 1)) - a1))) else (none)) else (none)) else (some (0, (⟨#[]⟩ : ByteArray), ([] : List (S66)), (⟨#[]⟩ : ByteArray), 0, 0))))))) else (none)) else (none)) = some (r1, r2, r3, r4, r5, r6) := by rw [if_pos rfl] at H; exact H
  clear H
  have H := H1
  clear H1
  obtain ⟨ji5, hji5⟩ : ∃ j_ : Int, (wrap64 (a1 + 2)) = j_ := ⟨_, rfl⟩
  replace H : (if 0 ≤ (ji5) then (if (ji5) ≤ (a0.size : Int) then ((r2_Begin.f k (a0.extract ((ji5) : Int).toNat a0.size)).bind fun t205 => ((r4_blanks.f k a0 (wrap64 ((ji5) + t205))).bind fun t206 => (if t205 = 0 then (some (0, (⟨#[]⟩ : ByteArray), ([] : List (S66)), (⟨#[]⟩ : ByteArray), 0, 0)) else ((r4_has.f a0 (wrap64 ((wrap64 ((ji5) + t205)) + t206)) (⟨#[62]⟩ : ByteArray)).bind fun t207 => (if t207 = true then (if (ji5) ≤ (wrap64 ((ji5) + t205)) then (if (wrap64 ((ji5) + t205)) ≤ (a0.size : Int) then (some (2, a0.extract ((ji5) : Int).toNat ((wrap64 ((ji5) + t205)) : Int).toNat, ([] : List (S66)), (⟨#[]⟩ : ByteArray), a1, wrap64 ((wrap64 ((wrap64 ((wrap64 ((ji5) + t205)) + t206)) + 1)) - a1))) else (none)) else (none)) else (some (0, (⟨#[]⟩ : ByteArray), ([] : List (S66)), (⟨#[]⟩ : ByteArray), 0, 0))))))) else (none)) else (none)) = some (r1, r2, r3, r4, r5, r6) := by first | (rw [hji5] at H; exact H) | (simp only [hji5] at H ⊢; exact H)
  (try rw [hji5] at A3)
  have hji5w : (IntKind.i64.wrap (a1 + 2)) = ji5 := (i64_w _).trans hji5
  by_cases c6 : 0 ≤ (ji5)
  ·rw [if_pos c6] at H
   have c6b0 := eq_true c6
   have c6b1 : decide (0 ≤ (ji5)) = true := decide_eq_true c6
   clear c6
   by_cases c7 : (ji5) ≤ (a0.size : Int)
   ·rw [if_pos c7] at H
    have c7b0 := eq_true c7
    have c7b1 : decide ((ji5) ≤ (a0.size : Int)) = true := decide_eq_true c7
    clear c7
    replace H := Option.bind_eq_some_iff.mp H
    obtain ⟨t205, A80, H⟩ := H
    replace H : ((r4_blanks.f k a0 (wrap64 ((ji5) + t205))).bind fun t206 => (if t205 = 0 then (some (0, (⟨#[]⟩ : ByteArray), ([] : List (S66)), (⟨#[]⟩ : ByteArray), 0, 0)) else ((r4_has.f a0 (wrap64 ((wrap64 ((ji5) + t205)) + t206)) (⟨#[62]⟩ : ByteArray)).bind fun t207 => (if t207 = true then (if (ji5) ≤ (wrap64 ((ji5) + t205)) then (if (wrap64 ((ji5) + t205)) ≤ (a0.size : Int) then (some (2, a0.extract ((ji5) : Int).toNat ((wrap64 ((ji5) + t205)) : Int).toNat, ([] : List (S66)), (⟨#[]⟩ : ByteArray), a1, wrap64 ((wrap64 ((wrap64 ((wrap64 ((ji5) + t205)) + t206)) + 1)) - a1))) else (none)) else (none)) else (some (0, (⟨#[]⟩ : ByteArray), ([] : List (S66)), (⟨#[]⟩ : ByteArray), 0, 0)))))) = some (r1, r2, r3, r4, r5, r6) := H
    have A8 := Az.mk A80
    clear A80
    replace H := Option.bind_eq_some_iff.mp H
    obtain ⟨t206, A90, H⟩ := H
    replace H : (if t205 = 0 then (some (0, (⟨#[]⟩ : ByteArray), ([] : List (S66)), (⟨#[]⟩ : ByteArray), 0, 0)) else ((r4_has.f a0 (wrap64 ((wrap64 ((ji5) + t205)) + t206)) (⟨#[62]⟩ : ByteArray)).bind fun t207 => (if t207 = true then (if (ji5) ≤ (wrap64 ((ji5) + t205)) then (if (wrap64 ((ji5) + t205)) ≤ (a0.size : Int) then (some (2, a0.extract ((ji5) : Int).toNat ((wrap64 ((ji5) + t205)) : Int).toNat, ([] : List (S66)), (⟨#[]⟩ : ByteArray), a1, wrap64 ((wrap64 ((wrap64 ((wrap64 ((ji5) + t205)) + t206)) + 1)) - a1))) else (none)) else (none)) else (some (0, (⟨#[]⟩ : ByteArray), ([] : List (S66)), (⟨#[]⟩ : ByteArray), 0, 0))))) = some (r1, r2, r3, r4, r5, r6) := H
    have A9 := Az.mk A90
    clear A90
    by_cases c10 : t205 = 0
    ·rw [if_pos c10] at H
     have c10b0 : (t205 == 0) = true := beq_iff_eq.mpr c10
     have c10b1 : (t205 != 0) = false := bne_eq_false_iff_eq.mpr c10
     clear c10
     simp only [Option.some.injEq, Prod.mk.injEq] at H
     obtain ⟨rfl, rfl, rfl, rfl, rfl, rfl⟩ := H
     go_enter Tryz.func20, Tryz.ntmps20
     go_wp2_with (first | ((with_reducible refine gate_dst (N := 4) rfl ?_); (try (refine gate_guard (by rfl) ?_; dsimp only)); refine box_event ?hg (N := 4) ?hd (cs := #[.int .u8 0, .string (⟨#[]⟩ : ByteArray), .slice none 0 0, .string (⟨#[]⟩ : ByteArray), .int .i64 0]) (t := 36) ?hr ?_; (case hd => rfl); (case hg => rfl); (case hr => first | (go_simp; done) | (go_simp; rfl)); intro gb203 hg w11 hbox hb; have n0_ := Az.mk (below_step (tw HB.out) hb); have n1_ := Az.mk (hbox); have n2_ := Az.mk ((by rw [hg]; exact (below_size (tw HB.out)) : w.heap.size ≤ gb203)); have n3_ := Az.mk ((by rw [hg]; exact (below_size (tw HB.out)) : w.heap.size ≤ gb203)); clear HB; have HB := n0_; have BK203 := n1_; have GW203 := n2_; have GE203 := n3_; clear n0_ n1_ n2_ n3_; clear hb hbox hg) | ((with_reducible refine gate_callee (f := 30) rfl ?_); refine goesL_ (some 16) rfl rfl Tryz.func30 (by kernel_rfl) rfl #[.string a0, .int .i64 a1, .string (⟨#[60, 47]⟩ : ByteArray)] rfl (by (try simp only [List.map_toArray, List.map_cons, List.map_nil]); first | done | rfl | (simp only [List.length_drop, List.length_take]; rfl)) ?_; (with_reducible refine (r4_has.calls a0 a1 (⟨#[60, 47]⟩ : ByteArray) true _ A3.out).mono ?_); rintro e w' ⟨rfl, ⟨nd, rfl⟩⟩; refine ⟨_, rfl, ?_⟩; (try (rw [drewN_self w11]; generalize hq_ : World.drewN w11 _ = w11; have n0_ : Az (w11.heap[gb203]? = some (.cells #[.int .u8 0, .string (⟨#[]⟩ : ByteArray), .slice none 0 0, .string (⟨#[]⟩ : ByteArray), .int .i64 0] 36 (0, 0))) := ⟨by rw [← hq_]; exact (twb BK203.out)⟩; have n1_ : Az (Below w.heap.size w w11) := ⟨by rw [← hq_]; exact (by repeat (first | (with_reducible first | exact HB.out | apply below_alloc | apply pw_below_drewN | apply below_drew1 | refine below_set ?_ GE203.out) | exact HB.out))⟩; clear BK203 HB hq_; have BK203 := n0_; have HB := n1_; clear n0_ n1_))) | ((with_reducible refine gate_callee (f := 32) rfl ?_); refine goesL_ (some 21) rfl rfl Tryz.func32 (by kernel_rfl) rfl #[.string (a0.extract ((ji5) : Int).toNat a0.size)] rfl (by (try simp only [List.map_toArray, List.map_cons, List.map_nil]); first | done | (simp only [hji5]; rfl) | rfl | (simp only [List.length_drop, List.length_take]; rfl)) ?_; (with_reducible refine (r2_Begin.calls k (a0.extract ((ji5) : Int).toNat a0.size) t205 _ A8.out).mono ?_); rintro e w12 ⟨rfl, hb⟩; refine ⟨_, rfl, ?_⟩; have n0_ := Az.mk (blk_below (g := gb203) (o := .cells #[.int .u8 0, .string (⟨#[]⟩ : ByteArray), .slice none 0 0, .string (⟨#[]⟩ : ByteArray), .int .i64 0] 36 (0, 0)) (twb BK203.out) hb); have n1_ := Az.mk (below_step (by repeat (first | (with_reducible first | exact HB.out | apply below_alloc | apply pw_below_drewN | apply below_drew1 | refine below_set ?_ GE203.out) | exact HB.out)) hb); clear BK203; clear HB; have BK203 := n0_; have HB := n1_; clear n0_ n1_; (try clear hb); (try clear hb2); (try clear hk); (try clear hi)) | ((with_reducible refine gate_callee (f := 33) rfl ?_); refine goesL_ (some 29) rfl rfl Tryz.func33 (by kernel_rfl) rfl #[.string a0, .int .i64 (wrap64 ((ji5) + t205))] rfl (by (try simp only [List.map_toArray, List.map_cons, List.map_nil]); first | done | (simp only [hji5]; rfl) | rfl | (simp only [List.length_drop, List.length_take]; rfl)) ?_; (with_reducible refine (r4_blanks.calls k a0 (wrap64 ((ji5) + t205)) t206 _ A9.out).mono ?_); rintro e w' ⟨rfl, ⟨nd, rfl⟩⟩; refine ⟨_, rfl, ?_⟩; (try (rw [drewN_self w12]; generalize hq_ : World.drewN w12 _ = w12; have n0_ : Az (w12.heap[gb203]? = some (.cells #[.int .u8 0, .string (⟨#[]⟩ : ByteArray), .slice none 0 0, .string (⟨#[]⟩ : ByteArray), .int .i64 0] 36 (0, 0))) := ⟨by rw [← hq_]; exact (twb BK203.out)⟩; have n1_ : Az (Below w.heap.size w w12) := ⟨by rw [← hq_]; exact (by repeat (first | (with_reducible first | exact HB.out | apply below_alloc | apply pw_below_drewN | apply below_drew1 | refine below_set ?_ GE203.out) | exact HB.out))⟩; clear BK203 HB hq_; have BK203 := n0_; have HB := n1_; clear n0_ n1_)); have hcz13_0 : w12.cell? ⟨gb203, 0, none⟩ = some (.int .u8 0) := (blk_cell BK203.out 0).trans rfl; have hcz13_1 : w12.cell? ⟨gb203, 1, none⟩ = some (.string (⟨#[]⟩ : ByteArray)) := (blk_cell BK203.out 1).trans rfl; have hcz13_2 : w12.cell? ⟨gb203, 2, none⟩ = some (.slice none 0 0) := (blk_cell BK203.out 2).trans rfl; have hcz13_3 : w12.cell? ⟨gb203, 3, none⟩ = some (.string (⟨#[]⟩ : ByteArray)) := (blk_cell BK203.out 3).trans rfl; have hcz13_4 : w12.cell? ⟨gb203, 4, none⟩ = some (.int .i64 0) := (blk_cell BK203.out 4).trans rfl; have hfz13_0 := blk_frozen BK203.out 0; have hfz13_1 := blk_frozen BK203.out 1; have hfz13_2 := blk_frozen BK203.out 2; have hfz13_3 := blk_frozen BK203.out 3; have hfz13_4 := blk_frozen BK203.out 4))
     refine bodyPost_ret (results_ct rfl _ _ gb203 36 #[.int .u8 0, .string (⟨#[]⟩ : ByteArray), .slice none 0 0, .string (⟨#[]⟩ : ByteArray), .int .i64 0] (0, 0) _ rfl (by (with_reducible repeat (first | refine blk_drewN ?_ _ | refine blk_drew ?_ | refine blk_alloc ?_ _)); refine blk_put (cs := #[.int .u8 0, .string (⟨#[]⟩ : ByteArray), .slice none 0 0, .string (⟨#[]⟩ : ByteArray), .int .i64 0]) ?_ 4 _ rfl; (with_reducible repeat (first | refine blk_drewN ?_ _ | refine blk_drew ?_ | refine blk_alloc ?_ _)); refine blk_put (cs := #[.int .u8 0, .string (⟨#[]⟩ : ByteArray), .slice none 0 0, .string (⟨#[]⟩ : ByteArray), .int .i64 0]) ?_ 3 _ rfl; (with_reducible repeat (first | refine blk_drewN ?_ _ | refine blk_drew ?_ | refine blk_alloc ?_ _)); refine blk_put (cs := #[.int .u8 0, .string (⟨#[]⟩ : ByteArray), .slice none 0 0, .string (⟨#[]⟩ : ByteArray), .int .i64 0]) ?_ 2 _ rfl; (with_reducible repeat (first | refine blk_drewN ?_ _ | refine blk_drew ?_ | refine blk_alloc ?_ _)); refine blk_put (cs := #[.int .u8 0, .string (⟨#[]⟩ : ByteArray), .slice none 0 0, .string (⟨#[]⟩ : ByteArray), .int .i64 0]) ?_ 1 _ rfl; (with_reducible repeat (first | refine blk_drewN ?_ _ | refine blk_drew ?_ | refine blk_alloc ?_ _)); refine blk_put (cs := #[.int .u8 0, .string (⟨#[]⟩ : ByteArray), .slice none 0 0, .string (⟨#[]⟩ : ByteArray), .int .i64 0]) ?_ 0 _ rfl; (with_reducible repeat (first | refine blk_drewN ?_ _ | refine blk_drew ?_ | refine blk_alloc ?_ _)); exact BK203.out) Tryz.underlying36 rfl (by kernel_rfl)) rfl ?_
     exact ⟨_, by first | rfl | (simp [errW_none, errW_some] <;> rfl) | (simp only [← hji5]; first | rfl | (simp [errW_none, errW_some] <;> rfl)) | (simp [*, errW_none, errW_some] <;> rfl), by first | exact Kd.R_nil _ _ _ _ _ | exact Kd.N_nil _ _ _ _ _ | exact Kd.V_nil _ _ _ _ _ | exact Kd.Q_nil _ _ _ _ _ | exact Kd.S_nil _ _ _ _ _, by repeat (first | (with_reducible first | exact HB.out | apply below_alloc | apply pw_below_drewN | apply below_drew1 | refine below_set ?_ GE203.out) | exact HB.out)⟩
    ·rw [if_neg c10] at H
     have c10b0 : (t205 == 0) = false := beq_eq_false_iff_ne.mpr c10
     have c10b1 : (t205 != 0) = true := bne_iff_ne.mpr c10
     replace H := Option.bind_eq_some_iff.mp H
     obtain ⟨t207, A140, H⟩ := H
     replace H : (if t207 = true then (if (ji5) ≤ (wrap64 ((ji5) + t205)) then (if (wrap64 ((ji5) + t205)) ≤ (a0.size : Int) then (some (2, a0.extract ((ji5) : Int).toNat ((wrap64 ((ji5) + t205)) : Int).toNat, ([] : List (S66)), (⟨#[]⟩ : ByteArray), a1, wrap64 ((wrap64 ((wrap64 ((wrap64 ((ji5) + t205)) + t206)) + 1)) - a1))) else (none)) else (none)) else (some (0, (⟨#[]⟩ : ByteArray), ([] : List (S66)), (⟨#[]⟩ : ByteArray), 0, 0))) = some (r1, r2, r3, r4, r5, r6) := H
     have A14 := Az.mk A140
     clear A140
     by_cases c15 : t207 = true
     ·subst c15
      have H1 : (if (ji5) ≤ (wrap64 ((ji5) + t205)) then (if (wrap64 ((ji5) + t205)) ≤ (a0.size : Int) then (some (2, a0.extract ((ji5) : Int).toNat ((wrap64 ((ji5) + t205)) : Int).toNat, ([] : List (S66)), (⟨#[]⟩ : ByteArray), a1, wrap64 ((wrap64 ((wrap64 ((wrap64 ((ji5) + t205)) + t206)) + 1)) - a1))) else (none)) else (none)) = some (r1, r2, r3, r4, r5, r6) := by rw [if_pos rfl] at H; exact H
      clear H
      have H := H1
      clear H1
      have c16b0 := eq_true (of_decide_eq_true (by assumption) : 0 ≤ (ji5))
      by_cases c17 : (ji5) ≤ (wrap64 ((ji5) + t205))
      ·rw [if_pos c17] at H
       have c17b0 := eq_true c17
       have c17b1 : decide ((ji5) ≤ (wrap64 ((ji5) + t205))) = true := decide_eq_true c17
       by_cases c18 : (wrap64 ((ji5) + t205)) ≤ (a0.size : Int)
       ·rw [if_pos c18] at H
        have c18b0 := eq_true c18
        have c18b1 : decide ((wrap64 ((ji5) + t205)) ≤ (a0.size : Int)) = true := decide_eq_true c18
        simp only [Option.some.injEq, Prod.mk.injEq] at H
        obtain ⟨rfl, rfl, rfl, rfl, rfl, rfl⟩ := H
        go_enter Tryz.func20, Tryz.ntmps20
        go_wp2_with (first | ((with_reducible refine gate_dst (N := 4) rfl ?_); (try (refine gate_guard (by rfl) ?_; dsimp only)); refine box_event ?hg (N := 4) ?hd (cs := #[.int .u8 0, .string (⟨#[]⟩ : ByteArray), .slice none 0 0, .string (⟨#[]⟩ : ByteArray), .int .i64 0]) (t := 36) ?hr ?_; (case hd => rfl); (case hg => rfl); (case hr => first | (go_simp; done) | (go_simp; rfl)); intro gb203 hg w19 hbox hb; have n0_ := Az.mk (below_step (tw HB.out) hb); have n1_ := Az.mk (hbox); have n2_ := Az.mk ((by rw [hg]; exact (below_size (tw HB.out)) : w.heap.size ≤ gb203)); have n3_ := Az.mk ((by rw [hg]; exact (below_size (tw HB.out)) : w.heap.size ≤ gb203)); clear HB; have HB := n0_; have BK203 := n1_; have GW203 := n2_; have GE203 := n3_; clear n0_ n1_ n2_ n3_; clear hb hbox hg) | ((with_reducible refine gate_callee (f := 30) rfl ?_); refine goesL_ (some 16) rfl rfl Tryz.func30 (by kernel_rfl) rfl #[.string a0, .int .i64 a1, .string (⟨#[60, 47]⟩ : ByteArray)] rfl (by (try simp only [List.map_toArray, List.map_cons, List.map_nil]); first | done | rfl | (simp only [List.length_drop, List.length_take]; rfl)) ?_; (with_reducible refine (r4_has.calls a0 a1 (⟨#[60, 47]⟩ : ByteArray) true _ A3.out).mono ?_); rintro e w' ⟨rfl, ⟨nd, rfl⟩⟩; refine ⟨_, rfl, ?_⟩; (try (rw [drewN_self w19]; generalize hq_ : World.drewN w19 _ = w19; have n0_ : Az (w19.heap[gb203]? = some (.cells #[.int .u8 0, .string (⟨#[]⟩ : ByteArray), .slice none 0 0, .string (⟨#[]⟩ : ByteArray), .int .i64 0] 36 (0, 0))) := ⟨by rw [← hq_]; exact (twb BK203.out)⟩; have n1_ : Az (Below w.heap.size w w19) := ⟨by rw [← hq_]; exact (by repeat (first | (with_reducible first | exact HB.out | apply below_alloc | apply pw_below_drewN | apply below_drew1 | refine below_set ?_ GE203.out) | exact HB.out))⟩; clear BK203 HB hq_; have BK203 := n0_; have HB := n1_; clear n0_ n1_))) | ((with_reducible refine gate_callee (f := 32) rfl ?_); refine goesL_ (some 21) rfl rfl Tryz.func32 (by kernel_rfl) rfl #[.string (a0.extract ((ji5) : Int).toNat a0.size)] rfl (by (try simp only [List.map_toArray, List.map_cons, List.map_nil]); first | done | (simp only [hji5]; rfl) | rfl | (simp only [List.length_drop, List.length_take]; rfl)) ?_; (with_reducible refine (r2_Begin.calls k (a0.extract ((ji5) : Int).toNat a0.size) t205 _ A8.out).mono ?_); rintro e w20 ⟨rfl, hb⟩; refine ⟨_, rfl, ?_⟩; have n0_ := Az.mk (blk_below (g := gb203) (o := .cells #[.int .u8 0, .string (⟨#[]⟩ : ByteArray), .slice none 0 0, .string (⟨#[]⟩ : ByteArray), .int .i64 0] 36 (0, 0)) (twb BK203.out) hb); have n1_ := Az.mk (below_step (by repeat (first | (with_reducible first | exact HB.out | apply below_alloc | apply pw_below_drewN | apply below_drew1 | refine below_set ?_ GE203.out) | exact HB.out)) hb); clear BK203; clear HB; have BK203 := n0_; have HB := n1_; clear n0_ n1_; (try clear hb); (try clear hb2); (try clear hk); (try clear hi)) | ((with_reducible refine gate_callee (f := 33) rfl ?_); refine goesL_ (some 29) rfl rfl Tryz.func33 (by kernel_rfl) rfl #[.string a0, .int .i64 (wrap64 ((ji5) + t205))] rfl (by (try simp only [List.map_toArray, List.map_cons, List.map_nil]); first | done | (simp only [hji5]; rfl) | rfl | (simp only [List.length_drop, List.length_take]; rfl)) ?_; (with_reducible refine (r4_blanks.calls k a0 (wrap64 ((ji5) + t205)) t206 _ A9.out).mono ?_); rintro e w' ⟨rfl, ⟨nd, rfl⟩⟩; refine ⟨_, rfl, ?_⟩; (try (rw [drewN_self w20]; generalize hq_ : World.drewN w20 _ = w20; have n0_ : Az (w20.heap[gb203]? = some (.cells #[.int .u8 0, .string (⟨#[]⟩ : ByteArray), .slice none 0 0, .string (⟨#[]⟩ : ByteArray), .int .i64 0] 36 (0, 0))) := ⟨by rw [← hq_]; exact (twb BK203.out)⟩; have n1_ : Az (Below w.heap.size w w20) := ⟨by rw [← hq_]; exact (by repeat (first | (with_reducible first | exact HB.out | apply below_alloc | apply pw_below_drewN | apply below_drew1 | refine below_set ?_ GE203.out) | exact HB.out))⟩; clear BK203 HB hq_; have BK203 := n0_; have HB := n1_; clear n0_ n1_))) | (go_at_call 30; (with_reducible refine (r4_has.calls a0 (wrap64 ((wrap64 ((ji5) + t205)) + t206)) (⟨#[62]⟩ : ByteArray) true _ A14.out).mono ?_); rintro e w' ⟨rfl, ⟨nd, rfl⟩⟩; (try (rw [drewN_self w20]; generalize hq_ : World.drewN w20 _ = w20; have n0_ : Az (w20.heap[gb203]? = some (.cells #[.int .u8 0, .string (⟨#[]⟩ : ByteArray), .slice none 0 0, .string (⟨#[]⟩ : ByteArray), .int .i64 0] 36 (0, 0))) := ⟨by rw [← hq_]; exact (twb BK203.out)⟩; have n1_ : Az (Below w.heap.size w w20) := ⟨by rw [← hq_]; exact (by repeat (first | (with_reducible first | exact HB.out | apply below_alloc | apply pw_below_drewN | apply below_drew1 | refine below_set ?_ GE203.out) | exact HB.out))⟩; clear BK203 HB hq_; have BK203 := n0_; have HB := n1_; clear n0_ n1_)); have hcz21_0 : w20.cell? ⟨gb203, 0, none⟩ = some (.int .u8 0) := (blk_cell BK203.out 0).trans rfl; have hcz21_1 : w20.cell? ⟨gb203, 1, none⟩ = some (.string (⟨#[]⟩ : ByteArray)) := (blk_cell BK203.out 1).trans rfl; have hcz21_2 : w20.cell? ⟨gb203, 2, none⟩ = some (.slice none 0 0) := (blk_cell BK203.out 2).trans rfl; have hcz21_3 : w20.cell? ⟨gb203, 3, none⟩ = some (.string (⟨#[]⟩ : ByteArray)) := (blk_cell BK203.out 3).trans rfl; have hcz21_4 : w20.cell? ⟨gb203, 4, none⟩ = some (.int .i64 0) := (blk_cell BK203.out 4).trans rfl; have hfz21_0 := blk_frozen BK203.out 0; have hfz21_1 := blk_frozen BK203.out 1; have hfz21_2 := blk_frozen BK203.out 2; have hfz21_3 := blk_frozen BK203.out 3; have hfz21_4 := blk_frozen BK203.out 4))
        refine bodyPost_ret (results_ct rfl _ _ gb203 36 #[.int .u8 2, .string (a0.extract ((ji5) : Int).toNat ((wrap64 ((ji5) + t205)) : Int).toNat), .slice none 0 0, .string (⟨#[]⟩ : ByteArray), .int .i64 a1] (0, 0) _ rfl (by (with_reducible repeat (first | refine blk_drewN ?_ _ | refine blk_drew ?_ | refine blk_alloc ?_ _)); refine blk_put (cs := #[.int .u8 2, .string (a0.extract ((ji5) : Int).toNat ((wrap64 ((ji5) + t205)) : Int).toNat), .slice none 0 0, .string (⟨#[]⟩ : ByteArray), .int .i64 0]) ?_ 4 _ rfl; (with_reducible repeat (first | refine blk_drewN ?_ _ | refine blk_drew ?_ | refine blk_alloc ?_ _)); refine blk_put (cs := #[.int .u8 2, .string (a0.extract ((ji5) : Int).toNat ((wrap64 ((ji5) + t205)) : Int).toNat), .slice none 0 0, .string (⟨#[]⟩ : ByteArray), .int .i64 0]) ?_ 3 _ rfl; (with_reducible repeat (first | refine blk_drewN ?_ _ | refine blk_drew ?_ | refine blk_alloc ?_ _)); refine blk_put (cs := #[.int .u8 2, .string (a0.extract ((ji5) : Int).toNat ((wrap64 ((ji5) + t205)) : Int).toNat), .slice none 0 0, .string (⟨#[]⟩ : ByteArray), .int .i64 0]) ?_ 2 _ rfl; (with_reducible repeat (first | refine blk_drewN ?_ _ | refine blk_drew ?_ | refine blk_alloc ?_ _)); refine blk_put (cs := #[.int .u8 2, .string (⟨#[]⟩ : ByteArray), .slice none 0 0, .string (⟨#[]⟩ : ByteArray), .int .i64 0]) ?_ 1 _ rfl; (with_reducible repeat (first | refine blk_drewN ?_ _ | refine blk_drew ?_ | refine blk_alloc ?_ _)); refine blk_put (cs := #[.int .u8 0, .string (⟨#[]⟩ : ByteArray), .slice none 0 0, .string (⟨#[]⟩ : ByteArray), .int .i64 0]) ?_ 0 _ rfl; (with_reducible repeat (first | refine blk_drewN ?_ _ | refine blk_drew ?_ | refine blk_alloc ?_ _)); exact BK203.out) Tryz.underlying36 rfl (by kernel_rfl)) rfl ?_
        exact ⟨_, by first | rfl | (simp [errW_none, errW_some] <;> rfl) | (simp only [← hji5]; first | rfl | (simp [errW_none, errW_some] <;> rfl)) | (simp [*, errW_none, errW_some] <;> rfl), by first | exact Kd.R_nil _ _ _ _ _ | exact Kd.N_nil _ _ _ _ _ | exact Kd.V_nil _ _ _ _ _ | exact Kd.Q_nil _ _ _ _ _ | exact Kd.S_nil _ _ _ _ _, by repeat (first | (with_reducible first | exact HB.out | apply below_alloc | apply pw_below_drewN | apply below_drew1 | refine below_set ?_ GE203.out) | exact HB.out)⟩
       ·rw [if_neg c18] at H
        exact absurd H (by simp)
      ·rw [if_neg c17] at H
       exact absurd H (by simp)
     ·replace c15 := Bool.eq_false_iff.mpr c15
      subst c15
      have H1 : (some (0, (⟨#[]⟩ : ByteArray), ([] : List (S66)), (⟨#[]⟩ : ByteArray), 0, 0)) = some (r1, r2, r3, r4, r5, r6) := by rw [if_neg (show ¬ (false = true) by decide)] at H; exact H
      clear H
      have H := H1
      clear H1
      simp only [Option.some.injEq, Prod.mk.injEq] at H
      obtain ⟨rfl, rfl, rfl, rfl, rfl, rfl⟩ := H
      go_enter Tryz.func20, Tryz.ntmps20
      go_wp2_with (first | ((with_reducible refine gate_dst (N := 4) rfl ?_); (try (refine gate_guard (by rfl) ?_; dsimp only)); refine box_event ?hg (N := 4) ?hd (cs := #[.int .u8 0, .string (⟨#[]⟩ : ByteArray), .slice none 0 0, .string (⟨#[]⟩ : ByteArray), .int .i64 0]) (t := 36) ?hr ?_; (case hd => rfl); (case hg => rfl); (case hr => first | (go_simp; done) | (go_simp; rfl)); intro gb203 hg w22 hbox hb; have n0_ := Az.mk (below_step (tw HB.out) hb); have n1_ := Az.mk (hbox); have n2_ := Az.mk ((by rw [hg]; exact (below_size (tw HB.out)) : w.heap.size ≤ gb203)); have n3_ := Az.mk ((by rw [hg]; exact (below_size (tw HB.out)) : w.heap.size ≤ gb203)); clear HB; have HB := n0_; have BK203 := n1_; have GW203 := n2_; have GE203 := n3_; clear n0_ n1_ n2_ n3_; clear hb hbox hg) | ((with_reducible refine gate_callee (f := 30) rfl ?_); refine goesL_ (some 16) rfl rfl Tryz.func30 (by kernel_rfl) rfl #[.string a0, .int .i64 a1, .string (⟨#[60, 47]⟩ : ByteArray)] rfl (by (try simp only [List.map_toArray, List.map_cons, List.map_nil]); first | done | rfl | (simp only [List.length_drop, List.length_take]; rfl)) ?_; (with_reducible refine (r4_has.calls a0 a1 (⟨#[60, 47]⟩ : ByteArray) true _ A3.out).mono ?_); rintro e w' ⟨rfl, ⟨nd, rfl⟩⟩; refine ⟨_, rfl, ?_⟩; (try (rw [drewN_self w22]; generalize hq_ : World.drewN w22 _ = w22; have n0_ : Az (w22.heap[gb203]? = some (.cells #[.int .u8 0, .string (⟨#[]⟩ : ByteArray), .slice none 0 0, .string (⟨#[]⟩ : ByteArray), .int .i64 0] 36 (0, 0))) := ⟨by rw [← hq_]; exact (twb BK203.out)⟩; have n1_ : Az (Below w.heap.size w w22) := ⟨by rw [← hq_]; exact (by repeat (first | (with_reducible first | exact HB.out | apply below_alloc | apply pw_below_drewN | apply below_drew1 | refine below_set ?_ GE203.out) | exact HB.out))⟩; clear BK203 HB hq_; have BK203 := n0_; have HB := n1_; clear n0_ n1_))) | ((with_reducible refine gate_callee (f := 32) rfl ?_); refine goesL_ (some 21) rfl rfl Tryz.func32 (by kernel_rfl) rfl #[.string (a0.extract ((ji5) : Int).toNat a0.size)] rfl (by (try simp only [List.map_toArray, List.map_cons, List.map_nil]); first | done | (simp only [hji5]; rfl) | rfl | (simp only [List.length_drop, List.length_take]; rfl)) ?_; (with_reducible refine (r2_Begin.calls k (a0.extract ((ji5) : Int).toNat a0.size) t205 _ A8.out).mono ?_); rintro e w23 ⟨rfl, hb⟩; refine ⟨_, rfl, ?_⟩; have n0_ := Az.mk (blk_below (g := gb203) (o := .cells #[.int .u8 0, .string (⟨#[]⟩ : ByteArray), .slice none 0 0, .string (⟨#[]⟩ : ByteArray), .int .i64 0] 36 (0, 0)) (twb BK203.out) hb); have n1_ := Az.mk (below_step (by repeat (first | (with_reducible first | exact HB.out | apply below_alloc | apply pw_below_drewN | apply below_drew1 | refine below_set ?_ GE203.out) | exact HB.out)) hb); clear BK203; clear HB; have BK203 := n0_; have HB := n1_; clear n0_ n1_; (try clear hb); (try clear hb2); (try clear hk); (try clear hi)) | ((with_reducible refine gate_callee (f := 33) rfl ?_); refine goesL_ (some 29) rfl rfl Tryz.func33 (by kernel_rfl) rfl #[.string a0, .int .i64 (wrap64 ((ji5) + t205))] rfl (by (try simp only [List.map_toArray, List.map_cons, List.map_nil]); first | done | (simp only [hji5]; rfl) | rfl | (simp only [List.length_drop, List.length_take]; rfl)) ?_; (with_reducible refine (r4_blanks.calls k a0 (wrap64 ((ji5) + t205)) t206 _ A9.out).mono ?_); rintro e w' ⟨rfl, ⟨nd, rfl⟩⟩; refine ⟨_, rfl, ?_⟩; (try (rw [drewN_self w23]; generalize hq_ : World.drewN w23 _ = w23; have n0_ : Az (w23.heap[gb203]? = some (.cells #[.int .u8 0, .string (⟨#[]⟩ : ByteArray), .slice none 0 0, .string (⟨#[]⟩ : ByteArray), .int .i64 0] 36 (0, 0))) := ⟨by rw [← hq_]; exact (twb BK203.out)⟩; have n1_ : Az (Below w.heap.size w w23) := ⟨by rw [← hq_]; exact (by repeat (first | (with_reducible first | exact HB.out | apply below_alloc | apply pw_below_drewN | apply below_drew1 | refine below_set ?_ GE203.out) | exact HB.out))⟩; clear BK203 HB hq_; have BK203 := n0_; have HB := n1_; clear n0_ n1_))) | (go_at_call 30; (with_reducible refine (r4_has.calls a0 (wrap64 ((wrap64 ((ji5) + t205)) + t206)) (⟨#[62]⟩ : ByteArray) false _ A14.out).mono ?_); rintro e w' ⟨rfl, ⟨nd, rfl⟩⟩; (try (rw [drewN_self w23]; generalize hq_ : World.drewN w23 _ = w23; have n0_ : Az (w23.heap[gb203]? = some (.cells #[.int .u8 0, .string (⟨#[]⟩ : ByteArray), .slice none 0 0, .string (⟨#[]⟩ : ByteArray), .int .i64 0] 36 (0, 0))) := ⟨by rw [← hq_]; exact (twb BK203.out)⟩; have n1_ : Az (Below w.heap.size w w23) := ⟨by rw [← hq_]; exact (by repeat (first | (with_reducible first | exact HB.out | apply below_alloc | apply pw_below_drewN | apply below_drew1 | refine below_set ?_ GE203.out) | exact HB.out))⟩; clear BK203 HB hq_; have BK203 := n0_; have HB := n1_; clear n0_ n1_)); have hcz24_0 : w23.cell? ⟨gb203, 0, none⟩ = some (.int .u8 0) := (blk_cell BK203.out 0).trans rfl; have hcz24_1 : w23.cell? ⟨gb203, 1, none⟩ = some (.string (⟨#[]⟩ : ByteArray)) := (blk_cell BK203.out 1).trans rfl; have hcz24_2 : w23.cell? ⟨gb203, 2, none⟩ = some (.slice none 0 0) := (blk_cell BK203.out 2).trans rfl; have hcz24_3 : w23.cell? ⟨gb203, 3, none⟩ = some (.string (⟨#[]⟩ : ByteArray)) := (blk_cell BK203.out 3).trans rfl; have hcz24_4 : w23.cell? ⟨gb203, 4, none⟩ = some (.int .i64 0) := (blk_cell BK203.out 4).trans rfl; have hfz24_0 := blk_frozen BK203.out 0; have hfz24_1 := blk_frozen BK203.out 1; have hfz24_2 := blk_frozen BK203.out 2; have hfz24_3 := blk_frozen BK203.out 3; have hfz24_4 := blk_frozen BK203.out 4))
      refine bodyPost_ret (results_ct rfl _ _ gb203 36 #[.int .u8 0, .string (⟨#[]⟩ : ByteArray), .slice none 0 0, .string (⟨#[]⟩ : ByteArray), .int .i64 0] (0, 0) _ rfl (by (with_reducible repeat (first | refine blk_drewN ?_ _ | refine blk_drew ?_ | refine blk_alloc ?_ _)); refine blk_put (cs := #[.int .u8 0, .string (⟨#[]⟩ : ByteArray), .slice none 0 0, .string (⟨#[]⟩ : ByteArray), .int .i64 0]) ?_ 4 _ rfl; (with_reducible repeat (first | refine blk_drewN ?_ _ | refine blk_drew ?_ | refine blk_alloc ?_ _)); refine blk_put (cs := #[.int .u8 0, .string (⟨#[]⟩ : ByteArray), .slice none 0 0, .string (⟨#[]⟩ : ByteArray), .int .i64 0]) ?_ 3 _ rfl; (with_reducible repeat (first | refine blk_drewN ?_ _ | refine blk_drew ?_ | refine blk_alloc ?_ _)); refine blk_put (cs := #[.int .u8 0, .string (⟨#[]⟩ : ByteArray), .slice none 0 0, .string (⟨#[]⟩ : ByteArray), .int .i64 0]) ?_ 2 _ rfl; (with_reducible repeat (first | refine blk_drewN ?_ _ | refine blk_drew ?_ | refine blk_alloc ?_ _)); refine blk_put (cs := #[.int .u8 0, .string (⟨#[]⟩ : ByteArray), .slice none 0 0, .string (⟨#[]⟩ : ByteArray), .int .i64 0]) ?_ 1 _ rfl; (with_reducible repeat (first | refine blk_drewN ?_ _ | refine blk_drew ?_ | refine blk_alloc ?_ _)); refine blk_put (cs := #[.int .u8 0, .string (⟨#[]⟩ : ByteArray), .slice none 0 0, .string (⟨#[]⟩ : ByteArray), .int .i64 0]) ?_ 0 _ rfl; (with_reducible repeat (first | refine blk_drewN ?_ _ | refine blk_drew ?_ | refine blk_alloc ?_ _)); exact BK203.out) Tryz.underlying36 rfl (by kernel_rfl)) rfl ?_
      exact ⟨_, by first | rfl | (simp [errW_none, errW_some] <;> rfl) | (simp only [← hji5]; first | rfl | (simp [errW_none, errW_some] <;> rfl)) | (simp [*, errW_none, errW_some] <;> rfl), by first | exact Kd.R_nil _ _ _ _ _ | exact Kd.N_nil _ _ _ _ _ | exact Kd.V_nil _ _ _ _ _ | exact Kd.Q_nil _ _ _ _ _ | exact Kd.S_nil _ _ _ _ _, by repeat (first | (with_reducible first | exact HB.out | apply below_alloc | apply pw_below_drewN | apply below_drew1 | refine below_set ?_ GE203.out) | exact HB.out)⟩
   ·rw [if_neg c7] at H
    exact absurd H (by simp)
  ·rw [if_neg c6] at H
   exact absurd H (by simp)
 ·replace c4 := Bool.eq_false_iff.mpr c4
  subst c4
  have H1 : (if 0 ≤ (wrap64 (a1 + 1)) then (if (wrap64 (a1 + 1)) ≤ (a0.size : Int) then ((r2_Begin.f k (a0.extract ((wrap64 (a1 + 1)) : Int).toNat a0.size)).bind fun t208 => (if t208 = 0 then (some (0, (⟨#[]⟩ : ByteArray), ([] : List (S66)), (⟨#[]⟩ : ByteArray), 0, 0)) else (if (wrap64 (a1 + 1)) ≤ (wrap64 ((wrap64 (a1 + 1)) + t208)) then (if (wrap64 ((wrap64 (a1 + 1)) + t208)) ≤ (a0.size : Int) then (r4_tag.l0 k a0 a1 (wrap64 ((wrap64 (a1 + 1)) + t208)) 1 (a0.extract ((wrap64 (a1 + 1)) : Int).toNat ((wrap64 ((wrap64 (a1 + 1)) + t208)) : Int).toNat) ([] : List (S66)) (⟨#[]⟩ : ByteArray) a1) else (none)) else (none)))) else (none)) else (none)) = some (r1, r2, r3, r4, r5, r6) := by rw [if_neg (show ¬ (false = true) by decide)] at H; exact H
  clear H
  have H := H1
  clear H1
  obtain ⟨ji25, hji25⟩ : ∃ j_ : Int, (wrap64 (a1 + 1)) = j_ := ⟨_, rfl⟩
  replace H : (if 0 ≤ (ji25) then (if (ji25) ≤ (a0.size : Int) then ((r2_Begin.f k (a0.extract ((ji25) : Int).toNat a0.size)).bind fun t208 => (if t208 = 0 then (some (0, (⟨#[]⟩ : ByteArray), ([] : List (S66)), (⟨#[]⟩ : ByteArray), 0, 0)) else (if (ji25) ≤ (wrap64 ((ji25) + t208)) then (if (wrap64 ((ji25) + t208)) ≤ (a0.size : Int) then (r4_tag.l0 k a0 a1 (wrap64 ((ji25) + t208)) 1 (a0.extract ((ji25) : Int).toNat ((wrap64 ((ji25) + t208)) : Int).toNat) ([] : List (S66)) (⟨#[]⟩ : ByteArray) a1) else (none)) else (none)))) else (none)) else (none)) = some (r1, r2, r3, r4, r5, r6) := by first | (rw [hji25] at H; exact H) | (simp only [hji25] at H ⊢; exact H)
  (try rw [hji25] at A3)
  have hji25w : (IntKind.i64.wrap (a1 + 1)) = ji25 := (i64_w _).trans hji25
  by_cases c26 : 0 ≤ (ji25)
  ·rw [if_pos c26] at H
   have c26b0 := eq_true c26
   have c26b1 : decide (0 ≤ (ji25)) = true := decide_eq_true c26
   clear c26
   by_cases c27 : (ji25) ≤ (a0.size : Int)
   ·rw [if_pos c27] at H
    have c27b0 := eq_true c27
    have c27b1 : decide ((ji25) ≤ (a0.size : Int)) = true := decide_eq_true c27
    clear c27
    replace H := Option.bind_eq_some_iff.mp H
    obtain ⟨t208, A280, H⟩ := H
    replace H : (if t208 = 0 then (some (0, (⟨#[]⟩ : ByteArray), ([] : List (S66)), (⟨#[]⟩ : ByteArray), 0, 0)) else (if (ji25) ≤ (wrap64 ((ji25) + t208)) then (if (wrap64 ((ji25) + t208)) ≤ (a0.size : Int) then (r4_tag.l0 k a0 a1 (wrap64 ((ji25) + t208)) 1 (a0.extract ((ji25) : Int).toNat ((wrap64 ((ji25) + t208)) : Int).toNat) ([] : List (S66)) (⟨#[]⟩ : ByteArray) a1) else (none)) else (none))) = some (r1, r2, r3, r4, r5, r6) := H
    have A28 := Az.mk A280
    clear A280
    by_cases c29 : t208 = 0
    ·rw [if_pos c29] at H
     have c29b0 : (t208 == 0) = true := beq_iff_eq.mpr c29
     have c29b1 : (t208 != 0) = false := bne_eq_false_iff_eq.mpr c29
     clear c29
     simp only [Option.some.injEq, Prod.mk.injEq] at H
     obtain ⟨rfl, rfl, rfl, rfl, rfl, rfl⟩ := H
     go_enter Tryz.func20, Tryz.ntmps20
     go_wp2_with (first | ((with_reducible refine gate_dst (N := 4) rfl ?_); (try (refine gate_guard (by rfl) ?_; dsimp only)); refine box_event ?hg (N := 4) ?hd (cs := #[.int .u8 0, .string (⟨#[]⟩ : ByteArray), .slice none 0 0, .string (⟨#[]⟩ : ByteArray), .int .i64 0]) (t := 36) ?hr ?_; (case hd => rfl); (case hg => rfl); (case hr => first | (go_simp; done) | (go_simp; rfl)); intro gb203 hg w30 hbox hb; have n0_ := Az.mk (below_step (tw HB.out) hb); have n1_ := Az.mk (hbox); have n2_ := Az.mk ((by rw [hg]; exact (below_size (tw HB.out)) : w.heap.size ≤ gb203)); have n3_ := Az.mk ((by rw [hg]; exact (below_size (tw HB.out)) : w.heap.size ≤ gb203)); clear HB; have HB := n0_; have BK203 := n1_; have GW203 := n2_; have GE203 := n3_; clear n0_ n1_ n2_ n3_; clear hb hbox hg) | ((with_reducible refine gate_callee (f := 30) rfl ?_); refine goesL_ (some 16) rfl rfl Tryz.func30 (by kernel_rfl) rfl #[.string a0, .int .i64 a1, .string (⟨#[60, 47]⟩ : ByteArray)] rfl (by (try simp only [List.map_toArray, List.map_cons, List.map_nil]); first | done | rfl | (simp only [List.length_drop, List.length_take]; rfl)) ?_; (with_reducible refine (r4_has.calls a0 a1 (⟨#[60, 47]⟩ : ByteArray) false _ A3.out).mono ?_); rintro e w' ⟨rfl, ⟨nd, rfl⟩⟩; refine ⟨_, rfl, ?_⟩; (try (rw [drewN_self w30]; generalize hq_ : World.drewN w30 _ = w30; have n0_ : Az (w30.heap[gb203]? = some (.cells #[.int .u8 0, .string (⟨#[]⟩ : ByteArray), .slice none 0 0, .string (⟨#[]⟩ : ByteArray), .int .i64 0] 36 (0, 0))) := ⟨by rw [← hq_]; exact (twb BK203.out)⟩; have n1_ : Az (Below w.heap.size w w30) := ⟨by rw [← hq_]; exact (by repeat (first | (with_reducible first | exact HB.out | apply below_alloc | apply pw_below_drewN | apply below_drew1 | refine below_set ?_ GE203.out) | exact HB.out))⟩; clear BK203 HB hq_; have BK203 := n0_; have HB := n1_; clear n0_ n1_))) | ((with_reducible refine gate_callee (f := 32) rfl ?_); refine goesL_ (some 58) rfl rfl Tryz.func32 (by kernel_rfl) rfl #[.string (a0.extract ((ji25) : Int).toNat a0.size)] rfl (by (try simp only [List.map_toArray, List.map_cons, List.map_nil]); first | done | (simp only [hji25]; rfl) | rfl | (simp only [List.length_drop, List.length_take]; rfl)) ?_; (with_reducible refine (r2_Begin.calls k (a0.extract ((ji25) : Int).toNat a0.size) t208 _ A28.out).mono ?_); rintro e w31 ⟨rfl, hb⟩; refine ⟨_, rfl, ?_⟩; have n0_ := Az.mk (blk_below (g := gb203) (o := .cells #[.int .u8 0, .string (⟨#[]⟩ : ByteArray), .slice none 0 0, .string (⟨#[]⟩ : ByteArray), .int .i64 0] 36 (0, 0)) (twb BK203.out) hb); have n1_ := Az.mk (below_step (by repeat (first | (with_reducible first | exact HB.out | apply below_alloc | apply pw_below_drewN | apply below_drew1 | refine below_set ?_ GE203.out) | exact HB.out)) hb); clear BK203; clear HB; have BK203 := n0_; have HB := n1_; clear n0_ n1_; (try clear hb); (try clear hb2); (try clear hk); (try clear hi); have hcz32_0 : w31.cell? ⟨gb203, 0, none⟩ = some (.int .u8 0) := (blk_cell BK203.out 0).trans rfl; have hcz32_1 : w31.cell? ⟨gb203, 1, none⟩ = some (.string (⟨#[]⟩ : ByteArray)) := (blk_cell BK203.out 1).trans rfl; have hcz32_2 : w31.cell? ⟨gb203, 2, none⟩ = some (.slice none 0 0) := (blk_cell BK203.out 2).trans rfl; have hcz32_3 : w31.cell? ⟨gb203, 3, none⟩ = some (.string (⟨#[]⟩ : ByteArray)) := (blk_cell BK203.out 3).trans rfl; have hcz32_4 : w31.cell? ⟨gb203, 4, none⟩ = some (.int .i64 0) := (blk_cell BK203.out 4).trans rfl; have hfz32_0 := blk_frozen BK203.out 0; have hfz32_1 := blk_frozen BK203.out 1; have hfz32_2 := blk_frozen BK203.out 2; have hfz32_3 := blk_frozen BK203.out 3; have hfz32_4 := blk_frozen BK203.out 4))
     refine bodyPost_ret (results_ct rfl _ _ gb203 36 #[.int .u8 0, .string (⟨#[]⟩ : ByteArray), .slice none 0 0, .string (⟨#[]⟩ : ByteArray), .int .i64 0] (0, 0) _ rfl (by (with_reducible repeat (first | refine blk_drewN ?_ _ | refine blk_drew ?_ | refine blk_alloc ?_ _)); refine blk_put (cs := #[.int .u8 0, .string (⟨#[]⟩ : ByteArray), .slice none 0 0, .string (⟨#[]⟩ : ByteArray), .int .i64 0]) ?_ 4 _ rfl; (with_reducible repeat (first | refine blk_drewN ?_ _ | refine blk_drew ?_ | refine blk_alloc ?_ _)); refine blk_put (cs := #[.int .u8 0, .string (⟨#[]⟩ : ByteArray), .slice none 0 0, .string (⟨#[]⟩ : ByteArray), .int .i64 0]) ?_ 3 _ rfl; (with_reducible repeat (first | refine blk_drewN ?_ _ | refine blk_drew ?_ | refine blk_alloc ?_ _)); refine blk_put (cs := #[.int .u8 0, .string (⟨#[]⟩ : ByteArray), .slice none 0 0, .string (⟨#[]⟩ : ByteArray), .int .i64 0]) ?_ 2 _ rfl; (with_reducible repeat (first | refine blk_drewN ?_ _ | refine blk_drew ?_ | refine blk_alloc ?_ _)); refine blk_put (cs := #[.int .u8 0, .string (⟨#[]⟩ : ByteArray), .slice none 0 0, .string (⟨#[]⟩ : ByteArray), .int .i64 0]) ?_ 1 _ rfl; (with_reducible repeat (first | refine blk_drewN ?_ _ | refine blk_drew ?_ | refine blk_alloc ?_ _)); refine blk_put (cs := #[.int .u8 0, .string (⟨#[]⟩ : ByteArray), .slice none 0 0, .string (⟨#[]⟩ : ByteArray), .int .i64 0]) ?_ 0 _ rfl; (with_reducible repeat (first | refine blk_drewN ?_ _ | refine blk_drew ?_ | refine blk_alloc ?_ _)); exact BK203.out) Tryz.underlying36 rfl (by kernel_rfl)) rfl ?_
     exact ⟨_, by first | rfl | (simp [errW_none, errW_some] <;> rfl) | (simp only [← hji25]; first | rfl | (simp [errW_none, errW_some] <;> rfl)) | (simp [*, errW_none, errW_some] <;> rfl), by first | exact Kd.R_nil _ _ _ _ _ | exact Kd.N_nil _ _ _ _ _ | exact Kd.V_nil _ _ _ _ _ | exact Kd.Q_nil _ _ _ _ _ | exact Kd.S_nil _ _ _ _ _, by repeat (first | (with_reducible first | exact HB.out | apply below_alloc | apply pw_below_drewN | apply below_drew1 | refine below_set ?_ GE203.out) | exact HB.out)⟩
    ·rw [if_neg c29] at H
     have c29b0 : (t208 == 0) = false := beq_eq_false_iff_ne.mpr c29
     have c29b1 : (t208 != 0) = true := bne_iff_ne.mpr c29
     have c33b0 := eq_true (of_decide_eq_true (by assumption) : 0 ≤ (ji25))
     by_cases c34 : (ji25) ≤ (wrap64 ((ji25) + t208))
     ·rw [if_pos c34] at H
      have c34b0 := eq_true c34
      have c34b1 : decide ((ji25) ≤ (wrap64 ((ji25) + t208))) = true := decide_eq_true c34
      by_cases c35 : (wrap64 ((ji25) + t208)) ≤ (a0.size : Int)
      ·rw [if_pos c35] at H
       have c35b0 := eq_true c35
       have c35b1 : decide ((wrap64 ((ji25) + t208)) ≤ (a0.size : Int)) = true := decide_eq_true c35
       have H' := Az.mk H
       clear H
       go_enter Tryz.func20, Tryz.ntmps20
       go_wp2_with (first | ((with_reducible refine gate_dst (N := 4) rfl ?_); (try (refine gate_guard (by rfl) ?_; dsimp only)); refine box_event ?hg (N := 4) ?hd (cs := #[.int .u8 0, .string (⟨#[]⟩ : ByteArray), .slice none 0 0, .string (⟨#[]⟩ : ByteArray), .int .i64 0]) (t := 36) ?hr ?_; (case hd => rfl); (case hg => rfl); (case hr => first | (go_simp; done) | (go_simp; rfl)); intro gb203 hg w36 hbox hb; have n0_ := Az.mk (below_step (tw HB.out) hb); have n1_ := Az.mk (hbox); have n2_ := Az.mk ((by rw [hg]; exact (below_size (tw HB.out)) : w.heap.size ≤ gb203)); have n3_ := Az.mk ((by rw [hg]; exact (below_size (tw HB.out)) : w.heap.size ≤ gb203)); clear HB; have HB := n0_; have BK203 := n1_; have GW203 := n2_; have GE203 := n3_; clear n0_ n1_ n2_ n3_; clear hb hbox hg) | ((with_reducible refine gate_callee (f := 30) rfl ?_); refine goesL_ (some 16) rfl rfl Tryz.func30 (by kernel_rfl) rfl #[.string a0, .int .i64 a1, .string (⟨#[60, 47]⟩ : ByteArray)] rfl (by (try simp only [List.map_toArray, List.map_cons, List.map_nil]); first | done | rfl | (simp only [List.length_drop, List.length_take]; rfl)) ?_; (with_reducible refine (r4_has.calls a0 a1 (⟨#[60, 47]⟩ : ByteArray) false _ A3.out).mono ?_); rintro e w' ⟨rfl, ⟨nd, rfl⟩⟩; refine ⟨_, rfl, ?_⟩; (try (rw [drewN_self w36]; generalize hq_ : World.drewN w36 _ = w36; have n0_ : Az (w36.heap[gb203]? = some (.cells #[.int .u8 0, .string (⟨#[]⟩ : ByteArray), .slice none 0 0, .string (⟨#[]⟩ : ByteArray), .int .i64 0] 36 (0, 0))) := ⟨by rw [← hq_]; exact (twb BK203.out)⟩; have n1_ : Az (Below w.heap.size w w36) := ⟨by rw [← hq_]; exact (by repeat (first | (with_reducible first | exact HB.out | apply below_alloc | apply pw_below_drewN | apply below_drew1 | refine below_set ?_ GE203.out) | exact HB.out))⟩; clear BK203 HB hq_; have BK203 := n0_; have HB := n1_; clear n0_ n1_))) | ((with_reducible refine gate_callee (f := 32) rfl ?_); refine goesL_ (some 58) rfl rfl Tryz.func32 (by kernel_rfl) rfl #[.string (a0.extract ((ji25) : Int).toNat a0.size)] rfl (by (try simp only [List.map_toArray, List.map_cons, List.map_nil]); first | done | (simp only [hji25]; rfl) | rfl | (simp only [List.length_drop, List.length_take]; rfl)) ?_; (with_reducible refine (r2_Begin.calls k (a0.extract ((ji25) : Int).toNat a0.size) t208 _ A28.out).mono ?_); rintro e w37 ⟨rfl, hb⟩; refine ⟨_, rfl, ?_⟩; have n0_ := Az.mk (blk_below (g := gb203) (o := .cells #[.int .u8 0, .string (⟨#[]⟩ : ByteArray), .slice none 0 0, .string (⟨#[]⟩ : ByteArray), .int .i64 0] 36 (0, 0)) (twb BK203.out) hb); have n1_ := Az.mk (below_step (by repeat (first | (with_reducible first | exact HB.out | apply below_alloc | apply pw_below_drewN | apply below_drew1 | refine below_set ?_ GE203.out) | exact HB.out)) hb); clear BK203; clear HB; have BK203 := n0_; have HB := n1_; clear n0_ n1_; (try clear hb); (try clear hb2); (try clear hk); (try clear hi)) | ((with_reducible refine gate_dst (N := 9) rfl ?_); (try (refine gate_guard (by rfl) ?_; dsimp only)); refine box_event ?hg (N := 9) ?hd (cs := #[.int .u8 0, .string (⟨#[]⟩ : ByteArray), .slice none 0 0, .string (⟨#[]⟩ : ByteArray), .int .i64 0]) (t := 36) ?hr ?_; (case hd => rfl); (case hg => rfl); (case hr => first | (go_simp; done) | (go_simp; rfl)); intro gb209 hg w38 hbox hb; have n0_ := Az.mk (blk_below (g := gb203) (o := .cells #[.int .u8 0, .string (⟨#[]⟩ : ByteArray), .slice none 0 0, .string (⟨#[]⟩ : ByteArray), .int .i64 0] 36 (0, 0)) (twb BK203.out) hb); have n1_ := Az.mk (below_step (by repeat (first | (with_reducible first | exact HB.out | apply below_alloc | apply pw_below_drewN | apply below_drew1 | refine below_set ?_ GE203.out) | exact HB.out)) hb); have n2_ := Az.mk (hbox); have n3_ := Az.mk ((by rw [hg]; exact (below_size (by repeat (first | (with_reducible first | exact HB.out | apply below_alloc | apply pw_below_drewN | apply below_drew1 | refine below_set ?_ GE203.out) | exact HB.out))) : w.heap.size ≤ gb209)); have n4_ := Az.mk ((by rw [hg]; exact (below_size (by repeat (first | (with_reducible first | exact HB.out | apply below_alloc | apply pw_below_drewN | apply below_drew1 | refine below_set ?_ GE203.out) | exact HB.out))) : w.heap.size ≤ gb209)); have n5_ := Az.mk ((by rw [hg]; exact Nat.ne_of_lt (blk_lt (g := gb203) (o := .cells #[.int .u8 0, .string (⟨#[]⟩ : ByteArray), .slice none 0 0, .string (⟨#[]⟩ : ByteArray), .int .i64 0] 36 (0, 0)) (twb BK203.out)) : gb203 ≠ gb209)); have n6_ := Az.mk ((by rw [hg]; exact Nat.ne_of_gt (blk_lt (g := gb203) (o := .cells #[.int .u8 0, .string (⟨#[]⟩ : ByteArray), .slice none 0 0, .string (⟨#[]⟩ : ByteArray), .int .i64 0] 36 (0, 0)) (twb BK203.out)) : gb209 ≠ gb203)); clear BK203; clear HB; have BK203 := n0_; have HB := n1_; have BK209 := n2_; have GW209 := n3_; have GE209 := n4_; have NB203_209 := n5_; have NB209_203 := n6_; clear n0_ n1_ n2_ n3_ n4_ n5_ n6_; clear hb hbox hg; have hnb39 := NB209_203.out; have hnc39 := NB203_209.out; have hcz40_0 : w38.cell? ⟨gb209, 0, none⟩ = some (.int .u8 0) := (blk_cell BK209.out 0).trans rfl; have hcz40_1 : w38.cell? ⟨gb209, 1, none⟩ = some (.string (⟨#[]⟩ : ByteArray)) := (blk_cell BK209.out 1).trans rfl; have hcz40_2 : w38.cell? ⟨gb209, 2, none⟩ = some (.slice none 0 0) := (blk_cell BK209.out 2).trans rfl; have hcz40_3 : w38.cell? ⟨gb209, 3, none⟩ = some (.string (⟨#[]⟩ : ByteArray)) := (blk_cell BK209.out 3).trans rfl; have hcz40_4 : w38.cell? ⟨gb209, 4, none⟩ = some (.int .i64 0) := (blk_cell BK209.out 4).trans rfl; have hfz40_0 := blk_frozen BK209.out 0; have hfz40_1 := blk_frozen BK209.out 1; have hfz40_2 := blk_frozen BK209.out 2; have hfz40_3 := blk_frozen BK209.out 3; have hfz40_4 := blk_frozen BK209.out 4))
       go_loopg [10] k (fun kq v10 w' => ∃ (x10_1 : Int) (x204000_1 : Int) (x204001_1 : ByteArray) (x204003_1 : ByteArray) (x204004_1 : Int) (x210000_1 : Int) (x210002_1 : List (S66)) (u210002 : Value), v10 = .int .i64 x10_1 ∧ Az (r4_tag.l0 kq a0 a1 x10_1 x210000_1 (a0.extract ((ji25) : Int).toNat ((wrap64 ((ji25) + t208)) : Int).toNat) x210002_1 (⟨#[]⟩ : ByteArray) a1 = some (r1, r2, r3, r4, r5, r6)) ∧ Az (kq ≤ k) ∧ Az (Kd.R k66 66 w' w.heap.size (fun _ => True) u210002 x210002_1) ∧ Az (w'.heap[gb203]? = some (.cells #[.int .u8 x204000_1, .string x204001_1, (.slice none 0 0), .string x204003_1, .int .i64 x204004_1] 36 (0, 0))) ∧ Az (w'.heap[gb209]? = some (.cells #[.int .u8 x210000_1, .string (a0.extract ((ji25) : Int).toNat ((wrap64 ((ji25) + t208)) : Int).toNat), u210002, .string (⟨#[]⟩ : ByteArray), .int .i64 a1] 36 (0, 0))) ∧ Az (Below w.heap.size w w'))
       case atStart => exact ⟨(wrap64 ((ji25) + t208)), (0), ((⟨#[]⟩ : ByteArray)), ((⟨#[]⟩ : ByteArray)), (0), (1), (([] : List (S66))), (.slice none 0 0), (by first | rfl | (simp; done) | (simp only [← hji25] <;> (first | rfl | simp)) | (simp [*]; done)), H', ⟨Nat.le_refl _⟩, ⟨by first | exact Kd.R_nil _ _ _ _ _ | exact Kd.N_nil _ _ _ _ _ | exact Kd.V_nil _ _ _ _ _ | exact Kd.Q_nil _ _ _ _ _ | exact Kd.S_nil _ _ _ _ _⟩, ⟨by (with_reducible repeat (first | refine blk_drewN ?_ _ | refine blk_drew ?_ | refine blk_alloc ?_ _)); refine blk_far ?_ NB203_209.out _; (with_reducible repeat (first | refine blk_drewN ?_ _ | refine blk_drew ?_ | refine blk_alloc ?_ _)); refine blk_far ?_ NB203_209.out _; (with_reducible repeat (first | refine blk_drewN ?_ _ | refine blk_drew ?_ | refine blk_alloc ?_ _)); refine blk_far ?_ NB203_209.out _; (with_reducible repeat (first | refine blk_drewN ?_ _ | refine blk_drew ?_ | refine blk_alloc ?_ _)); refine blk_far ?_ NB203_209.out _; (with_reducible repeat (first | refine blk_drewN ?_ _ | refine blk_drew ?_ | refine blk_alloc ?_ _)); refine blk_far ?_ NB203_209.out _; (with_reducible repeat (first | refine blk_drewN ?_ _ | refine blk_drew ?_ | refine blk_alloc ?_ _)); exact BK203.out⟩, ⟨by (with_reducible repeat (first | refine blk_drewN ?_ _ | refine blk_drew ?_ | refine blk_alloc ?_ _)); refine blk_put (cs := #[.int .u8 1, .string (a0.extract ((ji25) : Int).toNat ((wrap64 ((ji25) + t208)) : Int).toNat), .slice none 0 0, .string (⟨#[]⟩ : ByteArray), .int .i64 0]) ?_ 4 _ rfl; (with_reducible repeat (first | refine blk_drewN ?_ _ | refine blk_drew ?_ | refine blk_alloc ?_ _)); refine blk_put (cs := #[.int .u8 1, .string (a0.extract ((ji25) : Int).toNat ((wrap64 ((ji25) + t208)) : Int).toNat), .slice none 0 0, .string (⟨#[]⟩ : ByteArray), .int .i64 0]) ?_ 3 _ rfl; (with_reducible repeat (first | refine blk_drewN ?_ _ | refine blk_drew ?_ | refine blk_alloc ?_ _)); refine blk_put (cs := #[.int .u8 1, .string (a0.extract ((ji25) : Int).toNat ((wrap64 ((ji25) + t208)) : Int).toNat), .slice none 0 0, .string (⟨#[]⟩ : ByteArray), .int .i64 0]) ?_ 2 _ rfl; (with_reducible repeat (first | refine blk_drewN ?_ _ | refine blk_drew ?_ | refine blk_alloc ?_ _)); refine blk_put (cs := #[.int .u8 1, .string (⟨#[]⟩ : ByteArray), .slice none 0 0, .string (⟨#[]⟩ : ByteArray), .int .i64 0]) ?_ 1 _ rfl; (with_reducible repeat (first | refine blk_drewN ?_ _ | refine blk_drew ?_ | refine blk_alloc ?_ _)); refine blk_put (cs := #[.int .u8 0, .string (⟨#[]⟩ : ByteArray), .slice none 0 0, .string (⟨#[]⟩ : ByteArray), .int .i64 0]) ?_ 0 _ rfl; (with_reducible repeat (first | refine blk_drewN ?_ _ | refine blk_drew ?_ | refine blk_alloc ?_ _)); exact BK209.out⟩, ⟨by repeat (first | (with_reducible first | exact HB.out | apply below_alloc | apply pw_below_drewN | apply below_drew1 | refine below_set ?_ GE203.out | refine below_set ?_ GE209.out) | exact HB.out)⟩⟩
       case round =>
        clear H'
        try clear c1
        try clear c2
        try clear p2
        try clear c3
        try clear c4
        try clear c6
        try clear c6b0
        try clear c6b1
        try clear p6
        try clear c7
        try clear c7b0
        try clear c7b1
        try clear c10
        try clear c10b0
        try clear c10b1
        try clear c15
        try clear c16
        try clear c16b0
        try clear c17
        try clear c17b0
        try clear c17b1
        try clear c18
        try clear c18b0
        try clear c18b1
        try clear c20
        try clear c26
        try clear c26b0
        try clear c26b1
        try clear c27
        try clear c27b0
        try clear c27b1
        try clear c29
        try clear c29b0
        try clear c29b1
        try clear c30
        try clear c32
        try clear c33
        try clear c33b0
        try clear c34
        try clear c34b0
        try clear c34b1
        try clear c35
        try clear c35b0
        try clear c35b1
        try clear c39
        try clear hcz13_0
        try clear hcz13_1
        try clear hcz13_2
        try clear hcz13_3
        try clear hcz13_4
        try clear hcz21_0
        try clear hcz21_1
        try clear hcz21_2
        try clear hcz21_3
        try clear hcz21_4
        try clear hcz24_0
        try clear hcz24_1
        try clear hcz24_2
        try clear hcz24_3
        try clear hcz24_4
        try clear hcz32_0
        try clear hcz32_1
        try clear hcz32_2
        try clear hcz32_3
        try clear hcz32_4
        try clear hcz40_0
        try clear hcz40_1
        try clear hcz40_2
        try clear hcz40_3
        try clear hcz40_4
        try clear hfz13_0
        try clear hfz13_1
        try clear hfz13_2
        try clear hfz13_3
        try clear hfz13_4
        try clear hfz21_0
        try clear hfz21_1
        try clear hfz21_2
        try clear hfz21_3
        try clear hfz21_4
        try clear hfz24_0
        try clear hfz24_1
        try clear hfz24_2
        try clear hfz24_3
        try clear hfz24_4
        try clear hfz32_0
        try clear hfz32_1
        try clear hfz32_2
        try clear hfz32_3
        try clear hfz32_4
        try clear hfz40_0
        try clear hfz40_1
        try clear hfz40_2
        try clear hfz40_3
        try clear hfz40_4
        obtain ⟨x10_1, x204000_1, x204001_1, x204003_1, x204004_1, x210000_1, x210002_1, u210002, rfl, HA, HK1, HO_210002, BK203, BK209, HB⟩ := hrel
        cases gk with
        | zero => exact absurd HA.out (by simp [r4_tag.l0])
        | succ k1 =>
         have H := HA.out
         clear HA
         simp only [r4_tag.l0] at H
         replace H := Option.bind_eq_some_iff.mp H
         obtain ⟨t210, A410, H⟩ := H
         replace H : ((r4_has.f a0 (wrap64 (x10_1 + t210)) (⟨#[62]⟩ : ByteArray)).bind fun t211 => (if t211 = true then (some (x210000_1, (a0.extract ((ji25) : Int).toNat ((wrap64 ((ji25) + t208)) : Int).toNat), x210002_1, (⟨#[]⟩ : ByteArray), a1, wrap64 ((wrap64 ((wrap64 (x10_1 + t210)) + 1)) - a1))) else ((r4_has.f a0 (wrap64 (x10_1 + t210)) (⟨#[47, 62]⟩ : ByteArray)).bind fun t212 => (if t212 = true then (some (3, (a0.extract ((ji25) : Int).toNat ((wrap64 ((ji25) + t208)) : Int).toNat), x210002_1, (⟨#[]⟩ : ByteArray), a1, wrap64 ((wrap64 ((wrap64 (x10_1 + t210)) + 2)) - a1))) else (if t210 = 0 then (r4_tag.j1 k1 a0 a1 x10_1 t210 true x210000_1 (a0.extract ((ji25) : Int).toNat ((wrap64 ((ji25) + t208)) : Int).toNat) x210002_1 (⟨#[]⟩ : ByteArray) a1) else (r4_tag.j1 k1 a0 a1 x10_1 t210 (decide ((wrap64 (x10_1 + t210)) ≥ (a0.size : Int))) x210000_1 (a0.extract ((ji25) : Int).toNat ((wrap64 ((ji25) + t208)) : Int).toNat) x210002_1 (⟨#[]⟩ : ByteArray) a1)))))) = some (r1, r2, r3, r4, r5, r6) := H
         have A41 := Az.mk A410
         clear A410
         replace H := Option.bind_eq_some_iff.mp H
         obtain ⟨t211, A420, H⟩ := H
         replace H : (if t211 = true then (some (x210000_1, (a0.extract ((ji25) : Int).toNat ((wrap64 ((ji25) + t208)) : Int).toNat), x210002_1, (⟨#[]⟩ : ByteArray), a1, wrap64 ((wrap64 ((wrap64 (x10_1 + t210)) + 1)) - a1))) else ((r4_has.f a0 (wrap64 (x10_1 + t210)) (⟨#[47, 62]⟩ : ByteArray)).bind fun t212 => (if t212 = true then (some (3, (a0.extract ((ji25) : Int).toNat ((wrap64 ((ji25) + t208)) : Int).toNat), x210002_1, (⟨#[]⟩ : ByteArray), a1, wrap64 ((wrap64 ((wrap64 (x10_1 + t210)) + 2)) - a1))) else (if t210 = 0 then (r4_tag.j1 k1 a0 a1 x10_1 t210 true x210000_1 (a0.extract ((ji25) : Int).toNat ((wrap64 ((ji25) + t208)) : Int).toNat) x210002_1 (⟨#[]⟩ : ByteArray) a1) else (r4_tag.j1 k1 a0 a1 x10_1 t210 (decide ((wrap64 (x10_1 + t210)) ≥ (a0.size : Int))) x210000_1 (a0.extract ((ji25) : Int).toNat ((wrap64 ((ji25) + t208)) : Int).toNat) x210002_1 (⟨#[]⟩ : ByteArray) a1))))) = some (r1, r2, r3, r4, r5, r6) := H
         have A42 := Az.mk A420
         clear A420
         by_cases c43 : t211 = true
         ·subst c43
          have H1 : (some (x210000_1, (a0.extract ((ji25) : Int).toNat ((wrap64 ((ji25) + t208)) : Int).toNat), x210002_1, (⟨#[]⟩ : ByteArray), a1, wrap64 ((wrap64 ((wrap64 (x10_1 + t210)) + 1)) - a1))) = some (r1, r2, r3, r4, r5, r6) := by rw [if_pos rfl] at H; exact H
          clear H
          have H := H1
          clear H1
          simp only [Option.some.injEq, Prod.mk.injEq] at H
          obtain ⟨rfl, rfl, rfl, rfl, rfl, rfl⟩ := H
          go_wp2_with (first | ((with_reducible refine gate_callee (f := 33) rfl ?_); refine goesL_ (some 78) rfl rfl Tryz.func33 (by kernel_rfl) rfl #[.string a0, .int .i64 x10_1] rfl (by (try simp only [List.map_toArray, List.map_cons, List.map_nil]); first | done | rfl | (simp only [List.length_drop, List.length_take]; rfl)) ?_; (with_reducible refine (r4_blanks.calls k1 a0 x10_1 t210 _ A41.out).mono ?_); rintro e w' ⟨rfl, ⟨nd, rfl⟩⟩; refine ⟨_, rfl, ?_⟩; (try (rw [drewN_self wr]; generalize hq_ : World.drewN wr _ = wr; have n0_ : Az (Kd.R k66 66 wr w.heap.size (fun _ => True) u210002 x210002_1) := ⟨by rw [← hq_]; exact (twr HO_210002.out)⟩; have n1_ : Az (wr.heap[gb203]? = some (.cells #[.int .u8 x204000_1, .string x204001_1, .slice none 0 0, .string x204003_1, .int .i64 x204004_1] 36 (0, 0))) := ⟨by rw [← hq_]; exact (twb BK203.out)⟩; have n2_ : Az (wr.heap[gb209]? = some (.cells #[.int .u8 x210000_1, .string (a0.extract ((ji25) : Int).toNat ((wrap64 ((ji25) + t208)) : Int).toNat), u210002, .string (⟨#[]⟩ : ByteArray), .int .i64 a1] 36 (0, 0))) := ⟨by rw [← hq_]; exact (twb BK209.out)⟩; have n3_ : Az (Below w.heap.size w wr) := ⟨by rw [← hq_]; exact (by repeat (first | (with_reducible first | exact HB.out | apply below_alloc | apply pw_below_drewN | apply below_drew1 | refine below_set ?_ GE203.out | refine below_set ?_ GE209.out) | exact HB.out))⟩; clear HO_210002 BK203 BK209 HB hq_; have HO_210002 := n0_; have BK203 := n1_; have BK209 := n2_; have HB := n3_; clear n0_ n1_ n2_ n3_))) | ((with_reducible refine gate_callee (f := 30) rfl ?_); refine goesL_ (some 83) rfl rfl Tryz.func30 (by kernel_rfl) rfl #[.string a0, .int .i64 (wrap64 (x10_1 + t210)), .string (⟨#[62]⟩ : ByteArray)] rfl (by (try simp only [List.map_toArray, List.map_cons, List.map_nil]); first | done | rfl | (simp only [List.length_drop, List.length_take]; rfl)) ?_; (with_reducible refine (r4_has.calls a0 (wrap64 (x10_1 + t210)) (⟨#[62]⟩ : ByteArray) true _ A42.out).mono ?_); rintro e w' ⟨rfl, ⟨nd, rfl⟩⟩; refine ⟨_, rfl, ?_⟩; (try (rw [drewN_self wr]; generalize hq_ : World.drewN wr _ = wr; have n0_ : Az (Kd.R k66 66 wr w.heap.size (fun _ => True) u210002 x210002_1) := ⟨by rw [← hq_]; exact (twr HO_210002.out)⟩; have n1_ : Az (wr.heap[gb203]? = some (.cells #[.int .u8 x204000_1, .string x204001_1, .slice none 0 0, .string x204003_1, .int .i64 x204004_1] 36 (0, 0))) := ⟨by rw [← hq_]; exact (twb BK203.out)⟩; have n2_ : Az (wr.heap[gb209]? = some (.cells #[.int .u8 x210000_1, .string (a0.extract ((ji25) : Int).toNat ((wrap64 ((ji25) + t208)) : Int).toNat), u210002, .string (⟨#[]⟩ : ByteArray), .int .i64 a1] 36 (0, 0))) := ⟨by rw [← hq_]; exact (twb BK209.out)⟩; have n3_ : Az (Below w.heap.size w wr) := ⟨by rw [← hq_]; exact (by repeat (first | (with_reducible first | exact HB.out | apply below_alloc | apply pw_below_drewN | apply below_drew1 | refine below_set ?_ GE203.out | refine below_set ?_ GE209.out) | exact HB.out))⟩; clear HO_210002 BK203 BK209 HB hq_; have HO_210002 := n0_; have BK203 := n1_; have BK209 := n2_; have HB := n3_; clear n0_ n1_ n2_ n3_)); have hnb44 := NB209_203.out; have hnc44 := NB203_209.out; have hcz45_0 : wr.cell? ⟨gb209, 0, none⟩ = some (.int .u8 x210000_1) := (blk_cell BK209.out 0).trans rfl; have hcz45_1 : wr.cell? ⟨gb209, 1, none⟩ = some (.string (a0.extract ((ji25) : Int).toNat ((wrap64 ((ji25) + t208)) : Int).toNat)) := (blk_cell BK209.out 1).trans rfl; have hcz45_2 : wr.cell? ⟨gb209, 2, none⟩ = some (u210002) := (blk_cell BK209.out 2).trans rfl; have hcz45_3 : wr.cell? ⟨gb209, 3, none⟩ = some (.string (⟨#[]⟩ : ByteArray)) := (blk_cell BK209.out 3).trans rfl; have hcz45_4 : wr.cell? ⟨gb209, 4, none⟩ = some (.int .i64 a1) := (blk_cell BK209.out 4).trans rfl; have hfz45_0 := blk_frozen BK209.out 0; have hfz45_1 := blk_frozen BK209.out 1; have hfz45_2 := blk_frozen BK209.out 2; have hfz45_3 := blk_frozen BK209.out 3; have hfz45_4 := blk_frozen BK209.out 4; have hcz46_0 : wr.cell? ⟨gb203, 0, none⟩ = some (.int .u8 x204000_1) := (blk_cell BK203.out 0).trans rfl; have hcz46_1 : wr.cell? ⟨gb203, 1, none⟩ = some (.string x204001_1) := (blk_cell BK203.out 1).trans rfl; have hcz46_2 : wr.cell? ⟨gb203, 2, none⟩ = some (.slice none 0 0) := (blk_cell BK203.out 2).trans rfl; have hcz46_3 : wr.cell? ⟨gb203, 3, none⟩ = some (.string x204003_1) := (blk_cell BK203.out 3).trans rfl; have hcz46_4 : wr.cell? ⟨gb203, 4, none⟩ = some (.int .i64 x204004_1) := (blk_cell BK203.out 4).trans rfl; have hfz46_0 := blk_frozen BK203.out 0; have hfz46_1 := blk_frozen BK203.out 1; have hfz46_2 := blk_frozen BK203.out 2; have hfz46_3 := blk_frozen BK203.out 3; have hfz46_4 := blk_frozen BK203.out 4; obtain ⟨Ao47, co47, eo47⟩ := Kd.R_slice HO_210002.out; subst eo47))
          refine bodyPost_ret (results_ct rfl _ _ gb203 36 #[.int .u8 x210000_1, .string (a0.extract ((ji25) : Int).toNat ((wrap64 ((ji25) + t208)) : Int).toNat), .slice Ao47 x210002_1.length co47, .string (⟨#[]⟩ : ByteArray), .int .i64 a1] (0, 0) _ rfl (by (with_reducible repeat (first | refine blk_drewN ?_ _ | refine blk_drew ?_ | refine blk_alloc ?_ _)); refine blk_put (cs := #[.int .u8 x210000_1, .string (a0.extract ((ji25) : Int).toNat ((wrap64 ((ji25) + t208)) : Int).toNat), .slice Ao47 x210002_1.length co47, .string (⟨#[]⟩ : ByteArray), .int .i64 x204004_1]) ?_ 4 _ rfl; (with_reducible repeat (first | refine blk_drewN ?_ _ | refine blk_drew ?_ | refine blk_alloc ?_ _)); refine blk_put (cs := #[.int .u8 x210000_1, .string (a0.extract ((ji25) : Int).toNat ((wrap64 ((ji25) + t208)) : Int).toNat), .slice Ao47 x210002_1.length co47, .string x204003_1, .int .i64 x204004_1]) ?_ 3 _ rfl; (with_reducible repeat (first | refine blk_drewN ?_ _ | refine blk_drew ?_ | refine blk_alloc ?_ _)); refine blk_put (cs := #[.int .u8 x210000_1, .string (a0.extract ((ji25) : Int).toNat ((wrap64 ((ji25) + t208)) : Int).toNat), .slice none 0 0, .string x204003_1, .int .i64 x204004_1]) ?_ 2 _ rfl; (with_reducible repeat (first | refine blk_drewN ?_ _ | refine blk_drew ?_ | refine blk_alloc ?_ _)); refine blk_put (cs := #[.int .u8 x210000_1, .string x204001_1, .slice none 0 0, .string x204003_1, .int .i64 x204004_1]) ?_ 1 _ rfl; (with_reducible repeat (first | refine blk_drewN ?_ _ | refine blk_drew ?_ | refine blk_alloc ?_ _)); refine blk_put (cs := #[.int .u8 x204000_1, .string x204001_1, .slice none 0 0, .string x204003_1, .int .i64 x204004_1]) ?_ 0 _ rfl; (with_reducible repeat (first | refine blk_drewN ?_ _ | refine blk_drew ?_ | refine blk_alloc ?_ _)); exact BK203.out) Tryz.underlying36 rfl (by kernel_rfl)) rfl ?_
          exact ⟨_, by first | rfl | (simp [errW_none, errW_some] <;> rfl) | (simp only [← hji25]; first | rfl | (simp [errW_none, errW_some] <;> rfl)) | (simp [*, errW_none, errW_some] <;> rfl), by (with_reducible repeat (first | apply Kd.R_alloc | apply Kd.R_drewN | apply Kd.R_drew)); exact Kd.R_mono (Kd.R_far (p := ⟨gb203, 4, none⟩) (Kd.R_far (p := ⟨gb203, 3, none⟩) (Kd.R_far (p := ⟨gb203, 2, none⟩) (Kd.R_far (p := ⟨gb203, 1, none⟩) (Kd.R_far (p := ⟨gb203, 0, none⟩) (Kd.R_types HO_210002.out BK203.out (by decide)) (fun _ hk => hk.2) (.int .u8 x210000_1)) (fun _ hk => hk.2) (.string (a0.extract ((ji25) : Int).toNat ((wrap64 ((ji25) + t208)) : Int).toNat))) (fun _ hk => hk.2) (.slice Ao47 x210002_1.length co47)) (fun _ hk => hk.2) (.string (⟨#[]⟩ : ByteArray))) (fun _ hk => hk.2) (.int .i64 a1)) (fun _ hk => trivial), by repeat (first | (with_reducible first | exact HB.out | apply below_alloc | apply pw_below_drewN | apply below_drew1 | refine below_set ?_ GE203.out | refine below_set ?_ GE209.out) | exact HB.out)⟩
         ·replace c43 := Bool.eq_false_iff.mpr c43
          subst c43
          have H1 : ((r4_has.f a0 (wrap64 (x10_1 + t210)) (⟨#[47, 62]⟩ : ByteArray)).bind fun t212 => (if t212 = true then (some (3, (a0.extract ((ji25) : Int).toNat ((wrap64 ((ji25) + t208)) : Int).toNat), x210002_1, (⟨#[]⟩ : ByteArray), a1, wrap64 ((wrap64 ((wrap64 (x10_1 + t210)) + 2)) - a1))) else (if t210 = 0 then (r4_tag.j1 k1 a0 a1 x10_1 t210 true x210000_1 (a0.extract ((ji25) : Int).toNat ((wrap64 ((ji25) + t208)) : Int).toNat) x210002_1 (⟨#[]⟩ : ByteArray) a1) else (r4_tag.j1 k1 a0 a1 x10_1 t210 (decide ((wrap64 (x10_1 + t210)) ≥ (a0.size : Int))) x210000_1 (a0.extract ((ji25) : Int).toNat ((wrap64 ((ji25) + t208)) : Int).toNat) x210002_1 (⟨#[]⟩ : ByteArray) a1)))) = some (r1, r2, r3, r4, r5, r6) := by rw [if_neg (show ¬ (false = true) by decide)] at H; exact H
          clear H
          have H := H1
          clear H1
          replace H := Option.bind_eq_some_iff.mp H
          obtain ⟨t212, A480, H⟩ := H
          replace H : (if t212 = true then (some (3, (a0.extract ((ji25) : Int).toNat ((wrap64 ((ji25) + t208)) : Int).toNat), x210002_1, (⟨#[]⟩ : ByteArray), a1, wrap64 ((wrap64 ((wrap64 (x10_1 + t210)) + 2)) - a1))) else (if t210 = 0 then (r4_tag.j1 k1 a0 a1 x10_1 t210 true x210000_1 (a0.extract ((ji25) : Int).toNat ((wrap64 ((ji25) + t208)) : Int).toNat) x210002_1 (⟨#[]⟩ : ByteArray) a1) else (r4_tag.j1 k1 a0 a1 x10_1 t210 (decide ((wrap64 (x10_1 + t210)) ≥ (a0.size : Int))) x210000_1 (a0.extract ((ji25) : Int).toNat ((wrap64 ((ji25) + t208)) : Int).toNat) x210002_1 (⟨#[]⟩ : ByteArray) a1))) = some (r1, r2, r3, r4, r5, r6) := H
          have A48 := Az.mk A480
          clear A480
          by_cases c49 : t212 = true
          ·subst c49
           have H1 : (some (3, (a0.extract ((ji25) : Int).toNat ((wrap64 ((ji25) + t208)) : Int).toNat), x210002_1, (⟨#[]⟩ : ByteArray), a1, wrap64 ((wrap64 ((wrap64 (x10_1 + t210)) + 2)) - a1))) = some (r1, r2, r3, r4, r5, r6) := by rw [if_pos rfl] at H; exact H
           clear H
           have H := H1
           clear H1
           simp only [Option.some.injEq, Prod.mk.injEq] at H
           obtain ⟨rfl, rfl, rfl, rfl, rfl, rfl⟩ := H
           go_wp2_with (first | ((with_reducible refine gate_callee (f := 33) rfl ?_); refine goesL_ (some 78) rfl rfl Tryz.func33 (by kernel_rfl) rfl #[.string a0, .int .i64 x10_1] rfl (by (try simp only [List.map_toArray, List.map_cons, List.map_nil]); first | done | rfl | (simp only [List.length_drop, List.length_take]; rfl)) ?_; (with_reducible refine (r4_blanks.calls k1 a0 x10_1 t210 _ A41.out).mono ?_); rintro e w' ⟨rfl, ⟨nd, rfl⟩⟩; refine ⟨_, rfl, ?_⟩; (try (rw [drewN_self wr]; generalize hq_ : World.drewN wr _ = wr; have n0_ : Az (Kd.R k66 66 wr w.heap.size (fun _ => True) u210002 x210002_1) := ⟨by rw [← hq_]; exact (twr HO_210002.out)⟩; have n1_ : Az (wr.heap[gb203]? = some (.cells #[.int .u8 x204000_1, .string x204001_1, .slice none 0 0, .string x204003_1, .int .i64 x204004_1] 36 (0, 0))) := ⟨by rw [← hq_]; exact (twb BK203.out)⟩; have n2_ : Az (wr.heap[gb209]? = some (.cells #[.int .u8 x210000_1, .string (a0.extract ((ji25) : Int).toNat ((wrap64 ((ji25) + t208)) : Int).toNat), u210002, .string (⟨#[]⟩ : ByteArray), .int .i64 a1] 36 (0, 0))) := ⟨by rw [← hq_]; exact (twb BK209.out)⟩; have n3_ : Az (Below w.heap.size w wr) := ⟨by rw [← hq_]; exact (by repeat (first | (with_reducible first | exact HB.out | apply below_alloc | apply pw_below_drewN | apply below_drew1 | refine below_set ?_ GE203.out | refine below_set ?_ GE209.out) | exact HB.out))⟩; clear HO_210002 BK203 BK209 HB hq_; have HO_210002 := n0_; have BK203 := n1_; have BK209 := n2_; have HB := n3_; clear n0_ n1_ n2_ n3_))) | ((with_reducible refine gate_callee (f := 30) rfl ?_); refine goesL_ (some 83) rfl rfl Tryz.func30 (by kernel_rfl) rfl #[.string a0, .int .i64 (wrap64 (x10_1 + t210)), .string (⟨#[62]⟩ : ByteArray)] rfl (by (try simp only [List.map_toArray, List.map_cons, List.map_nil]); first | done | rfl | (simp only [List.length_drop, List.length_take]; rfl)) ?_; (with_reducible refine (r4_has.calls a0 (wrap64 (x10_1 + t210)) (⟨#[62]⟩ : ByteArray) false _ A42.out).mono ?_); rintro e w' ⟨rfl, ⟨nd, rfl⟩⟩; refine ⟨_, rfl, ?_⟩; (try (rw [drewN_self wr]; generalize hq_ : World.drewN wr _ = wr; have n0_ : Az (Kd.R k66 66 wr w.heap.size (fun _ => True) u210002 x210002_1) := ⟨by rw [← hq_]; exact (twr HO_210002.out)⟩; have n1_ : Az (wr.heap[gb203]? = some (.cells #[.int .u8 x204000_1, .string x204001_1, .slice none 0 0, .string x204003_1, .int .i64 x204004_1] 36 (0, 0))) := ⟨by rw [← hq_]; exact (twb BK203.out)⟩; have n2_ : Az (wr.heap[gb209]? = some (.cells #[.int .u8 x210000_1, .string (a0.extract ((ji25) : Int).toNat ((wrap64 ((ji25) + t208)) : Int).toNat), u210002, .string (⟨#[]⟩ : ByteArray), .int .i64 a1] 36 (0, 0))) := ⟨by rw [← hq_]; exact (twb BK209.out)⟩; have n3_ : Az (Below w.heap.size w wr) := ⟨by rw [← hq_]; exact (by repeat (first | (with_reducible first | exact HB.out | apply below_alloc | apply pw_below_drewN | apply below_drew1 | refine below_set ?_ GE203.out | refine below_set ?_ GE209.out) | exact HB.out))⟩; clear HO_210002 BK203 BK209 HB hq_; have HO_210002 := n0_; have BK203 := n1_; have BK209 := n2_; have HB := n3_; clear n0_ n1_ n2_ n3_))) | ((with_reducible refine gate_callee (f := 30) rfl ?_); refine goesL_ (some 95) rfl rfl Tryz.func30 (by kernel_rfl) rfl #[.string a0, .int .i64 (wrap64 (x10_1 + t210)), .string (⟨#[47, 62]⟩ : ByteArray)] rfl (by (try simp only [List.map_toArray, List.map_cons, List.map_nil]); first | done | rfl | (simp only [List.length_drop, List.length_take]; rfl)) ?_; (with_reducible refine (r4_has.calls a0 (wrap64 (x10_1 + t210)) (⟨#[47, 62]⟩ : ByteArray) true _ A48.out).mono ?_); rintro e w' ⟨rfl, ⟨nd, rfl⟩⟩; refine ⟨_, rfl, ?_⟩; (try (rw [drewN_self wr]; generalize hq_ : World.drewN wr _ = wr; have n0_ : Az (Kd.R k66 66 wr w.heap.size (fun _ => True) u210002 x210002_1) := ⟨by rw [← hq_]; exact (twr HO_210002.out)⟩; have n1_ : Az (wr.heap[gb203]? = some (.cells #[.int .u8 x204000_1, .string x204001_1, .slice none 0 0, .string x204003_1, .int .i64 x204004_1] 36 (0, 0))) := ⟨by rw [← hq_]; exact (twb BK203.out)⟩; have n2_ : Az (wr.heap[gb209]? = some (.cells #[.int .u8 x210000_1, .string (a0.extract ((ji25) : Int).toNat ((wrap64 ((ji25) + t208)) : Int).toNat), u210002, .string (⟨#[]⟩ : ByteArray), .int .i64 a1] 36 (0, 0))) := ⟨by rw [← hq_]; exact (twb BK209.out)⟩; have n3_ : Az (Below w.heap.size w wr) := ⟨by rw [← hq_]; exact (by repeat (first | (with_reducible first | exact HB.out | apply below_alloc | apply pw_below_drewN | apply below_drew1 | refine below_set ?_ GE203.out | refine below_set ?_ GE209.out) | exact HB.out))⟩; clear HO_210002 BK203 BK209 HB hq_; have HO_210002 := n0_; have BK203 := n1_; have BK209 := n2_; have HB := n3_; clear n0_ n1_ n2_ n3_)); have hnb50 := NB209_203.out; have hnc50 := NB203_209.out; have hcz51_0 : wr.cell? ⟨gb209, 0, none⟩ = some (.int .u8 x210000_1) := (blk_cell BK209.out 0).trans rfl; have hcz51_1 : wr.cell? ⟨gb209, 1, none⟩ = some (.string (a0.extract ((ji25) : Int).toNat ((wrap64 ((ji25) + t208)) : Int).toNat)) := (blk_cell BK209.out 1).trans rfl; have hcz51_2 : wr.cell? ⟨gb209, 2, none⟩ = some (u210002) := (blk_cell BK209.out 2).trans rfl; have hcz51_3 : wr.cell? ⟨gb209, 3, none⟩ = some (.string (⟨#[]⟩ : ByteArray)) := (blk_cell BK209.out 3).trans rfl; have hcz51_4 : wr.cell? ⟨gb209, 4, none⟩ = some (.int .i64 a1) := (blk_cell BK209.out 4).trans rfl; have hfz51_0 := blk_frozen BK209.out 0; have hfz51_1 := blk_frozen BK209.out 1; have hfz51_2 := blk_frozen BK209.out 2; have hfz51_3 := blk_frozen BK209.out 3; have hfz51_4 := blk_frozen BK209.out 4; have hcz52_0 : wr.cell? ⟨gb203, 0, none⟩ = some (.int .u8 x204000_1) := (blk_cell BK203.out 0).trans rfl; have hcz52_1 : wr.cell? ⟨gb203, 1, none⟩ = some (.string x204001_1) := (blk_cell BK203.out 1).trans rfl; have hcz52_2 : wr.cell? ⟨gb203, 2, none⟩ = some (.slice none 0 0) := (blk_cell BK203.out 2).trans rfl; have hcz52_3 : wr.cell? ⟨gb203, 3, none⟩ = some (.string x204003_1) := (blk_cell BK203.out 3).trans rfl; have hcz52_4 : wr.cell? ⟨gb203, 4, none⟩ = some (.int .i64 x204004_1) := (blk_cell BK203.out 4).trans rfl; have hfz52_0 := blk_frozen BK203.out 0; have hfz52_1 := blk_frozen BK203.out 1; have hfz52_2 := blk_frozen BK203.out 2; have hfz52_3 := blk_frozen BK203.out 3; have hfz52_4 := blk_frozen BK203.out 4; obtain ⟨Ao53, co53, eo53⟩ := Kd.R_slice HO_210002.out; subst eo53))
           refine bodyPost_ret (results_ct rfl _ _ gb203 36 #[.int .u8 3, .string (a0.extract ((ji25) : Int).toNat ((wrap64 ((ji25) + t208)) : Int).toNat), .slice Ao53 x210002_1.length co53, .string (⟨#[]⟩ : ByteArray), .int .i64 a1] (0, 0) _ rfl (by (with_reducible repeat (first | refine blk_drewN ?_ _ | refine blk_drew ?_ | refine blk_alloc ?_ _)); refine blk_put (cs := #[.int .u8 3, .string (a0.extract ((ji25) : Int).toNat ((wrap64 ((ji25) + t208)) : Int).toNat), .slice Ao53 x210002_1.length co53, .string (⟨#[]⟩ : ByteArray), .int .i64 x204004_1]) ?_ 4 _ rfl; (with_reducible repeat (first | refine blk_drewN ?_ _ | refine blk_drew ?_ | refine blk_alloc ?_ _)); refine blk_put (cs := #[.int .u8 3, .string (a0.extract ((ji25) : Int).toNat ((wrap64 ((ji25) + t208)) : Int).toNat), .slice Ao53 x210002_1.length co53, .string x204003_1, .int .i64 x204004_1]) ?_ 3 _ rfl; (with_reducible repeat (first | refine blk_drewN ?_ _ | refine blk_drew ?_ | refine blk_alloc ?_ _)); refine blk_put (cs := #[.int .u8 3, .string (a0.extract ((ji25) : Int).toNat ((wrap64 ((ji25) + t208)) : Int).toNat), .slice none 0 0, .string x204003_1, .int .i64 x204004_1]) ?_ 2 _ rfl; (with_reducible repeat (first | refine blk_drewN ?_ _ | refine blk_drew ?_ | refine blk_alloc ?_ _)); refine blk_put (cs := #[.int .u8 3, .string x204001_1, .slice none 0 0, .string x204003_1, .int .i64 x204004_1]) ?_ 1 _ rfl; (with_reducible repeat (first | refine blk_drewN ?_ _ | refine blk_drew ?_ | refine blk_alloc ?_ _)); refine blk_put (cs := #[.int .u8 x204000_1, .string x204001_1, .slice none 0 0, .string x204003_1, .int .i64 x204004_1]) ?_ 0 _ rfl; (with_reducible repeat (first | refine blk_drewN ?_ _ | refine blk_drew ?_ | refine blk_alloc ?_ _)); refine blk_far ?_ NB203_209.out _; (with_reducible repeat (first | refine blk_drewN ?_ _ | refine blk_drew ?_ | refine blk_alloc ?_ _)); exact BK203.out) Tryz.underlying36 rfl (by kernel_rfl)) rfl ?_
           exact ⟨_, by first | rfl | (simp [errW_none, errW_some] <;> rfl) | (simp only [← hji25]; first | rfl | (simp [errW_none, errW_some] <;> rfl)) | (simp [*, errW_none, errW_some] <;> rfl), by (with_reducible repeat (first | apply Kd.R_alloc | apply Kd.R_drewN | apply Kd.R_drew)); exact Kd.R_mono (Kd.R_far (p := ⟨gb203, 4, none⟩) (Kd.R_far (p := ⟨gb203, 3, none⟩) (Kd.R_far (p := ⟨gb203, 2, none⟩) (Kd.R_far (p := ⟨gb203, 1, none⟩) (Kd.R_far (p := ⟨gb203, 0, none⟩) (Kd.R_far (p := ⟨gb209, 0, none⟩) (Kd.R_types (Kd.R_types HO_210002.out BK209.out (by decide)) BK203.out (by decide)) (fun _ hk => hk.1.2) (.int .u8 3)) (fun _ hk => hk.2) (.int .u8 3)) (fun _ hk => hk.2) (.string (a0.extract ((ji25) : Int).toNat ((wrap64 ((ji25) + t208)) : Int).toNat))) (fun _ hk => hk.2) (.slice Ao53 x210002_1.length co53)) (fun _ hk => hk.2) (.string (⟨#[]⟩ : ByteArray))) (fun _ hk => hk.2) (.int .i64 a1)) (fun _ hk => trivial), by repeat (first | (with_reducible first | exact HB.out | apply below_alloc | apply pw_below_drewN | apply below_drew1 | refine below_set ?_ GE203.out | refine below_set ?_ GE209.out) | exact HB.out)⟩
          ·replace c49 := Bool.eq_false_iff.mpr c49
           subst c49
           have H1 : (if t210 = 0 then (r4_tag.j1 k1 a0 a1 x10_1 t210 true x210000_1 (a0.extract ((ji25) : Int).toNat ((wrap64 ((ji25) + t208)) : Int).toNat) x210002_1 (⟨#[]⟩ : ByteArray) a1) else (r4_tag.j1 k1 a0 a1 x10_1 t210 (decide ((wrap64 (x10_1 + t210)) ≥ (a0.size : Int))) x210000_1 (a0.extract ((ji25) : Int).toNat ((wrap64 ((ji25) + t208)) : Int).toNat) x210002_1 (⟨#[]⟩ : ByteArray) a1)) = some (r1, r2, r3, r4, r5, r6) := by rw [if_neg (show ¬ (false = true) by decide)] at H; exact H
           clear H
           have H := H1
           clear H1
           have HC54 := Az.mk H
           clear H
           go_upto_region 19 with (first | ((with_reducible refine gate_callee (f := 33) rfl ?_); refine goesL_ (some 78) rfl rfl Tryz.func33 (by kernel_rfl) rfl #[.string a0, .int .i64 x10_1] rfl (by (try simp only [List.map_toArray, List.map_cons, List.map_nil]); first | done | rfl | (simp only [List.length_drop, List.length_take]; rfl)) ?_; (with_reducible refine (r4_blanks.calls k1 a0 x10_1 t210 _ A41.out).mono ?_); rintro e w' ⟨rfl, ⟨nd, rfl⟩⟩; refine ⟨_, rfl, ?_⟩) | ((with_reducible refine gate_callee (f := 30) rfl ?_); refine goesL_ (some 83) rfl rfl Tryz.func30 (by kernel_rfl) rfl #[.string a0, .int .i64 (wrap64 (x10_1 + t210)), .string (⟨#[62]⟩ : ByteArray)] rfl (by (try simp only [List.map_toArray, List.map_cons, List.map_nil]); first | done | rfl | (simp only [List.length_drop, List.length_take]; rfl)) ?_; (with_reducible refine (r4_has.calls a0 (wrap64 (x10_1 + t210)) (⟨#[62]⟩ : ByteArray) false _ A42.out).mono ?_); rintro e w' ⟨rfl, ⟨nd, rfl⟩⟩; refine ⟨_, rfl, ?_⟩) | ((with_reducible refine gate_callee (f := 30) rfl ?_); refine goesL_ (some 95) rfl rfl Tryz.func30 (by kernel_rfl) rfl #[.string a0, .int .i64 (wrap64 (x10_1 + t210)), .string (⟨#[47, 62]⟩ : ByteArray)] rfl (by (try simp only [List.map_toArray, List.map_cons, List.map_nil]); first | done | rfl | (simp only [List.length_drop, List.length_take]; rfl)) ?_; (with_reducible refine (r4_has.calls a0 (wrap64 (x10_1 + t210)) (⟨#[47, 62]⟩ : ByteArray) false _ A48.out).mono ?_); rintro e w' ⟨rfl, ⟨nd, rfl⟩⟩; refine ⟨_, rfl, ?_⟩))
           (try simp only [Act.put, List.setIfInBounds_toArray, List.set_cons_zero, List.set_cons_succ])
           go_cut [113] (fun v113 wc => ∃ (kq : Nat) (x113_53 : Bool), v113 = .bool x113_53 ∧ Az (r4_tag.j1 kq a0 a1 x10_1 t210 x113_53 x210000_1 (a0.extract ((ji25) : Int).toNat ((wrap64 ((ji25) + t208)) : Int).toNat) x210002_1 (⟨#[]⟩ : ByteArray) a1 = some (r1, r2, r3, r4, r5, r6)) ∧ Az (kq ≤ k1) ∧ Az (Kd.R k66 66 wc w.heap.size (fun _ => True) u210002 x210002_1) ∧ Az (wc.heap[gb203]? = some (.cells #[.int .u8 x204000_1, .string x204001_1, (.slice none 0 0), .string x204003_1, .int .i64 x204004_1] 36 (0, 0))) ∧ Az (wc.heap[gb209]? = some (.cells #[.int .u8 x210000_1, .string (a0.extract ((ji25) : Int).toNat ((wrap64 ((ji25) + t208)) : Int).toNat), u210002, .string (⟨#[]⟩ : ByteArray), .int .i64 a1] 36 (0, 0))) ∧ Az (Below w.heap.size w wc))
           case first =>
            have H := HC54.out
            clear HC54
            by_cases c55 : t210 = 0
            ·rw [if_pos c55] at H
             have c55b0 : (t210 == 0) = true := beq_iff_eq.mpr c55
             have c55b1 : (t210 != 0) = false := bne_eq_false_iff_eq.mpr c55
             clear c55
             (first | rw [c55b0] | (simp only [i64_w, i32_w]; rw [c55b0]) | skip)
             have H' := Az.mk H
             clear H
             go_wp2
             go_meet
             case rel => exact ⟨_, (true), (by first | rfl | (simp; done) | (simp [*]; done)), H', ⟨by have := HK1.out; first | omega | exact Nat.le_refl _⟩, ⟨twr HO_210002.out⟩, ⟨twb BK203.out⟩, ⟨twb BK209.out⟩, ⟨by repeat (first | (with_reducible first | exact HB.out | apply below_alloc | apply pw_below_drewN | apply below_drew1 | refine below_set ?_ GE203.out | refine below_set ?_ GE209.out) | exact HB.out)⟩⟩
            ·rw [if_neg c55] at H
             have c55b0 : (t210 == 0) = false := beq_eq_false_iff_ne.mpr c55
             have c55b1 : (t210 != 0) = true := bne_iff_ne.mpr c55
             (first | rw [c55b0] | (simp only [i64_w, i32_w]; rw [c55b0]) | skip)
             have H' := Az.mk H
             clear H
             go_wp2
             go_meet
             case rel => exact ⟨_, (decide ((wrap64 (x10_1 + t210)) ≥ (a0.size : Int))), (by first | rfl | (simp; done) | (simp [*]; done)), H', ⟨by have := HK1.out; first | omega | exact Nat.le_refl _⟩, ⟨twr HO_210002.out⟩, ⟨twb BK203.out⟩, ⟨twb BK209.out⟩, ⟨by repeat (first | (with_reducible first | exact HB.out | apply below_alloc | apply pw_below_drewN | apply below_drew1 | refine below_set ?_ GE203.out | refine below_set ?_ GE209.out) | exact HB.out)⟩⟩
           case rest =>
            clear HC54
            try clear c1
            try clear c2
            try clear p2
            try clear c3
            try clear c4
            try clear c5
            try clear c6
            try clear c6b0
            try clear c6b1
            try clear p6
            try clear c7
            try clear c7b0
            try clear c7b1
            try clear c10
            try clear c10b0
            try clear c10b1
            try clear c15
            try clear c16
            try clear c16b0
            try clear c17
            try clear c17b0
            try clear c17b1
            try clear c18
            try clear c18b0
            try clear c18b1
            try clear c20
            try clear c26
            try clear c26b0
            try clear c26b1
            try clear c27
            try clear c27b0
            try clear c27b1
            try clear c29
            try clear c29b0
            try clear c29b1
            try clear c30
            try clear c32
            try clear c33
            try clear c33b0
            try clear c34
            try clear c34b0
            try clear c34b1
            try clear c35
            try clear c35b0
            try clear c35b1
            try clear c39
            try clear c43
            try clear c44
            try clear c49
            try clear c50
            try clear c55
            try clear c55b0
            try clear c55b1
            try clear hcz13_0
            try clear hcz13_1
            try clear hcz13_2
            try clear hcz13_3
            try clear hcz13_4
            try clear hcz21_0
            try clear hcz21_1
            try clear hcz21_2
            try clear hcz21_3
            try clear hcz21_4
            try clear hcz24_0
            try clear hcz24_1
            try clear hcz24_2
            try clear hcz24_3
            try clear hcz24_4
            try clear hcz32_0
            try clear hcz32_1
            try clear hcz32_2
            try clear hcz32_3
            try clear hcz32_4
            try clear hcz40_0
            try clear hcz40_1
            try clear hcz40_2
            try clear hcz40_3
            try clear hcz40_4
            try clear hcz45_0
            try clear hcz45_1
            try clear hcz45_2
            try clear hcz45_3
            try clear hcz45_4
            try clear hcz46_0
            try clear hcz46_1
            try clear hcz46_2
            try clear hcz46_3
            try clear hcz46_4
            try clear hcz51_0
            try clear hcz51_1
            try clear hcz51_2
            try clear hcz51_3
            try clear hcz51_4
            try clear hcz52_0
            try clear hcz52_1
            try clear hcz52_2
            try clear hcz52_3
            try clear hcz52_4
            try clear hfz13_0
            try clear hfz13_1
            try clear hfz13_2
            try clear hfz13_3
            try clear hfz13_4
            try clear hfz21_0
            try clear hfz21_1
            try clear hfz21_2
            try clear hfz21_3
            try clear hfz21_4
            try clear hfz24_0
            try clear hfz24_1
            try clear hfz24_2
            try clear hfz24_3
            try clear hfz24_4
            try clear hfz32_0
            try clear hfz32_1
            try clear hfz32_2
            try clear hfz32_3
            try clear hfz32_4
            try clear hfz40_0
            try clear hfz40_1
            try clear hfz40_2
            try clear hfz40_3
            try clear hfz40_4
            try clear hfz45_0
            try clear hfz45_1
            try clear hfz45_2
            try clear hfz45_3
            try clear hfz45_4
            try clear hfz46_0
            try clear hfz46_1
            try clear hfz46_2
            try clear hfz46_3
            try clear hfz46_4
            try clear hfz51_0
            try clear hfz51_1
            try clear hfz51_2
            try clear hfz51_3
            try clear hfz51_4
            try clear hfz52_0
            try clear hfz52_1
            try clear hfz52_2
            try clear hfz52_3
            try clear hfz52_4
            try clear p2
            try clear p6
            obtain ⟨kq, x113_53, rfl, HA, HJ53, HO_210002, BK203, BK209, HB⟩ := hcut
            cases kq with
            | zero => exact absurd HA.out (by simp [r4_tag.j1])
            | succ kj53 =>
             have H := HA.out
             clear HA
             simp only [r4_tag.j1] at H
             by_cases c56 : x113_53 = true
             ·subst c56
              have H1 : (some (0, (⟨#[]⟩ : ByteArray), ([] : List (S66)), (⟨#[]⟩ : ByteArray), 0, 0)) = some (r1, r2, r3, r4, r5, r6) := by rw [if_pos rfl] at H; exact H
              clear H
              have H := H1
              clear H1
              simp only [Option.some.injEq, Prod.mk.injEq] at H
              obtain ⟨rfl, rfl, rfl, rfl, rfl, rfl⟩ := H
              have hnb57 := NB203_209.out
              have hnc57 := NB209_203.out
              have hcz58_0 : wc.cell? ⟨gb203, 0, none⟩ = some (.int .u8 x204000_1) := (blk_cell BK203.out 0).trans rfl
              have hcz58_1 : wc.cell? ⟨gb203, 1, none⟩ = some (.string x204001_1) := (blk_cell BK203.out 1).trans rfl
              have hcz58_2 : wc.cell? ⟨gb203, 2, none⟩ = some (.slice none 0 0) := (blk_cell BK203.out 2).trans rfl
              have hcz58_3 : wc.cell? ⟨gb203, 3, none⟩ = some (.string x204003_1) := (blk_cell BK203.out 3).trans rfl
              have hcz58_4 : wc.cell? ⟨gb203, 4, none⟩ = some (.int .i64 x204004_1) := (blk_cell BK203.out 4).trans rfl
              have hfz58_0 := blk_frozen BK203.out 0
              have hfz58_1 := blk_frozen BK203.out 1
              have hfz58_2 := blk_frozen BK203.out 2
              have hfz58_3 := blk_frozen BK203.out 3
              have hfz58_4 := blk_frozen BK203.out 4
              go_wp2
              refine bodyPost_ret (results_ct rfl _ _ gb203 36 #[.int .u8 0, .string (⟨#[]⟩ : ByteArray), .slice none 0 0, .string (⟨#[]⟩ : ByteArray), .int .i64 0] (0, 0) _ rfl (by (with_reducible repeat (first | refine blk_drewN ?_ _ | refine blk_drew ?_ | refine blk_alloc ?_ _)); refine blk_put (cs := #[.int .u8 0, .string (⟨#[]⟩ : ByteArray), .slice none 0 0, .string (⟨#[]⟩ : ByteArray), .int .i64 x204004_1]) ?_ 4 _ rfl; (with_reducible repeat (first | refine blk_drewN ?_ _ | refine blk_drew ?_ | refine blk_alloc ?_ _)); refine blk_put (cs := #[.int .u8 0, .string (⟨#[]⟩ : ByteArray), .slice none 0 0, .string x204003_1, .int .i64 x204004_1]) ?_ 3 _ rfl; (with_reducible repeat (first | refine blk_drewN ?_ _ | refine blk_drew ?_ | refine blk_alloc ?_ _)); refine blk_put (cs := #[.int .u8 0, .string (⟨#[]⟩ : ByteArray), .slice none 0 0, .string x204003_1, .int .i64 x204004_1]) ?_ 2 _ rfl; (with_reducible repeat (first | refine blk_drewN ?_ _ | refine blk_drew ?_ | refine blk_alloc ?_ _)); refine blk_put (cs := #[.int .u8 0, .string x204001_1, .slice none 0 0, .string x204003_1, .int .i64 x204004_1]) ?_ 1 _ rfl; (with_reducible repeat (first | refine blk_drewN ?_ _ | refine blk_drew ?_ | refine blk_alloc ?_ _)); refine blk_put (cs := #[.int .u8 x204000_1, .string x204001_1, .slice none 0 0, .string x204003_1, .int .i64 x204004_1]) ?_ 0 _ rfl; (with_reducible repeat (first | refine blk_drewN ?_ _ | refine blk_drew ?_ | refine blk_alloc ?_ _)); exact BK203.out) Tryz.underlying36 rfl (by kernel_rfl)) rfl ?_
              exact ⟨_, by first | rfl | (simp [errW_none, errW_some] <;> rfl) | (simp only [← hji25]; first | rfl | (simp [errW_none, errW_some] <;> rfl)) | (simp [*, errW_none, errW_some] <;> rfl), by first | exact Kd.R_nil _ _ _ _ _ | exact Kd.N_nil _ _ _ _ _ | exact Kd.V_nil _ _ _ _ _ | exact Kd.Q_nil _ _ _ _ _ | exact Kd.S_nil _ _ _ _ _, by repeat (first | (with_reducible first | exact HB.out | apply below_alloc | apply pw_below_drewN | apply below_drew1 | refine below_set ?_ GE203.out | refine below_set ?_ GE209.out) | exact HB.out)⟩
             ·replace c56 := Bool.eq_false_iff.mpr c56
              subst c56
              have H1 : ((r4_attribute.f kj53 a0 (wrap64 (x10_1 + t210))).bind fun bt213 => (if bt213.2.2.2 = 0 then (some (0, (⟨#[]⟩ : ByteArray), ([] : List (S66)), (⟨#[]⟩ : ByteArray), 0, 0)) else (if x210002_1.length < 3518437208883 then (r4_tag.l0 kj53 a0 a1 (wrap64 ((wrap64 (x10_1 + t210)) + bt213.2.2.2)) x210000_1 (a0.extract ((ji25) : Int).toNat ((wrap64 ((ji25) + t208)) : Int).toNat) (x210002_1 ++ [(⟨bt213.1, bt213.2.1, bt213.2.2.1⟩ : S66)]) (⟨#[]⟩ : ByteArray) a1) else (none)))) = some (r1, r2, r3, r4, r5, r6) := by rw [if_neg (show ¬ (false = true) by decide)] at H; exact H
              clear H
              have H := H1
              clear H1
              replace H := Option.bind_eq_some_iff.mp H
              obtain ⟨⟨t213, t214, t215, t216⟩, A590, H⟩ := H
              replace H : (if t216 = 0 then (some (0, (⟨#[]⟩ : ByteArray), ([] : List (S66)), (⟨#[]⟩ : ByteArray), 0, 0)) else (if x210002_1.length < 3518437208883 then (r4_tag.l0 kj53 a0 a1 (wrap64 ((wrap64 (x10_1 + t210)) + t216)) x210000_1 (a0.extract ((ji25) : Int).toNat ((wrap64 ((ji25) + t208)) : Int).toNat) (x210002_1 ++ [(⟨t213, t214, t215⟩ : S66)]) (⟨#[]⟩ : ByteArray) a1) else (none))) = some (r1, r2, r3, r4, r5, r6) := H
              have A59 := Az.mk A590
              clear A590
              by_cases c60 : t216 = 0
              ·rw [if_pos c60] at H
               have c60b0 : (t216 == 0) = true := beq_iff_eq.mpr c60
               have c60b1 : (t216 != 0) = false := bne_eq_false_iff_eq.mpr c60
               clear c60
               simp only [Option.some.injEq, Prod.mk.injEq] at H
               obtain ⟨rfl, rfl, rfl, rfl, rfl, rfl⟩ := H
               go_wp2_with (first | ((with_reducible refine gate_callee (f := 34) rfl ?_); refine goesL_ (some 120) rfl rfl Tryz.func34 (by kernel_rfl) rfl #[.string a0, .int .i64 (wrap64 (x10_1 + t210))] rfl (by (try simp only [List.map_toArray, List.map_cons, List.map_nil]); first | done | rfl | (simp only [List.length_drop, List.length_take]; rfl)) ?_; (with_reducible refine (r4_attribute.calls kj53 a0 (wrap64 (x10_1 + t210)) t213 t214 t215 t216 _ A59.out).mono ?_); rintro e w61 ⟨rfl, hb⟩; refine ⟨_, rfl, ?_⟩; have n0_ := Az.mk (Kd.R_below (twr HO_210002.out) hb); have n1_ := Az.mk (blk_below (g := gb203) (o := .cells #[.int .u8 x204000_1, .string x204001_1, .slice none 0 0, .string x204003_1, .int .i64 x204004_1] 36 (0, 0)) (twb BK203.out) hb); have n2_ := Az.mk (blk_below (g := gb209) (o := .cells #[.int .u8 x210000_1, .string (a0.extract ((ji25) : Int).toNat ((wrap64 ((ji25) + t208)) : Int).toNat), u210002, .string (⟨#[]⟩ : ByteArray), .int .i64 a1] 36 (0, 0)) (twb BK209.out) hb); have n3_ := Az.mk (below_step (by repeat (first | (with_reducible first | exact HB.out | apply below_alloc | apply pw_below_drewN | apply below_drew1 | refine below_set ?_ GE203.out | refine below_set ?_ GE209.out) | exact HB.out)) hb); clear HO_210002; clear BK203; clear BK209; clear HB; have HO_210002 := n0_; have BK203 := n1_; have BK209 := n2_; have HB := n3_; clear n0_ n1_ n2_ n3_; (try clear hb); (try clear hb2); (try clear hk); (try clear hi)) | ((with_reducible refine gate_dst (N := 12) rfl ?_); (try (refine gate_guard (by rfl) ?_; dsimp only)); refine box_event ?hg (N := 12) ?hd (cs := #[.string (⟨#[]⟩ : ByteArray), .string (⟨#[]⟩ : ByteArray), .int .i64 0]) (t := 66) ?hr ?_; (case hd => rfl); (case hg => rfl); (case hr => first | (go_simp; done) | (go_simp; rfl)); intro gb217 hg w62 hbox hb; have n0_ := Az.mk (Kd.R_below (Kd.R_elderB (twr HO_210002.out) gb217 (Nat.le_of_eq hg.symm)) hb); have n1_ := Az.mk (blk_below (g := gb203) (o := .cells #[.int .u8 x204000_1, .string x204001_1, .slice none 0 0, .string x204003_1, .int .i64 x204004_1] 36 (0, 0)) (twb BK203.out) hb); have n2_ := Az.mk (blk_below (g := gb209) (o := .cells #[.int .u8 x210000_1, .string (a0.extract ((ji25) : Int).toNat ((wrap64 ((ji25) + t208)) : Int).toNat), u210002, .string (⟨#[]⟩ : ByteArray), .int .i64 a1] 36 (0, 0)) (twb BK209.out) hb); have n3_ := Az.mk (below_step (by repeat (first | (with_reducible first | exact HB.out | apply below_alloc | apply pw_below_drewN | apply below_drew1 | refine below_set ?_ GE203.out | refine below_set ?_ GE209.out) | exact HB.out)) hb); have n4_ := Az.mk (hbox); have n5_ := Az.mk ((by rw [hg]; exact (below_size (by repeat (first | (with_reducible first | exact HB.out | apply below_alloc | apply pw_below_drewN | apply below_drew1 | refine below_set ?_ GE203.out | refine below_set ?_ GE209.out) | exact HB.out))) : w.heap.size ≤ gb217)); have n6_ := Az.mk ((by rw [hg]; exact (below_size (by repeat (first | (with_reducible first | exact HB.out | apply below_alloc | apply pw_below_drewN | apply below_drew1 | refine below_set ?_ GE203.out | refine below_set ?_ GE209.out) | exact HB.out))) : w.heap.size ≤ gb217)); have n7_ := Az.mk ((by rw [hg]; exact Nat.ne_of_lt (blk_lt (g := gb203) (o := .cells #[.int .u8 x204000_1, .string x204001_1, .slice none 0 0, .string x204003_1, .int .i64 x204004_1] 36 (0, 0)) (twb BK203.out)) : gb203 ≠ gb217)); have n8_ := Az.mk ((by rw [hg]; exact Nat.ne_of_gt (blk_lt (g := gb203) (o := .cells #[.int .u8 x204000_1, .string x204001_1, .slice none 0 0, .string x204003_1, .int .i64 x204004_1] 36 (0, 0)) (twb BK203.out)) : gb217 ≠ gb203)); have n9_ := Az.mk ((by rw [hg]; exact Nat.ne_of_lt (blk_lt (g := gb209) (o := .cells #[.int .u8 x210000_1, .string (a0.extract ((ji25) : Int).toNat ((wrap64 ((ji25) + t208)) : Int).toNat), u210002, .string (⟨#[]⟩ : ByteArray), .int .i64 a1] 36 (0, 0)) (twb BK209.out)) : gb209 ≠ gb217)); have n10_ := Az.mk ((by rw [hg]; exact Nat.ne_of_gt (blk_lt (g := gb209) (o := .cells #[.int .u8 x210000_1, .string (a0.extract ((ji25) : Int).toNat ((wrap64 ((ji25) + t208)) : Int).toNat), u210002, .string (⟨#[]⟩ : ByteArray), .int .i64 a1] 36 (0, 0)) (twb BK209.out)) : gb217 ≠ gb209)); clear HO_210002; clear BK203; clear BK209; clear HB; have HO_210002 := n0_; have BK203 := n1_; have BK209 := n2_; have HB := n3_; have BK217 := n4_; have GW217 := n5_; have GE217 := n6_; have NB203_217 := n7_; have NB217_203 := n8_; have NB209_217 := n9_; have NB217_209 := n10_; clear n0_ n1_ n2_ n3_ n4_ n5_ n6_ n7_ n8_ n9_ n10_; clear hb hbox hg; have hnb63 := NB217_203.out; have hnc63 := NB203_217.out; have hnb64 := NB217_209.out; have hnc64 := NB209_217.out; have hcz65_0 : w62.cell? ⟨gb217, 0, none⟩ = some (.string (⟨#[]⟩ : ByteArray)) := (blk_cell BK217.out 0).trans rfl; have hcz65_1 : w62.cell? ⟨gb217, 1, none⟩ = some (.string (⟨#[]⟩ : ByteArray)) := (blk_cell BK217.out 1).trans rfl; have hcz65_2 : w62.cell? ⟨gb217, 2, none⟩ = some (.int .i64 0) := (blk_cell BK217.out 2).trans rfl; have hfz65_0 := blk_frozen BK217.out 0; have hfz65_1 := blk_frozen BK217.out 1; have hfz65_2 := blk_frozen BK217.out 2; have hnb66 := NB203_209.out; have hnc66 := NB209_203.out; have hcz67_0 : w62.cell? ⟨gb203, 0, none⟩ = some (.int .u8 x204000_1) := (blk_cell BK203.out 0).trans rfl; have hcz67_1 : w62.cell? ⟨gb203, 1, none⟩ = some (.string x204001_1) := (blk_cell BK203.out 1).trans rfl; have hcz67_2 : w62.cell? ⟨gb203, 2, none⟩ = some (.slice none 0 0) := (blk_cell BK203.out 2).trans rfl; have hcz67_3 : w62.cell? ⟨gb203, 3, none⟩ = some (.string x204003_1) := (blk_cell BK203.out 3).trans rfl; have hcz67_4 : w62.cell? ⟨gb203, 4, none⟩ = some (.int .i64 x204004_1) := (blk_cell BK203.out 4).trans rfl; have hfz67_0 := blk_frozen BK203.out 0; have hfz67_1 := blk_frozen BK203.out 1; have hfz67_2 := blk_frozen BK203.out 2; have hfz67_3 := blk_frozen BK203.out 3; have hfz67_4 := blk_frozen BK203.out 4))
               refine bodyPost_ret (results_ct rfl _ _ gb203 36 #[.int .u8 0, .string (⟨#[]⟩ : ByteArray), .slice none 0 0, .string (⟨#[]⟩ : ByteArray), .int .i64 0] (0, 0) _ rfl (by (with_reducible repeat (first | refine blk_drewN ?_ _ | refine blk_drew ?_ | refine blk_alloc ?_ _)); refine blk_put (cs := #[.int .u8 0, .string (⟨#[]⟩ : ByteArray), .slice none 0 0, .string (⟨#[]⟩ : ByteArray), .int .i64 x204004_1]) ?_ 4 _ rfl; (with_reducible repeat (first | refine blk_drewN ?_ _ | refine blk_drew ?_ | refine blk_alloc ?_ _)); refine blk_put (cs := #[.int .u8 0, .string (⟨#[]⟩ : ByteArray), .slice none 0 0, .string x204003_1, .int .i64 x204004_1]) ?_ 3 _ rfl; (with_reducible repeat (first | refine blk_drewN ?_ _ | refine blk_drew ?_ | refine blk_alloc ?_ _)); refine blk_put (cs := #[.int .u8 0, .string (⟨#[]⟩ : ByteArray), .slice none 0 0, .string x204003_1, .int .i64 x204004_1]) ?_ 2 _ rfl; (with_reducible repeat (first | refine blk_drewN ?_ _ | refine blk_drew ?_ | refine blk_alloc ?_ _)); refine blk_put (cs := #[.int .u8 0, .string x204001_1, .slice none 0 0, .string x204003_1, .int .i64 x204004_1]) ?_ 1 _ rfl; (with_reducible repeat (first | refine blk_drewN ?_ _ | refine blk_drew ?_ | refine blk_alloc ?_ _)); refine blk_put (cs := #[.int .u8 x204000_1, .string x204001_1, .slice none 0 0, .string x204003_1, .int .i64 x204004_1]) ?_ 0 _ rfl; (with_reducible repeat (first | refine blk_drewN ?_ _ | refine blk_drew ?_ | refine blk_alloc ?_ _)); refine blk_far ?_ NB203_217.out _; (with_reducible repeat (first | refine blk_drewN ?_ _ | refine blk_drew ?_ | refine blk_alloc ?_ _)); refine blk_far ?_ NB203_217.out _; (with_reducible repeat (first | refine blk_drewN ?_ _ | refine blk_drew ?_ | refine blk_alloc ?_ _)); refine blk_far ?_ NB203_217.out _; (with_reducible repeat (first | refine blk_drewN ?_ _ | refine blk_drew ?_ | refine blk_alloc ?_ _)); exact BK203.out) Tryz.underlying36 rfl (by kernel_rfl)) rfl ?_
               exact ⟨_, by first | rfl | (simp [errW_none, errW_some] <;> rfl) | (simp only [← hji25]; first | rfl | (simp [errW_none, errW_some] <;> rfl)) | (simp [*, errW_none, errW_some] <;> rfl), by first | exact Kd.R_nil _ _ _ _ _ | exact Kd.N_nil _ _ _ _ _ | exact Kd.V_nil _ _ _ _ _ | exact Kd.Q_nil _ _ _ _ _ | exact Kd.S_nil _ _ _ _ _, by repeat (first | (with_reducible first | exact HB.out | apply below_alloc | apply pw_below_drewN | apply below_drew1 | refine below_set ?_ GE203.out | refine below_set ?_ GE209.out | refine below_set ?_ GE217.out) | exact HB.out)⟩
              ·rw [if_neg c60] at H
               have c60b0 : (t216 == 0) = false := beq_eq_false_iff_ne.mpr c60
               have c60b1 : (t216 != 0) = true := bne_iff_ne.mpr c60
               by_cases c68 : x210002_1.length < 3518437208883
               ·rw [if_pos c68] at H
                have LMc68 := Az.mk c68
                clear c68
                obtain ⟨y218, hy218⟩ : ∃ y_ : List (S66), y_ = (x210002_1 ++ [(⟨t213, t214, t215⟩ : S66)]) := ⟨_, rfl⟩
                replace H : (r4_tag.l0 kj53 a0 a1 (wrap64 ((wrap64 (x10_1 + t210)) + t216)) x210000_1 (a0.extract ((ji25) : Int).toNat ((wrap64 ((ji25) + t208)) : Int).toNat) y218 (⟨#[]⟩ : ByteArray) a1) = some (r1, r2, r3, r4, r5, r6) := by first | (rw [hy218]; with_reducible exact H) | (have H2_ := (Option.bind_some _ _).symm.trans H; rw [hy218]; with_reducible exact H2_) | (have H2_ := (Option.bind_some _ _).symm.trans H; with_reducible exact H2_) | with_reducible exact H | (rw [hy218]; exact H) | exact H
                have Ny218 := Az.mk hy218
                clear hy218
                have H' := Az.mk H
                clear H
                go_wp2_with (first | ((with_reducible refine gate_callee (f := 34) rfl ?_); refine goesL_ (some 120) rfl rfl Tryz.func34 (by kernel_rfl) rfl #[.string a0, .int .i64 (wrap64 (x10_1 + t210))] rfl (by (try simp only [List.map_toArray, List.map_cons, List.map_nil]); first | done | rfl | (simp only [List.length_drop, List.length_take]; rfl)) ?_; (with_reducible refine (r4_attribute.calls kj53 a0 (wrap64 (x10_1 + t210)) t213 t214 t215 t216 _ A59.out).mono ?_); rintro e w69 ⟨rfl, hb⟩; refine ⟨_, rfl, ?_⟩; have n0_ := Az.mk (Kd.R_below (twr HO_210002.out) hb); have n1_ := Az.mk (blk_below (g := gb203) (o := .cells #[.int .u8 x204000_1, .string x204001_1, .slice none 0 0, .string x204003_1, .int .i64 x204004_1] 36 (0, 0)) (twb BK203.out) hb); have n2_ := Az.mk (blk_below (g := gb209) (o := .cells #[.int .u8 x210000_1, .string (a0.extract ((ji25) : Int).toNat ((wrap64 ((ji25) + t208)) : Int).toNat), u210002, .string (⟨#[]⟩ : ByteArray), .int .i64 a1] 36 (0, 0)) (twb BK209.out) hb); have n3_ := Az.mk (below_step (by repeat (first | (with_reducible first | exact HB.out | apply below_alloc | apply pw_below_drewN | apply below_drew1 | refine below_set ?_ GE203.out | refine below_set ?_ GE209.out) | exact HB.out)) hb); clear HO_210002; clear BK203; clear BK209; clear HB; have HO_210002 := n0_; have BK203 := n1_; have BK209 := n2_; have HB := n3_; clear n0_ n1_ n2_ n3_; (try clear hb); (try clear hb2); (try clear hk); (try clear hi)) | ((with_reducible refine gate_dst (N := 12) rfl ?_); (try (refine gate_guard (by rfl) ?_; dsimp only)); refine box_event ?hg (N := 12) ?hd (cs := #[.string (⟨#[]⟩ : ByteArray), .string (⟨#[]⟩ : ByteArray), .int .i64 0]) (t := 66) ?hr ?_; (case hd => rfl); (case hg => rfl); (case hr => first | (go_simp; done) | (go_simp; rfl)); intro gb217 hg w70 hbox hb; have n0_ := Az.mk (Kd.R_below (Kd.R_elderB (twr HO_210002.out) gb217 (Nat.le_of_eq hg.symm)) hb); have n1_ := Az.mk (blk_below (g := gb203) (o := .cells #[.int .u8 x204000_1, .string x204001_1, .slice none 0 0, .string x204003_1, .int .i64 x204004_1] 36 (0, 0)) (twb BK203.out) hb); have n2_ := Az.mk (blk_below (g := gb209) (o := .cells #[.int .u8 x210000_1, .string (a0.extract ((ji25) : Int).toNat ((wrap64 ((ji25) + t208)) : Int).toNat), u210002, .string (⟨#[]⟩ : ByteArray), .int .i64 a1] 36 (0, 0)) (twb BK209.out) hb); have n3_ := Az.mk (below_step (by repeat (first | (with_reducible first | exact HB.out | apply below_alloc | apply pw_below_drewN | apply below_drew1 | refine below_set ?_ GE203.out | refine below_set ?_ GE209.out) | exact HB.out)) hb); have n4_ := Az.mk (hbox); have n5_ := Az.mk ((by rw [hg]; exact (below_size (by repeat (first | (with_reducible first | exact HB.out | apply below_alloc | apply pw_below_drewN | apply below_drew1 | refine below_set ?_ GE203.out | refine below_set ?_ GE209.out) | exact HB.out))) : w.heap.size ≤ gb217)); have n6_ := Az.mk ((by rw [hg]; exact (below_size (by repeat (first | (with_reducible first | exact HB.out | apply below_alloc | apply pw_below_drewN | apply below_drew1 | refine below_set ?_ GE203.out | refine below_set ?_ GE209.out) | exact HB.out))) : w.heap.size ≤ gb217)); have n7_ := Az.mk ((by rw [hg]; exact Nat.ne_of_lt (blk_lt (g := gb203) (o := .cells #[.int .u8 x204000_1, .string x204001_1, .slice none 0 0, .string x204003_1, .int .i64 x204004_1] 36 (0, 0)) (twb BK203.out)) : gb203 ≠ gb217)); have n8_ := Az.mk ((by rw [hg]; exact Nat.ne_of_gt (blk_lt (g := gb203) (o := .cells #[.int .u8 x204000_1, .string x204001_1, .slice none 0 0, .string x204003_1, .int .i64 x204004_1] 36 (0, 0)) (twb BK203.out)) : gb217 ≠ gb203)); have n9_ := Az.mk ((by rw [hg]; exact Nat.ne_of_lt (blk_lt (g := gb209) (o := .cells #[.int .u8 x210000_1, .string (a0.extract ((ji25) : Int).toNat ((wrap64 ((ji25) + t208)) : Int).toNat), u210002, .string (⟨#[]⟩ : ByteArray), .int .i64 a1] 36 (0, 0)) (twb BK209.out)) : gb209 ≠ gb217)); have n10_ := Az.mk ((by rw [hg]; exact Nat.ne_of_gt (blk_lt (g := gb209) (o := .cells #[.int .u8 x210000_1, .string (a0.extract ((ji25) : Int).toNat ((wrap64 ((ji25) + t208)) : Int).toNat), u210002, .string (⟨#[]⟩ : ByteArray), .int .i64 a1] 36 (0, 0)) (twb BK209.out)) : gb217 ≠ gb209)); clear HO_210002; clear BK203; clear BK209; clear HB; have HO_210002 := n0_; have BK203 := n1_; have BK209 := n2_; have HB := n3_; have BK217 := n4_; have GW217 := n5_; have GE217 := n6_; have NB203_217 := n7_; have NB217_203 := n8_; have NB209_217 := n9_; have NB217_209 := n10_; clear n0_ n1_ n2_ n3_ n4_ n5_ n6_ n7_ n8_ n9_ n10_; clear hb hbox hg; have hnb71 := NB217_203.out; have hnc71 := NB203_217.out; have hnb72 := NB217_209.out; have hnc72 := NB209_217.out; have hcz73_0 : w70.cell? ⟨gb217, 0, none⟩ = some (.string (⟨#[]⟩ : ByteArray)) := (blk_cell BK217.out 0).trans rfl; have hcz73_1 : w70.cell? ⟨gb217, 1, none⟩ = some (.string (⟨#[]⟩ : ByteArray)) := (blk_cell BK217.out 1).trans rfl; have hcz73_2 : w70.cell? ⟨gb217, 2, none⟩ = some (.int .i64 0) := (blk_cell BK217.out 2).trans rfl; have hfz73_0 := blk_frozen BK217.out 0; have hfz73_1 := blk_frozen BK217.out 1; have hfz73_2 := blk_frozen BK217.out 2; have hnb74 := NB209_203.out; have hnc74 := NB203_209.out; have hcz75_0 : w70.cell? ⟨gb209, 0, none⟩ = some (.int .u8 x210000_1) := (blk_cell BK209.out 0).trans rfl; have hcz75_1 : w70.cell? ⟨gb209, 1, none⟩ = some (.string (a0.extract ((ji25) : Int).toNat ((wrap64 ((ji25) + t208)) : Int).toNat)) := (blk_cell BK209.out 1).trans rfl; have hcz75_2 : w70.cell? ⟨gb209, 2, none⟩ = some (u210002) := (blk_cell BK209.out 2).trans rfl; have hcz75_3 : w70.cell? ⟨gb209, 3, none⟩ = some (.string (⟨#[]⟩ : ByteArray)) := (blk_cell BK209.out 3).trans rfl; have hcz75_4 : w70.cell? ⟨gb209, 4, none⟩ = some (.int .i64 a1) := (blk_cell BK209.out 4).trans rfl; have hfz75_0 := blk_frozen BK209.out 0; have hfz75_1 := blk_frozen BK209.out 1; have hfz75_2 := blk_frozen BK209.out 2; have hfz75_3 := blk_frozen BK209.out 3; have hfz75_4 := blk_frozen BK209.out 4) | ((with_reducible refine gate_builtin (b := .append) (xs := #[.tmp 127, .tmp 129]) rfl ?_); (try (refine gate_guard (by rfl) ?_; dsimp only)); at_builtin; refine Kd.R_append k66 (w0 := w) w.heap.size rfl (.tmp 127) (.tmp 129) 34 66 (.agg #[(.string ⟨#[]⟩), (.string ⟨#[]⟩), (.int .i64 0)]) 40 rfl Tryz.underlying34 info66 rfl (by decide) (by omega) u210002 x210002_1 (⟨t213, t214, t215⟩ : S66) [.string t213, .string t214, .int .i64 t215] (fun k_ => k_ ≠ gb217) (fun _ => False) rfl (by first | (go_simp; done) | (go_simp; rfl)) ?aP (fun _ hk => hk.elim) ?aF ?aO ?aB ?aS ?aL ?_; (case aP => exact k66_mkM _ _ _ (⟨t213, t214, t215⟩ : S66)); (case aB => exact (by repeat (first | (with_reducible first | exact HB.out | apply below_alloc | apply pw_below_drewN | apply below_drew1 | refine below_set ?_ GE203.out | refine below_set ?_ GE209.out | refine below_set ?_ GE217.out) | exact HB.out))); (case aF => exact (fun k_ hk => Kd.freshB (g := gb217) (o := .cells #[.string t213, .string t214, .int .i64 t215] 66 (0, 0)) (by (with_reducible repeat (first | refine blk_drewN ?_ _ | refine blk_drew ?_ | refine blk_alloc ?_ _)); refine blk_put (cs := #[.string t213, .string t214, .int .i64 0]) ?_ 2 _ rfl; (with_reducible repeat (first | refine blk_drewN ?_ _ | refine blk_drew ?_ | refine blk_alloc ?_ _)); refine blk_put (cs := #[.string t213, .string (⟨#[]⟩ : ByteArray), .int .i64 0]) ?_ 1 _ rfl; (with_reducible repeat (first | refine blk_drewN ?_ _ | refine blk_drew ?_ | refine blk_alloc ?_ _)); refine blk_put (cs := #[.string (⟨#[]⟩ : ByteArray), .string (⟨#[]⟩ : ByteArray), .int .i64 0]) ?_ 0 _ rfl; (with_reducible repeat (first | refine blk_drewN ?_ _ | refine blk_drew ?_ | refine blk_alloc ?_ _)); exact BK217.out) k_ hk)); (case aO => exact (by (with_reducible repeat (first | apply Kd.R_alloc | apply Kd.R_drewN | apply Kd.R_drew)); exact Kd.R_mono (Kd.R_far (p := ⟨gb217, 2, none⟩) (Kd.R_far (p := ⟨gb217, 1, none⟩) (Kd.R_far (p := ⟨gb217, 0, none⟩) (Kd.R_mono HO_210002.out (fun k_ hk => (⟨hk, hk.2⟩ : _ ∧ k_ ≠ gb217))) (fun _ hk => hk.2) (.string t213)) (fun _ hk => hk.2) (.string t214)) (fun _ hk => hk.2) (.int .i64 t215)) (fun _ hk => hk.1.2))); (case aS => exact (below_size (by repeat (first | (with_reducible first | exact HB.out | apply below_alloc | apply pw_below_drewN | apply below_drew1 | refine below_set ?_ GE203.out | refine below_set ?_ GE209.out | refine below_set ?_ GE217.out) | exact HB.out)))); (case aL => have := LMc68.out; omega); intro v219 w76 ho hb hg hat; rw [← Ny218.out] at ho; have n0_ := Az.mk (blk_grown (g := gb203) (o := .cells #[.int .u8 x204000_1, .string x204001_1, .slice none 0 0, .string x204003_1, .int .i64 x204004_1] 36 (0, 0)) (by (with_reducible repeat (first | refine blk_drewN ?_ _ | refine blk_drew ?_ | refine blk_alloc ?_ _)); refine blk_far ?_ NB203_217.out _; (with_reducible repeat (first | refine blk_drewN ?_ _ | refine blk_drew ?_ | refine blk_alloc ?_ _)); refine blk_far ?_ NB203_217.out _; (with_reducible repeat (first | refine blk_drewN ?_ _ | refine blk_drew ?_ | refine blk_alloc ?_ _)); refine blk_far ?_ NB203_217.out _; (with_reducible repeat (first | refine blk_drewN ?_ _ | refine blk_drew ?_ | refine blk_alloc ?_ _)); exact BK203.out) hg (Kd.R_ne HO_210002.out BK203.out (by decide))); have n1_ := Az.mk (blk_grown (g := gb209) (o := .cells #[.int .u8 x210000_1, .string (a0.extract ((ji25) : Int).toNat ((wrap64 ((ji25) + t208)) : Int).toNat), u210002, .string (⟨#[]⟩ : ByteArray), .int .i64 a1] 36 (0, 0)) (by (with_reducible repeat (first | refine blk_drewN ?_ _ | refine blk_drew ?_ | refine blk_alloc ?_ _)); refine blk_far ?_ NB209_217.out _; (with_reducible repeat (first | refine blk_drewN ?_ _ | refine blk_drew ?_ | refine blk_alloc ?_ _)); refine blk_far ?_ NB209_217.out _; (with_reducible repeat (first | refine blk_drewN ?_ _ | refine blk_drew ?_ | refine blk_alloc ?_ _)); refine blk_far ?_ NB209_217.out _; (with_reducible repeat (first | refine blk_drewN ?_ _ | refine blk_drew ?_ | refine blk_alloc ?_ _)); exact BK209.out) hg (Kd.R_ne HO_210002.out BK209.out (by decide))); have n2_ := Az.mk (blk_grown (g := gb217) (o := .cells #[.string t213, .string t214, .int .i64 t215] 66 (0, 0)) (by (with_reducible repeat (first | refine blk_drewN ?_ _ | refine blk_drew ?_ | refine blk_alloc ?_ _)); refine blk_put (cs := #[.string t213, .string t214, .int .i64 0]) ?_ 2 _ rfl; (with_reducible repeat (first | refine blk_drewN ?_ _ | refine blk_drew ?_ | refine blk_alloc ?_ _)); refine blk_put (cs := #[.string t213, .string (⟨#[]⟩ : ByteArray), .int .i64 0]) ?_ 1 _ rfl; (with_reducible repeat (first | refine blk_drewN ?_ _ | refine blk_drew ?_ | refine blk_alloc ?_ _)); refine blk_put (cs := #[.string (⟨#[]⟩ : ByteArray), .string (⟨#[]⟩ : ByteArray), .int .i64 0]) ?_ 0 _ rfl; (with_reducible repeat (first | refine blk_drewN ?_ _ | refine blk_drew ?_ | refine blk_alloc ?_ _)); exact BK217.out) hg (Kd.R_away HO_210002.out (fun _ hk => hk.2))); have n3_ := Az.mk (hb); have n4_ := Az.mk (ho); clear BK203; clear BK209; clear BK217; clear HB; clear HO_210002; have BK203 := n0_; have BK209 := n1_; have BK217 := n2_; have HB := n3_; have HO220 := n4_; clear n0_ n1_ n2_ n3_ n4_; clear ho hb hg hat; obtain ⟨Ao77, co77, eo77⟩ := Kd.R_slice HO220.out; subst eo77; have hcz78_0 : w76.cell? ⟨gb209, 0, none⟩ = some (.int .u8 x210000_1) := (blk_cell BK209.out 0).trans rfl; have hcz78_1 : w76.cell? ⟨gb209, 1, none⟩ = some (.string (a0.extract ((ji25) : Int).toNat ((wrap64 ((ji25) + t208)) : Int).toNat)) := (blk_cell BK209.out 1).trans rfl; have hcz78_2 : w76.cell? ⟨gb209, 2, none⟩ = some (u210002) := (blk_cell BK209.out 2).trans rfl; have hcz78_3 : w76.cell? ⟨gb209, 3, none⟩ = some (.string (⟨#[]⟩ : ByteArray)) := (blk_cell BK209.out 3).trans rfl; have hcz78_4 : w76.cell? ⟨gb209, 4, none⟩ = some (.int .i64 a1) := (blk_cell BK209.out 4).trans rfl; have hfz78_0 := blk_frozen BK209.out 0; have hfz78_1 := blk_frozen BK209.out 1; have hfz78_2 := blk_frozen BK209.out 2; have hfz78_3 := blk_frozen BK209.out 3; have hfz78_4 := blk_frozen BK209.out 4))
                go_roundg kj53
                case measure => have := HK1.out; have := HJ53.out; omega
                case rel => exact ⟨(wrap64 ((wrap64 (x10_1 + t210)) + t216)), (x204000_1), (x204001_1), (x204003_1), (x204004_1), (x210000_1), (y218), (.slice Ao77 y218.length co77), (by first | rfl | (simp; done) | (simp [*]; done)), H', ⟨by have := HK1.out; have := HJ53.out; omega⟩, ⟨by (with_reducible repeat (first | apply Kd.R_alloc | apply Kd.R_drewN | apply Kd.R_drew)); exact Kd.R_mono (Kd.R_far (p := ⟨gb209, 2, none⟩) (Kd.R_types HO220.out BK209.out (by decide)) (fun _ hk => hk.2) (.slice Ao77 y218.length co77)) (fun _ hk => trivial)⟩, ⟨by (with_reducible repeat (first | refine blk_drewN ?_ _ | refine blk_drew ?_ | refine blk_alloc ?_ _)); refine blk_far ?_ NB203_209.out _; (with_reducible repeat (first | refine blk_drewN ?_ _ | refine blk_drew ?_ | refine blk_alloc ?_ _)); exact BK203.out⟩, ⟨by (with_reducible repeat (first | refine blk_drewN ?_ _ | refine blk_drew ?_ | refine blk_alloc ?_ _)); refine blk_put (cs := #[.int .u8 x210000_1, .string (a0.extract ((ji25) : Int).toNat ((wrap64 ((ji25) + t208)) : Int).toNat), u210002, .string (⟨#[]⟩ : ByteArray), .int .i64 a1]) ?_ 2 _ rfl; (with_reducible repeat (first | refine blk_drewN ?_ _ | refine blk_drew ?_ | refine blk_alloc ?_ _)); exact BK209.out⟩, ⟨by repeat (first | (with_reducible first | exact HB.out | apply below_alloc | apply pw_below_drewN | apply below_drew1 | refine below_set ?_ GE203.out | refine below_set ?_ GE209.out | refine below_set ?_ GE217.out) | exact HB.out)⟩⟩
               ·rw [if_neg c68] at H
                exact absurd H (by simp)
      ·rw [if_neg c35] at H
       exact absurd H (by simp)
     ·rw [if_neg c34] at H
      exact absurd H (by simp)
   ·rw [if_neg c27] at H
    exact absurd H (by simp)
  ·rw [if_neg c26] at H
   exact absurd H (by simp)
end Go.Proofs.YtpknhgejnfmijaaGreatDoor.PC
