/- A text of the claim, with what no other text of it needs taken out. -/
import Derived.Test.YtpknhgejnfmijaaGreatDoorTC
import Derived.Test.YtpknhgejnfmijaaGreatDoorEB
import Derived.Deep.RegionWith
namespace Go.Proofs.YtpknhgejnfmijaaGreatDoor.X
open Go.RowKit Go.Proofs.YtpknhgejnfmijaaGreatDoorW.PrintWords Go.Proofs.YtpknhgejnfmijaaGreatDoor
set_option linter.unusedVariables false
set_option linter.unusedSimpArgs false
def RawAt (B : Nat) (n v : List UInt8) (at_ : Int) (w : World) : Prop := w.heap[B]? = some (.cells #[.string ⟨n.toArray⟩, .string ⟨v.toArray⟩, .int .i64 at_] 108 (0, 0))
theorem results_ct {P : Program} {fn : Func} {p u : Tmp} {ty : TypeId} (h : fn.results = #[.cell p ty, .tmp u]) (tmps : Array Value) (w : World) (g : Nat) (t : TypeId) (cs : Array Value) (fr : Nat × Nat) (d : TypeDesc)
    (hp : tmps.getD p undef = .pointer (some ⟨g, 0, none⟩)) (hg : w.heap[g]? = some (.cells cs t fr))
    (hu : P.underlying ty = some d) (hd : (match d with | .struct _ | .array _ _ => true | _ => false) = true) (hi : (P.info? ty).map (·.size) = some cs.size) :
    (results fn tmps).run P w = .ok (.tuple #[.agg cs, tmps.getD u undef]) w := by
  have hp' : tmps[p]?.getD undef = .pointer (some ⟨g, 0, none⟩) := by simpa using hp
  simp [results, h, hp', asAddr, run_loadVar_row w g t ty cs fr d hg hu hd hi]
theorem results_ctt {P : Program} {fn : Func} {p u v : Tmp} {ty : TypeId} (h : fn.results = #[.cell p ty, .tmp u, .tmp v]) (tmps : Array Value) (w : World) (g : Nat) (t : TypeId) (cs : Array Value) (fr : Nat × Nat) (d : TypeDesc)
    (hp : tmps.getD p undef = .pointer (some ⟨g, 0, none⟩)) (hg : w.heap[g]? = some (.cells cs t fr))
    (hu : P.underlying ty = some d) (hd : (match d with | .struct _ | .array _ _ => true | _ => false) = true) (hi : (P.info? ty).map (·.size) = some cs.size) :
    (results fn tmps).run P w = .ok (.tuple #[.agg cs, tmps.getD u undef, tmps.getD v undef]) w := by
  have hp' : tmps[p]?.getD undef = .pointer (some ⟨g, 0, none⟩) := by simpa using hp
  simp [results, h, hp', asAddr, run_loadVar_row w g t ty cs fr d hg hu hd hi]
theorem RawAt.c0 {B : Nat} {n v : List UInt8} {a : Int} {w : World} (h : RawAt B n v a w) : w.cell? ⟨B, 0, none⟩ = some (.string ⟨n.toArray⟩) := (blk_cell h 0).trans rfl
theorem RawAt.c1 {B : Nat} {n v : List UInt8} {a : Int} {w : World} (h : RawAt B n v a w) : w.cell? ⟨B, 1, none⟩ = some (.string ⟨v.toArray⟩) := (blk_cell h 1).trans rfl
theorem RawAt.c2 {B : Nat} {n v : List UInt8} {a : Int} {w : World} (h : RawAt B n v a w) : w.cell? ⟨B, 2, none⟩ = some (.int .i64 a) := (blk_cell h 2).trans rfl
theorem RawAt.soft {B : Nat} {n v : List UInt8} {a : Int} {w : World} (h : RawAt B n v a w) (j : Nat) : w.frozen? ⟨B, j, none⟩ = false := Lib.frozen_of_heap h j
theorem RawAt.kept {B : Nat} {n v : List UInt8} {a : Int} {w w' : World} {bs : List Nat} (h : RawAt B n v a w) (hg : Off bs w w') (hne : B ∉ bs) : RawAt B n v a w' := (hg.block B (blk_lt h) hne).trans h
theorem RawAt.lt {B : Nat} {n v : List UInt8} {a : Int} {w : World} (h : RawAt B n v a w) : B < w.heap.size := blk_lt h
theorem Off.drew {bs : List Nat} {w w' : World} (h : Off bs w w') : Off bs w w'.drew := ⟨h.os, h.tape, h.output, h.size, h.block⟩
def rawZ : Obj := .cells #[.string ⟨#[]⟩, .string ⟨#[]⟩, .int .i64 0] 108 (0, 0)
theorem index0 (q : UInt8) (v : List UInt8) (W : World) : (Instr.index 9 (.string ⟨(q :: v).toArray⟩) (.int .i64 0)).run Tryz.prog W = .ok (.int .u8 (q.toNat : Int)) W := by
  have := run_index_string (P := Tryz.prog) W 9 ⟨(q :: v).toArray⟩ .i64 0 Tryz.underlying9
  have hz : (⟨(q :: v).toArray⟩ : ByteArray).size = v.length + 1 := by simp [ByteArray.size]
  rw [this, dif_pos ⟨by omega, by omega⟩]
  rfl
theorem slice_1 (q : UInt8) (v : List UInt8) (W : World) : (Instr.slice 9 (.string ⟨(q :: v).toArray⟩) none (some (.int .i64 1)) none).run Tryz.prog W = .ok (.string ⟨#[q]⟩) W :=
  slice_to_l (q :: v) 1 (by simp) W
theorem slice_t (q : UInt8) (v : List UInt8) (W : World) : (Instr.slice 9 (.string ⟨(q :: v).toArray⟩) (some (.int .i64 1)) none none).run Tryz.prog W = .ok (.string ⟨v.toArray⟩) W :=
  slice_from_l (q :: v) 1 (by simp) W
theorem cut_eq (q : UInt8) (v : List UInt8) (hz : v.length ≤ 1000000000) : strings_Cut.f ⟨v.toArray⟩ ⟨#[q]⟩ = match T.cutAt q v with | none => some (⟨v.toArray⟩, ⟨#[]⟩, false) | some x => some (⟨x.1.toArray⟩, ⟨x.2.toArray⟩, true) := by
  have key : T.cutAt q v = if Lib.indexByte v q < 0 then none else some (v.take (Lib.indexByte v q).toNat, v.drop ((Lib.indexByte v q).toNat + 1)) := by
    rcases M.idx_cases q v with ⟨h1, h2⟩ | ⟨x, y, h1, h2, h3⟩
    · rw [h1, if_pos (by decide)]
      clear h1
      induction v with
      | nil => rfl
      | cons c v ih =>
        simp only [List.mem_cons, not_or] at h2
        simp only [T.cutAt]
        rw [if_neg (fun e => h2.1 e.symm), ih (by simp at hz ⊢; omega) h2.2]
        rfl
    · rw [h3, if_neg (by omega), Int.toNat_natCast, h1]
      have e1 : (x ++ q :: y).take x.length = x := by simp
      have e2 : (x ++ q :: y).drop (x.length + 1) = y := by simp [← List.drop_drop]
      rw [e1, e2]
      clear h1 h3 e1 e2
      induction x with
      | nil => simp [T.cutAt]
      | cons c x ih =>
        simp only [List.mem_cons, not_or] at h2
        simp only [List.cons_append, T.cutAt]
        rw [if_neg (fun e => h2.1 e.symm), ih h2.2]
        rfl
  unfold strings_Cut.f
  show (if 140737488351232 < (⟨v.toArray⟩ : ByteArray).size then none else _) = _
  have hs := mk_sz v
  rw [if_neg (by omega), key]
  show (if Lib.indexByte v q < 0 then _ else _) = _
  by_cases h : Lib.indexByte v q < 0
  · rw [if_pos h, if_pos h]
  · rw [if_neg h, if_neg h]
    simp only [Option.some.injEq, Prod.mk.injEq, and_true]
    show (⟨v.toArray⟩ : ByteArray).extract 0 (Lib.indexByte v q).toNat = _ ∧ (⟨v.toArray⟩ : ByteArray).extract ((Lib.indexByte v q).toNat + 1) (⟨v.toArray⟩ : ByteArray).size = _
    constructor
    · rw [ba_eq, Lib.extract_data]
      simp
    · rw [ba_eq, Lib.extract_data, List.take_of_length_le]
      rw [List.length_drop]
      show v.length - _ ≤ _
      omega
theorem eat_hit (c : UInt8) (r : List UInt8) : eatL [c] (c :: r) = r ∧ [c].isPrefixOf (c :: r) = true := by simp [eatL]
theorem eat_miss (c : UInt8) (l : List UInt8) (h : ∀ r, l ≠ c :: r) : eatL [c] l = l ∧ [c].isPrefixOf l = false := by
  have : [c].isPrefixOf l = false := by
    cases l with
    | nil => rfl
    | cons d l => simp only [List.isPrefixOf, Bool.and_true, beq_eq_false_iff_ne]; intro e; exact h l (by rw [e])
  exact ⟨by unfold eatL; rw [this]; rfl, this⟩
def attrP (b : Nat) (all : Int) (x : Option (T.Raw × List UInt8)) (e : Ending) (w : World) : Prop :=
  match x with
  | none => ∃ n v k, e = .returned (.tuple #[.agg #[.string n, .string v, .int .i64 k], .bool false])
  | some x => e = .returned (.tuple #[.agg #[.string ⟨x.1.name.toArray⟩, .string ⟨x.1.value.toArray⟩, .int .i64 (all - x.1.left)], .bool true]) ∧ CutAt b all x.2 w
set_option maxHeartbeats 4000000 in
set_option maxRecDepth 100000 in
theorem attr_k (b : Nat) (all : Int) (l : List UInt8) (w : World) (h : CutAt b all l w) (hz : (l.length : Int) ≤ all) (hall : all ≤ 1000000000) :
    Calls Tryz.prog 62 #[.pointer (some ⟨b, 0, none⟩)] w fun e w' => attrP b all (T.attrL l) e w' ∧ Off [b] w w' := by
  have hb := h.lt
  have o0 := Off.alloc w rawZ [b]
  have a1 := h.kept (bs := []) (Off.alloc w rawZ []) (by simp)
  have r0 : RawAt w.heap.size [] [] 0 (w.alloc rawZ) := blk_new _ _
  have HW := Lib.hid (word_k b all l _ a1 (by omega))
  clear h a1
  have HR : Hid (T.attrL l = T.attrL l) := rfl
  have hln : (l.drop (M.beginL l)).length ≤ l.length := by simp
  generalize hR : T.attrL l = R at HR ⊢
  unfold T.attrL at hR
  generalize hl1 : l.drop (M.beginL l) = l1 at HW hR hln
  generalize hnm : l.take (M.beginL l) = nm at HW hR
  have hnl : M.beginL l = nm.length := by rw [← hnm, List.length_take]; have := (M.begin_max l).2.1; omega
  rw [hnl] at hR
  clear hl1 hnm hnl
  have hs2 : (T.skipB l1).length ≤ l1.length := T.skipB_le _
  unfold rawZ at *
  go_enter Tryz.func62, Tryz.ntmps62
  go_wp2_with (go_at_call 60; refine HW.out.mono ?_; rintro e w1 ⟨rfl, h1, o1⟩)
  have r1 := r0.kept o1 (by simp; omega)
  have s1 : RawAt w1.heap.size nm [] 0 (w1.alloc (.cells #[.string ⟨nm.toArray⟩, .string ⟨#[]⟩, .int .i64 0] 108 (0, 0))) := blk_new _ _
  have o1' := o0.trans o1
  have lb : b < w1.heap.size := h1.lt
  have lr := r1.lt
  have p1 := Off.alloc w1 (.cells #[.string ⟨nm.toArray⟩, .string ⟨#[]⟩, .int .i64 0] 108 (0, 0)) []
  refine (skip_k b all l1 _ (h1.kept p1 (by simp))).mono ?_
  rintro e w2 ⟨rfl, h2, o2⟩
  have r2 := (r1.kept p1 (by simp)).kept o2 (by simp; omega)
  have s2 := s1.kept o2 (by simp; omega)
  have q2 : Off [b] w w2 := (o1'.trans (p1.more (by simp))).trans o2
  clear o0 o1 o1' p1 o2 r0 r1 s1 h1
  generalize hl2 : T.skipB l1 = l2 at h2 hR hs2
  have ec0 := r2.c0; have ec1 := r2.c1; have ec2 := r2.c2; have ef0 := r2.soft 0; have ef1 := r2.soft 1; have ef2 := r2.soft 2
  have gc0 := s2.c0; have gc1 := s2.c1; have gc2 := s2.c2
  have fin : ∀ (W : World), RawAt w.heap.size [] [] 0 W → Off [b] w W → Off [b] w (((W.setCell ⟨w.heap.size, 0, none⟩ (.string ⟨nm.toArray⟩)).setCell ⟨w.heap.size, 1, none⟩ (.string ⟨#[]⟩)).setCell ⟨w.heap.size, 2, none⟩ (.int .i64 0)) := fun W hr ho => by
    refine Off.less (bs := [b, w.heap.size]) ?_ (by simp)
    exact (((ho.more (by simp)).trans (Off.put _ _ _ _ (by simp))).trans (Off.put _ _ _ _ (by simp))).trans (Off.put _ _ _ _ (by simp))
  have fin2 : ∀ (W : World), RawAt w.heap.size [] [] 0 W → (((W.setCell ⟨w.heap.size, 0, none⟩ (.string ⟨nm.toArray⟩)).setCell ⟨w.heap.size, 1, none⟩ (.string ⟨#[]⟩)).setCell ⟨w.heap.size, 2, none⟩ (.int .i64 0)).heap[w.heap.size]? = some (.cells #[.string ⟨nm.toArray⟩, .string ⟨#[]⟩, .int .i64 0] 108 (0, 0)) := fun W hr =>
    blk_put (cs := #[.string ⟨nm.toArray⟩, .string ⟨#[]⟩, .int .i64 0]) (blk_put (cs := #[.string ⟨nm.toArray⟩, .string ⟨#[]⟩, .int .i64 0]) (blk_put (cs := #[.string ⟨#[]⟩, .string ⟨#[]⟩, .int .i64 0]) hr 0 _ rfl) 1 _ rfl) 2 _ rfl
  have FIN := Lib.hid fin
  have FIN2 := Lib.hid fin2
  clear fin fin2
  cases nm with
  | nil =>
    obtain rfl : R = none := by rw [← hR]; simp
    clear hR
    go_wp2
    refine bodyPost_ret (results_ct rfl _ _ w.heap.size 108 _ (0, 0) _ rfl (FIN2.out w2 r2) Tryz.underlying108 rfl (by kernel_rfl)) rfl ?_
    exact ⟨⟨_, _, _, rfl⟩, FIN.out w2 r2 q2⟩
  | cons n0 nt =>
  rw [if_neg (by simp)] at hR
  by_cases he : ∃ r, l2 = 61 :: r
  case neg =>
    have he' : ∀ r, l2 ≠ 61 :: r := fun r e => he ⟨r, e⟩
    obtain rfl : R = none := by
      rw [← hR]
      split
      · exact absurd rfl (he' _)
      · rfl
    have HE := Lib.hid (eat_k b all l2 [61] w2 h2)
    rw [(eat_miss 61 l2 he').1, (eat_miss 61 l2 he').2] at HE
    clear hR
    go_wp2_with (go_at_call 59; refine HE.out.mono ?_; rintro e w3 ⟨rfl, h3, o3⟩; have r3 := r2.kept o3 (by simp; omega); have s3 := s2.kept o3 (by simp; omega); have ic0 := r3.c0; have ic1 := r3.c1; have ic2 := r3.c2; have if0 := r3.soft 0; have if1 := r3.soft 1; have if2 := r3.soft 2; have jc0 := s3.c0; have jc1 := s3.c1; have jc2 := s3.c2)
    refine bodyPost_ret (results_ct rfl _ _ w.heap.size 108 _ (0, 0) _ rfl (FIN2.out w3 r3) Tryz.underlying108 rfl (by kernel_rfl)) rfl ?_
    exact ⟨⟨_, _, _, rfl⟩, FIN.out w3 r3 (q2.trans o3)⟩
  case pos =>
    obtain ⟨l3, rfl⟩ := he
    have HE := Lib.hid (eat_k b all (61 :: l3) [61] w2 h2)
    rw [(eat_hit 61 l3).1, (eat_hit 61 l3).2] at HE
    simp only at hR
    have hs4 : (T.skipB l3).length ≤ l3.length := T.skipB_le _
    go_wp2_with (go_at_call 59; refine HE.out.mono ?_; rintro e w3 ⟨rfl, h3, o3⟩; have r3 := r2.kept o3 (by simp; omega); have s3 := s2.kept o3 (by simp; omega))
    refine (skip_k b all l3 _ h3).mono ?_
    rintro e w4 ⟨rfl, h4, o4⟩
    have r4 := r3.kept o4 (by simp; omega)
    have s4 := s3.kept o4 (by simp; omega)
    have q4 := (q2.trans o3).trans o4
    have kc0 := r4.c0; have kc1 := r4.c1; have kc2 := r4.c2; have kf0 := r4.soft 0; have kf1 := r4.soft 1; have kf2 := r4.soft 2; have mc0 := s4.c0; have mc1 := s4.c1; have mc2 := s4.c2
    have rest4 := h4.rest
    have soft4 := h4.soft 1
    generalize hl4 : T.skipB l3 = l4 at h4 rest4 hR hs4
    cases l4 with
    | nil =>
      obtain rfl : R = none := hR.symm
      go_wp2
      refine bodyPost_ret (results_ct rfl _ _ w.heap.size 108 _ (0, 0) _ rfl (FIN2.out w4 r4) Tryz.underlying108 rfl (by kernel_rfl)) rfl ?_
      exact ⟨⟨_, _, _, rfl⟩, FIN.out w4 r4 q4⟩
    | cons q v =>
    simp only at hR
    have hix := index0 q v
    by_cases hq : q = 34 ∨ q = 39
    case neg =>
      obtain rfl : R = none := by rw [← hR, if_neg hq]
      have i34 : ((q.toNat : Int) != 34) = true := by
        simp only [bne_iff_ne, ne_eq]; intro e; exact hq (.inl (UInt8.toNat_inj.mp (by have : (34 : UInt8).toNat = 34 := rfl; omega)))
      have i39 : ((q.toNat : Int) != 39) = true := by
        simp only [bne_iff_ne, ne_eq]; intro e; exact hq (.inr (UInt8.toNat_inj.mp (by have : (39 : UInt8).toNat = 39 := rfl; omega)))
      go_wp2
      refine bodyPost_ret (results_ct rfl _ _ w.heap.size 108 _ (0, 0) _ rfl (FIN2.out w4 r4) Tryz.underlying108 rfl (by kernel_rfl)) rfl ?_
      exact ⟨⟨_, _, _, rfl⟩, FIN.out w4 r4 q4⟩
    case pos =>
    rw [if_pos hq] at hR
    have hsl1 := slice_1 q v
    have hslt := slice_t q v
    have hvl : v.length + 1 ≤ l.length := by simp at hs4 hs2; omega
    have h5 := h4.put v
    have q5 : Off [b] w (w4.setCell ⟨b, 1, none⟩ (.string ⟨v.toArray⟩)) := q4.trans (Off.put _ _ _ _ (by simp))
    have p5 : Off [b] w4 (w4.setCell ⟨b, 1, none⟩ (.string ⟨v.toArray⟩)) := Off.put _ _ _ _ (by simp)
    have r5 := r4.kept p5 (by simp; omega)
    have s5 := s4.kept p5 (by simp; omega)
    have HA := Lib.hid (at_k b all v _ h5 (by omega) hall)
    have HQ : Hid ((((q.toNat : Int) != 34) = false) ∨ (((q.toNat : Int) != 34) = true ∧ ((q.toNat : Int) != 39) = false)) := by
      rcases hq with rfl | rfl
      · exact .inl rfl
      · exact .inr ⟨rfl, rfl⟩
    have HCUT : Hid (∀ (p1 p2 : ByteArray) (p3 : Bool), strings_Cut.f ⟨v.toArray⟩ ⟨#[q]⟩ = some (p1, p2, p3) → ∀ W, Calls Tryz.prog 37 #[.string ⟨v.toArray⟩, .string ⟨#[q]⟩] W fun e w' => e = .returned (.tuple #[.string p1, .string p2, .bool p3]) ∧ Drawn0 W w') := Lib.hid (fun p1 p2 p3 hc W => strings_Cut.calls _ _ p1 p2 p3 W hc)
    rw [cut_eq q v (by omega)] at HCUT
    obtain ⟨x, y, ok, HC, hX⟩ : ∃ (x y : List UInt8) (ok : Bool), Hid (∀ W, Calls Tryz.prog 37 #[.string ⟨v.toArray⟩, .string ⟨#[q]⟩] W fun e w' => e = .returned (.tuple #[.string ⟨x.toArray⟩, .string ⟨y.toArray⟩, .bool ok]) ∧ Drawn0 W w') ∧ Hid (R = if ok = true then (if (60 : UInt8) ∈ x then none else some (⟨n0 :: nt, x, v.length⟩, y)) else none) := by
      cases hc : T.cutAt q v with
      | none =>
        rw [hc] at HCUT hR
        exact ⟨v, [], false, Lib.hid (HCUT.out _ _ _ rfl), Lib.hid (by rw [← hR]; rfl)⟩
      | some z =>
        rw [hc] at HCUT hR
        exact ⟨z.1, z.2, true, Lib.hid (HCUT.out _ _ _ rfl), Lib.hid (by rw [← hR]; rfl)⟩
    clear hq hR HCUT
    rcases HQ.out with i34 | ⟨i34, i39⟩
    all_goals
      go_wp2_with (first
        | (go_at_call 38; refine HA.out.mono ?_; rintro e w6 ⟨rfl, o6⟩; have h6 := h5.kept o6 (by simp); have r6 := r5.kept o6 (by simp); have s6 := s5.kept o6 (by simp); have kd0 := s6.c2; have kd1 := s6.soft 2; have o7 : Off [w1.heap.size] w6 (w6.setCell ⟨w1.heap.size, 2, none⟩ (.int .i64 (all - v.length))) := Off.put _ _ _ _ (by simp); have h7 := h6.kept o7 (by simp; omega); have r7 := r6.kept o7 (by simp; omega); have s7 : RawAt w1.heap.size (n0 :: nt) [] (all - v.length) (w6.setCell ⟨w1.heap.size, 2, none⟩ (.int .i64 (all - v.length))) := blk_put s6 2 _ rfl; have rest7 := h7.rest; have sf7 := h7.soft 1; have ra7 := s7.c1; have rf7 := s7.soft 1; have q7 : Off [b, w1.heap.size] w (w6.setCell ⟨w1.heap.size, 2, none⟩ (.int .i64 (all - v.length))) := ((q5.more (by simp)).trans (o6.more (by simp))).trans (o7.more (by simp)))
        | (go_at_call 37; refine (HC.out _).mono ?_; rintro e w8 ⟨rfl, ⟨k8, rfl⟩⟩))
      have o8 : Off [b, w1.heap.size] (w6.setCell ⟨w1.heap.size, 2, none⟩ (.int .i64 (all - v.length))) ((((w6.setCell ⟨w1.heap.size, 2, none⟩ (.int .i64 (all - v.length))).drewN k8).setCell ⟨w1.heap.size, 1, none⟩ (.string ⟨x.toArray⟩)).setCell ⟨b, 1, none⟩ (.string ⟨y.toArray⟩)) :=
        (((Off.refl _ _).drewN k8).trans (Off.put _ _ _ _ (by simp))).trans (Off.put _ _ _ _ (by simp))
      have s8 : RawAt w1.heap.size (n0 :: nt) x (all - v.length) ((((w6.setCell ⟨w1.heap.size, 2, none⟩ (.int .i64 (all - v.length))).drewN k8).setCell ⟨w1.heap.size, 1, none⟩ (.string ⟨x.toArray⟩)).setCell ⟨b, 1, none⟩ (.string ⟨y.toArray⟩)) :=
        blk_far (p := ⟨b, 1, none⟩) (blk_put (blk_drewN s7 k8) 1 _ rfl) (by simp; omega) _
      have h8 : CutAt b all y ((((w6.setCell ⟨w1.heap.size, 2, none⟩ (.int .i64 (all - v.length))).drewN k8).setCell ⟨w1.heap.size, 1, none⟩ (.string ⟨x.toArray⟩)).setCell ⟨b, 1, none⟩ (.string ⟨y.toArray⟩)) :=
        blk_put (blk_far (p := ⟨w1.heap.size, 1, none⟩) (blk_drewN h7 k8) (by simp; omega) _) 1 _ rfl
      have r8 := r7.kept o8 (by simp; omega)
      have q8 := q7.trans (o8.more (by simp))
      have hlr : w.heap.size ≤ w1.heap.size := by omega
      clear r2 s2 h2 q2 r3 s3 h3 o3 r4 s4 h4 o4 q4 r5 s5 h5 q5 p5 r6 s6 h6 o6 r7 s7 h7 o7 q7 HA o8 rest7 sf7 ra7 rf7 kd0 kd1
      clear kc0 kc1 kc2 kf0 kf1 kf2 mc0 mc1 mc2 ec0 ec1 ec2 ef0 ef1 ef2 gc0 gc1 gc2 soft4 rest4
      generalize ((((w6.setCell ⟨w1.heap.size, 2, none⟩ (.int .i64 (all - v.length))).drewN k8).setCell ⟨w1.heap.size, 1, none⟩ (.string ⟨x.toArray⟩)).setCell ⟨b, 1, none⟩ (.string ⟨y.toArray⟩)) = W at s8 h8 r8 q8 ⊢
      have kc0 := r8.c0; have kc1 := r8.c1; have kc2 := r8.c2; have kf0 := r8.soft 0; have kf1 := r8.soft 1; have kf2 := r8.soft 2; have mc0 := s8.c0; have mc1 := s8.c1; have mc2 := s8.c2
      have FX : Hid (∀ W, RawAt w.heap.size [] [] 0 W → (((W.setCell ⟨w.heap.size, 0, none⟩ (.string ⟨(n0 :: nt).toArray⟩)).setCell ⟨w.heap.size, 1, none⟩ (.string ⟨x.toArray⟩)).setCell ⟨w.heap.size, 2, none⟩ (.int .i64 (all - v.length))).heap[w.heap.size]? = some (.cells #[.string ⟨(n0 :: nt).toArray⟩, .string ⟨x.toArray⟩, .int .i64 (all - v.length)] 108 (0, 0))) := fun W hr =>
        blk_put (cs := #[.string ⟨(n0 :: nt).toArray⟩, .string ⟨x.toArray⟩, .int .i64 0]) (blk_put (cs := #[.string ⟨(n0 :: nt).toArray⟩, .string ⟨#[]⟩, .int .i64 0]) (blk_put (cs := #[.string ⟨#[]⟩, .string ⟨#[]⟩, .int .i64 0]) hr 0 _ rfl) 1 _ rfl) 2 _ rfl
      have FO : Hid (∀ W, Off [b, w1.heap.size] w W → Off [b] w (((W.setCell ⟨w.heap.size, 0, none⟩ (.string ⟨(n0 :: nt).toArray⟩)).setCell ⟨w.heap.size, 1, none⟩ (.string ⟨x.toArray⟩)).setCell ⟨w.heap.size, 2, none⟩ (.int .i64 (all - v.length)))) := fun W ho => by
        refine Off.less (bs := [b, w1.heap.size, w.heap.size]) ?_ (by simp; omega)
        exact (((ho.more (by simp)).trans (Off.put _ _ _ _ (by simp))).trans (Off.put _ _ _ _ (by simp))).trans (Off.put _ _ _ _ (by simp))
      have FC : Hid (∀ W, CutAt b all y W → CutAt b all y (((W.setCell ⟨w.heap.size, 0, none⟩ (.string ⟨(n0 :: nt).toArray⟩)).setCell ⟨w.heap.size, 1, none⟩ (.string ⟨x.toArray⟩)).setCell ⟨w.heap.size, 2, none⟩ (.int .i64 (all - v.length)))) := fun W h =>
        blk_far (p := ⟨w.heap.size, 2, none⟩) (blk_far (p := ⟨w.heap.size, 1, none⟩) (blk_far (p := ⟨w.heap.size, 0, none⟩) h (by simp; omega) _) (by simp; omega) _) (by simp; omega) _
      cases ok with
      | false =>
        obtain rfl : R = none := hX.out.trans (by simp)
        go_region
        all_goals
          go_wp2
          refine bodyPost_ret (results_ct rfl _ _ w.heap.size 108 #[.string ⟨(n0 :: nt).toArray⟩, .string ⟨x.toArray⟩, .int .i64 (all - v.length)] (0, 0) _ rfl (by first | exact blk_drew (FX.out W r8) | exact FX.out W.drew (blk_drew r8) | exact FX.out W r8) Tryz.underlying108 rfl (by kernel_rfl)) rfl ?_
          refine ⟨⟨_, _, _, rfl⟩, by first | exact (FO.out W q8).drew | exact FO.out W.drew q8.drew | exact FO.out W q8⟩
      | true =>
        have HCN := Lib.hid (fun W => Tryz.strings_Contains_one ⟨x.toArray⟩ 60 W)
        by_cases hm : (60 : UInt8) ∈ x
        · obtain rfl : R = none := hX.out.trans (by simp [hm])
          have hd : decide (0 ≤ Lib.indexByte x 60) = true := by
            rcases M.idx_cases 60 x with ⟨h1, h2⟩ | ⟨_, _, h1, h2, h3⟩
            · exact absurd hm h2
            · rw [h3]; exact decide_eq_true (by omega)
          go_region_with (go_at_call 80; refine (HCN.out _).mono ?_; rintro e w' ⟨rfl, rfl⟩; rw [hd])
          all_goals
            go_wp2
            refine bodyPost_ret (results_ct rfl _ _ w.heap.size 108 #[.string ⟨(n0 :: nt).toArray⟩, .string ⟨x.toArray⟩, .int .i64 (all - v.length)] (0, 0) _ rfl (by first | exact blk_drew (FX.out W r8) | exact FX.out W.drew (blk_drew r8) | exact FX.out W r8) Tryz.underlying108 rfl (by kernel_rfl)) rfl ?_
            refine ⟨⟨_, _, _, rfl⟩, by first | exact (FO.out W q8).drew | exact FO.out W.drew q8.drew | exact FO.out W q8⟩
        · obtain rfl : R = some (⟨n0 :: nt, x, v.length⟩, y) := hX.out.trans (by simp [hm])
          have hd : decide (0 ≤ Lib.indexByte x 60) = false := by
            rcases M.idx_cases 60 x with ⟨h1, h2⟩ | ⟨p, r, h1, h2, h3⟩
            · rw [h1]; rfl
            · exact absurd (by rw [h1]; simp) hm
          go_region_with (go_at_call 80; refine (HCN.out _).mono ?_; rintro e w' ⟨rfl, rfl⟩; rw [hd])
          all_goals
            go_wp2
            refine bodyPost_ret (results_ct rfl _ _ w.heap.size 108 #[.string ⟨(n0 :: nt).toArray⟩, .string ⟨x.toArray⟩, .int .i64 (all - v.length)] (0, 0) _ rfl (by first | exact blk_drew (FX.out W r8) | exact FX.out W.drew (blk_drew r8) | exact FX.out W r8) Tryz.underlying108 rfl (by kernel_rfl)) rfl ?_
            refine ⟨⟨rfl, by first | exact blk_drew (FC.out W h8) | exact FC.out W.drew (blk_drew h8) | exact FC.out W h8⟩, by first | exact (FO.out W q8).drew | exact FO.out W.drew q8.drew | exact FO.out W q8⟩
end Go.Proofs.YtpknhgejnfmijaaGreatDoor.X
