/- A text of the claim, with what no other text of it needs taken out. -/
import Derived.Test.YtpknhgejnfmijaaGreatDoorTE
import Derived.WalkMore
import Derived.ScopeJumps
namespace Go.Proofs.YtpknhgejnfmijaaGreatDoor.X
open Go.RowKit Go.Proofs.YtpknhgejnfmijaaGreatDoorW.PrintWords Go.Proofs.YtpknhgejnfmijaaGreatDoor
set_option linter.unusedVariables false
set_option linter.unusedSimpArgs false
def TokAt (tb : Nat) (k : Int) (n : List UInt8) (av : Value) (tx : ByteArray) (p : Int) (w : World) : Prop := w.heap[tb]? = some (.cells #[.int .u8 k, .string ⟨n.toArray⟩, av, .string tx, .int .i64 p] 33 (0, 0))
section
variable {tb : Nat} {k : Int} {n : List UInt8} {av : Value} {tx : ByteArray} {p : Int} {w w' : World} {bs : List Nat}
theorem TokAt.lt (h : TokAt tb k n av tx p w) : tb < w.heap.size := blk_lt h
theorem TokAt.c0 (h : TokAt tb k n av tx p w) : w.cell? ⟨tb, 0, none⟩ = some (.int .u8 k) := (blk_cell h 0).trans rfl
theorem TokAt.c1 (h : TokAt tb k n av tx p w) : w.cell? ⟨tb, 1, none⟩ = some (.string ⟨n.toArray⟩) := (blk_cell h 1).trans rfl
theorem TokAt.c2 (h : TokAt tb k n av tx p w) : w.cell? ⟨tb, 2, none⟩ = some av := (blk_cell h 2).trans rfl
theorem TokAt.c3 (h : TokAt tb k n av tx p w) : w.cell? ⟨tb, 3, none⟩ = some (.string tx) := (blk_cell h 3).trans rfl
theorem TokAt.c4 (h : TokAt tb k n av tx p w) : w.cell? ⟨tb, 4, none⟩ = some (.int .i64 p) := (blk_cell h 4).trans rfl
theorem TokAt.soft (h : TokAt tb k n av tx p w) (j : Nat) : w.frozen? ⟨tb, j, none⟩ = false := Lib.frozen_of_heap h j
theorem TokAt.kept (h : TokAt tb k n av tx p w) (hg : Off bs w w') (hne : tb ∉ bs) : TokAt tb k n av tx p w' := (hg.block tb (blk_lt h) hne).trans h
theorem TokAt.kind (h : TokAt tb k n av tx p w) (k' : Int) : TokAt tb k' n av tx p (w.setCell ⟨tb, 0, none⟩ (.int .u8 k')) := blk_put h 0 _ rfl
theorem TokAt.name (h : TokAt tb k n av tx p w) (n' : List UInt8) : TokAt tb k n' av tx p (w.setCell ⟨tb, 1, none⟩ (.string ⟨n'.toArray⟩)) := blk_put h 1 _ rfl
end
def rawCells (all : Int) (rs : List T.Raw) : List Value := rs.flatMap fun r => [.string ⟨r.name.toArray⟩, .string ⟨r.value.toArray⟩, .int .i64 (all - r.left)]
def tagP (b tb : Nat) (all : Int) (base : Nat) (av : Value) (tx : ByteArray) (p : Int) (R : Option (Nat × List UInt8 × List T.Raw × List UInt8)) (e : Ending) (w : World) : Prop :=
  match R with
  | none => (∃ v, e = .returned (.tuple #[v, .bool false])) ∧ ∃ k n, TokAt tb k n av tx p w
  | some x => ∃ v, e = .returned (.tuple #[v, .bool true]) ∧ w.ownsRow base 108 3 v x.2.2.1.length (rawCells all x.2.2.1) ∧ TokAt tb x.1 x.2.1 av tx p w ∧ CutAt b all x.2.2.2 w
def tagJ (b tb : Nat) (v : Value) (a : Act) : Prop := ∃ (u2 u3 u6 u7 u8 u9 u10 u11 u12 u13 u14 u15 u16 u17 u18 u19 u20 u21 u22 u23 u24 u25 u26 u27 u28 u29 u30 u31 u32 u33 u34 u35 u36 u37 u38 u39 u40 u41 u42 u43 u44 u45 u46 u47 u48 u49 u50 u51 u52 u53 u54 u55 u56 u57 u58 u59 u60 u61 u62 u63 u64 u65 u66 u67 u68 u69 u70 u71 u72 u73 u74 u75 u76 u77 u78 u79 u80 u81 u82 u83 u84 u85 u86 : Value), a = { tmps := #[.pointer (some ⟨b, 0, none⟩), .pointer (some ⟨tb, 0, none⟩), u2, u3, v, .bool false, u6, u7, u8, u9, u10, u11, u12, u13, u14, u15, u16, u17, u18, u19, u20, u21, u22, u23, u24, u25, u26, u27, u28, u29, u30, u31, u32, u33, u34, u35, u36, u37, u38, u39, u40, u41, u42, u43, u44, u45, u46, u47, u48, u49, u50, u51, u52, u53, u54, u55, u56, u57, u58, u59, u60, u61, u62, u63, u64, u65, u66, u67, u68, u69, u70, u71, u72, u73, u74, u75, u76, u77, u78, u79, u80, u81, u82, u83, u84, u85, u86], defers := [] }
set_option maxHeartbeats 4000000 in
set_option maxRecDepth 100000 in
theorem tag_close (b tb : Nat) (all : Int) (l : List UInt8) (w : World) (h : CutAt b all l w) (k : Int) (n : List UInt8) (av : Value) (tx : ByteArray) (p : Int) (ht : TokAt tb k n av tx p w) (hne : b ≠ tb) (hz : (l.length : Int) ≤ all) (hall : all ≤ 1000000000) (hpre : [60, 47].isPrefixOf l = true) :
    Calls Tryz.prog 39 #[.pointer (some ⟨b, 0, none⟩), .pointer (some ⟨tb, 0, none⟩)] w fun e w' => tagP b tb all w.heap.size av tx p (T.tagL l) e w' ∧ Off [b, tb] w w' := by
  have hb := h.lt
  have htb := ht.lt
  have t0 := ht.c0; have t1 := ht.c1; have tf0 := ht.soft 0; have tf1 := ht.soft 1
  have o0 : Off [b, tb] w (w.setCell ⟨tb, 0, none⟩ (.int .u8 1)) := Off.put _ _ _ _ (by simp)
  have h0 := h.kept (bs := [tb]) (Off.put w tb 0 (.int .u8 1) (by simp)) (by simp [hne])
  have ht0 := ht.kind 1
  have hne' : tb ≠ b := fun e => hne e.symm
  have HE := Lib.hid (eat_k b all l [60, 47] _ h0)
  rw [hpre, show eatL [60, 47] l = l.drop 2 by unfold eatL; rw [hpre]; rfl] at HE
  generalize hR : T.tagL l = R
  unfold T.tagL at hR
  rw [if_pos hpre] at hR
  have hl2 : (l.drop 2).length ≤ l.length := by simp
  generalize l.drop 2 = l2 at HE hR hl2
  have HW := Lib.hid (fun W hw => word_k b all l2 W hw (by omega))
  have hnl : M.beginL l2 = (l2.take (M.beginL l2)).length := by rw [List.length_take]; have := (M.begin_max l2).2.1; omega
  generalize l2.take (M.beginL l2) = nm at HW hnl hR
  generalize l2.drop (M.beginL l2) = l3 at HW hR
  rw [hnl] at hR
  have HR := Lib.hid hR
  clear hpre ht h hR hnl
  go_enter Tryz.func39, Tryz.ntmps39
  go_wp2
  refine wp_scope_jumps 0 (fun a' w' => tagJ b tb (.slice none 0 0) a' ∧ CutAt b all l3 w' ∧ TokAt tb 2 nm av tx p w' ∧ Off [b, tb] w w') (fun _ _ => 0) rfl ?_ ?_
  · go_wp2_with (go_at_call 59; refine HE.out.mono ?_; rintro e w1 ⟨rfl, h1, o1⟩)
    refine (HW.out _ h1).mono ?_
    rintro e w2 ⟨rfl, h2, o2⟩
    have ht2 := (ht0.kept o1 (by simp [hne'])).kept o2 (by simp [hne'])
    have q2 := (o0.trans (o1.more (by simp))).trans (o2.more (by simp))
    have xt0 := ht2.c0; have xt1 := ht2.c1; have xf0 := ht2.soft 0; have xf1 := ht2.soft 1
    have h2a := h2.kept (bs := [tb]) (Off.put w2 tb 0 (.int .u8 2) (by simp)) (by simp [hne])
    have o3 := Off.put (w2.setCell ⟨tb, 0, none⟩ (.int .u8 2)) tb 1 (.string ⟨nm.toArray⟩) (bs := [tb]) (by simp)
    have h3 := h2a.kept o3 (by simp [hne])
    have ht3 := (ht2.kind 2).name nm
    have q3 := (q2.trans (Off.put w2 tb 0 (.int .u8 2) (by simp))).trans (o3.more (by simp))
    go_wp2
    go_step3
    exact ⟨rfl, ⟨_, _, _, _, _, _, _, _, _, _, _, _, _, _, _, _, _, _, _, _, _, _, _, _, _, _, _, _, _, _, _, _, _, _, _, _, _, _, _, _, _, _, _, _, _, _, _, _, _, _, _, _, _, _, _, _, _, _, _, _, _, _, _, _, _, _, _, _, _, _, _, _, _, _, _, _, _, _, _, _, _, _, _, rfl⟩, h3, ht3, q3⟩
  · rintro a' w1 ⟨⟨u2, u3, u6, u7, u8, u9, u10, u11, u12, u13, u14, u15, u16, u17, u18, u19, u20, u21, u22, u23, u24, u25, u26, u27, u28, u29, u30, u31, u32, u33, u34, u35, u36, u37, u38, u39, u40, u41, u42, u43, u44, u45, u46, u47, u48, u49, u50, u51, u52, u53, u54, u55, u56, u57, u58, u59, u60, u61, u62, u63, u64, u65, u66, u67, u68, u69, u70, u71, u72, u73, u74, u75, u76, u77, u78, u79, u80, u81, u82, u83, u84, u85, u86, rfl⟩, h1, ht1, q1⟩
    have HS := Lib.hid (skip_k b all l3 w1 h1)
    generalize hl4 : T.skipB l3 = l4 at HS
    rw [hl4] at HR
    cases nm with
    | nil =>
      obtain rfl : R = none := by rw [← HR.out]; rfl
      go_wp2_with (go_at_call 61; refine HS.out.mono ?_; rintro e w2 ⟨rfl, h2, o2⟩; have ht2 := ht1.kept o2 (by simp [hne']); have c2 := ht2.c1)
      simp only [Exit.jump]
      go_ret2
      exact ⟨⟨⟨_, rfl⟩, _, _, ht2⟩, q1.trans (o2.more (by simp))⟩
    | cons n0 nt =>
    have HR2 := HR.out
    rw [if_neg (by simp)] at HR2
    clear HR
    by_cases he : ∃ r, l4 = 62 :: r
    · obtain ⟨r, rfl⟩ := he
      obtain rfl : R = some (2, n0 :: nt, [], r) := HR2.symm
      have HE := Lib.hid (fun W hw => eat_k b all (62 :: r) [62] W hw)
      rw [(eat_hit 62 r).1, (eat_hit 62 r).2] at HE
      go_wp2_with (first
        | (go_at_call 61; refine HS.out.mono ?_; rintro e w2 ⟨rfl, h2, o2⟩; have ht2 := ht1.kept o2 (by simp [hne']); have c2 := ht2.c1)
        | (go_at_call 59; refine (HE.out _ h2).mono ?_; rintro e w3 ⟨rfl, h3, o3⟩; have ht3 := ht2.kept o3 (by simp [hne'])))
      simp only [Exit.jump]
      go_ret2
      exact ⟨⟨_, rfl, World.ownsRow_nil _ _ _ _, ht3, h3⟩, (q1.trans (o2.more (by simp))).trans (o3.more (by simp))⟩
    · have he' : ∀ r, l4 ≠ 62 :: r := fun r e => he ⟨r, e⟩
      obtain rfl : R = none := by
        rw [← HR2]
        split
        · exact absurd rfl (he' _)
        · rfl
      have HE := Lib.hid (fun W hw => eat_k b all l4 [62] W hw)
      rw [(eat_miss 62 l4 he').1, (eat_miss 62 l4 he').2] at HE
      go_wp2_with (first
        | (go_at_call 61; refine HS.out.mono ?_; rintro e w2 ⟨rfl, h2, o2⟩; have ht2 := ht1.kept o2 (by simp [hne']); have c2 := ht2.c1)
        | (go_at_call 59; refine (HE.out _ h2).mono ?_; rintro e w3 ⟨rfl, h3, o3⟩; have ht3 := ht2.kept o3 (by simp [hne'])))
      simp only [Exit.jump]
      go_ret2
      exact ⟨⟨⟨_, rfl⟩, _, _, ht3⟩, (q1.trans (o2.more (by simp))).trans (o3.more (by simp))⟩
end Go.Proofs.YtpknhgejnfmijaaGreatDoor.X
