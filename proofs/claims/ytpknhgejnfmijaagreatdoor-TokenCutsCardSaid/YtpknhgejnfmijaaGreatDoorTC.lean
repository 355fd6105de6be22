/- A text of the claim, with what no other text of it needs taken out. -/
import Derived.Test.YtpknhgejnfmijaaGreatDoorTA
import Derived.Test.YtpknhgejnfmijaaGreatDoorNB
import Derived.Test.YtpknhgejnfmijaaGreatDoorEB
import Derived.Shelf.Strings.SlTrimAscii
import Derived.RangeFuncBox
import Derived.Maps.RangeWalk
namespace Go.Proofs.YtpknhgejnfmijaaGreatDoor.X
open Go.RowKit Go.Proofs.YtpknhgejnfmijaaGreatDoorW.PrintWords Go.Proofs.YtpknhgejnfmijaaGreatDoor
set_option linter.unusedVariables false
set_option linter.unusedSimpArgs false
def CutAt (b : Nat) (all : Int) (l : List UInt8) (w : World) : Prop := w.heap[b]? = some (.cells #[.int .i64 all, .string ⟨l.toArray⟩] 62 (0, 0))
theorem CutAt.lt {b : Nat} {all : Int} {l : List UInt8} {w : World} (h : CutAt b all l w) : b < w.heap.size := (Array.getElem?_eq_some_iff.1 h).1
theorem CutAt.all {b : Nat} {all : Int} {l : List UInt8} {w : World} (h : CutAt b all l w) : w.cell? ⟨b, 0, none⟩ = some (.int .i64 all) := by rw [Lib.cell_of_heap h]; rfl
theorem CutAt.rest {b : Nat} {all : Int} {l : List UInt8} {w : World} (h : CutAt b all l w) : w.cell? ⟨b, 1, none⟩ = some (.string ⟨l.toArray⟩) := by rw [Lib.cell_of_heap h]; rfl
theorem CutAt.soft {b : Nat} {all : Int} {l : List UInt8} {w : World} (h : CutAt b all l w) (j : Nat) : w.frozen? ⟨b, j, none⟩ = false := Lib.frozen_of_heap h j
structure Off (bs : List Nat) (w w' : World) : Prop where
  os : w'.os = w.os
  tape : w'.tape = w.tape
  output : w'.output = w.output
  size : w.heap.size ≤ w'.heap.size
  block : ∀ i, i < w.heap.size → i ∉ bs → w'.heap[i]? = w.heap[i]?
theorem CutAt.kept {b : Nat} {all : Int} {l : List UInt8} {w w' : World} {bs : List Nat} (h : CutAt b all l w) (hg : Off bs w w') (hne : b ∉ bs) : CutAt b all l w' := (hg.block b h.lt hne).trans h
theorem CutAt.below {b : Nat} {all : Int} {l : List UInt8} {w w' : World} (h : CutAt b all l w) (hg : Below w.heap.size w w') : CutAt b all l w' := (hg.block b h.lt).trans h
theorem CutAt.put {b : Nat} {all : Int} {l : List UInt8} {w : World} (h : CutAt b all l w) (l' : List UInt8) : CutAt b all l' (w.setCell ⟨b, 1, none⟩ (.string ⟨l'.toArray⟩)) := by
  obtain ⟨hlt, hk⟩ := Array.getElem?_eq_some_iff.1 h
  show (w.heap.modify b _)[b]? = _
  rw [Array.getElem?_eq_getElem (by rw [Array.size_modify]; exact hlt), Array.getElem_modify_self, hk]
  rfl
theorem Off.refl (bs : List Nat) (w : World) : Off bs w w := ⟨rfl, rfl, rfl, Nat.le_refl _, fun _ _ _ => rfl⟩
theorem Off.trans {bs : List Nat} {a b c : World} (h : Off bs a b) (k : Off bs b c) : Off bs a c :=
  ⟨k.os.trans h.os, k.tape.trans h.tape, k.output.trans h.output, Nat.le_trans h.size k.size, fun i hi hn => (k.block i (Nat.lt_of_lt_of_le hi h.size) hn).trans (h.block i hi hn)⟩
theorem Off.more {bs cs : List Nat} {a b : World} (h : Off bs a b) (hs : ∀ i ∈ bs, i ∈ cs) : Off cs a b := ⟨h.os, h.tape, h.output, h.size, fun i hi hn => h.block i hi (fun k => hn (hs i k))⟩
theorem Off.less {bs cs : List Nat} {a b : World} (h : Off bs a b) (hs : ∀ i ∈ bs, i < a.heap.size → i ∈ cs) : Off cs a b := ⟨h.os, h.tape, h.output, h.size, fun i hi hn => h.block i hi (fun k => hn (hs i k hi))⟩
theorem Off.of_below {bs : List Nat} {w w' : World} (h : Below w.heap.size w w') : Off bs w w' := ⟨h.os, h.tape, h.output, h.size, fun i hi _ => h.block i hi⟩
theorem Off.below {bs : List Nat} {B : Nat} {w0 w w' : World} (h : Off bs w w') (hb : Below B w0 w) (hB : B ≤ w.heap.size) (hs : ∀ i ∈ bs, B ≤ i) : Below B w0 w' :=
  hb.trans ⟨h.os, h.tape, h.output, h.size, fun i hi => h.block i (by omega) (fun k => by have := hs i k; omega)⟩
theorem Off.of_grown {bs : List Nat} {row : Option Nat} {w w' : World} (h : w.grownBy w' row) (hs : ∀ k, row = some k → k ∈ bs) : Off bs w w' := ⟨h.os, h.tape, h.output, h.size, fun i hi hn => h.block i hi (fun e => hn (hs i e.symm))⟩
theorem Off.grown {b : Nat} {w w' : World} (h : Off [b] w w') : w.grownBy w' (some b) := ⟨h.os, h.tape, h.output, h.size, fun i hi hn => h.block i hi (fun k => hn (by simp at k; rw [k]))⟩
theorem Off.put (W : World) (b j : Nat) (v : Value) {bs : List Nat} (hb : b ∈ bs) : Off bs W (W.setCell ⟨b, j, none⟩ v) :=
  ⟨rfl, rfl, rfl, (KeepsWalks.setCell W _ v).size, fun k _ hk => Below.heap_setCell _ _ _ k (fun e => hk (by rw [e]; exact hb))⟩
theorem Off.alloc (W : World) (o : Obj) (bs : List Nat) : Off bs W (W.alloc o) := .of_grown (World.grownBy_alloc W o none) (by simp)
theorem Off.drewN {bs : List Nat} {w w' : World} (h : Off bs w w') (n : Nat) : Off bs w (w'.drewN n) := ⟨h.os, h.tape, h.output, h.size, h.block⟩
theorem Off.cell {bs : List Nat} {w w' : World} (h : Off bs w w') {a : Addr} {v : Value} (hc : w.cell? a = some v) (hn : a.block ∉ bs) : w'.cell? a = some v :=
  (World.cell?_of_block (h.block a.block (World.block_lt_of_cell? w a hc) hn)).trans hc
theorem Off.row {bs : List Nat} {w w' : World} {base : Nat} {e : TypeId} {size n : Nat} {v : Value} {xs : List Value} (hg : Off bs w w') (h : w.ownsRow base e size v n xs) (hn : ∀ k, v.ownBlock = some k → k ∉ bs) : w'.ownsRow base e size v n xs := by
  refine ⟨h.1, ?_⟩
  rcases h.2 with hh | ⟨g, cap, cur, rfl, hb, hgg, rest⟩
  · exact .inl hh
  · refine .inr ⟨g, cap, cur, rfl, hb, ?_, rest⟩
    rw [hg.block g (Array.getElem?_eq_some_iff.1 hgg).1 (hn g rfl)]
    exact hgg
theorem mk_sz (l : List UInt8) : ((⟨l.toArray⟩ : ByteArray).size : Int) = (l.length : Int) := by simp [ByteArray.size]
theorem skip_eq (l : List UInt8) : Lib.trimLeftS l [32, 9, 10, 13] = T.skipB l := by
  unfold Lib.trimLeftS T.skipB
  congr 1
  funext c
  simp only [T.blank, List.contains_cons, Bool.or_assoc, List.contains_nil, Bool.or_false]
def eatL (p l : List UInt8) : List UInt8 := if p.isPrefixOf l = true then l.drop p.length else l
set_option maxHeartbeats 1000000 in
set_option maxRecDepth 100000 in
theorem at_k (b : Nat) (all : Int) (l : List UInt8) (w : World) (h : CutAt b all l w) (h1 : (l.length : Int) ≤ all) (h2 : all ≤ 1000000000) :
    Calls Tryz.prog 38 #[.pointer (some ⟨b, 0, none⟩)] w fun e w' => e = .returned (.int .i64 (all - l.length)) ∧ Off [] w w' := by
  have c0 := h.all
  have c1 := h.rest
  have hw : IntKind.i64.wrap (all - (l.length : Int)) = all - l.length := IntWalk.i64_in _ (by omega)
  go_enter Tryz.func38, Tryz.ntmps38
  go_wp2
  go_region
  all_goals
    go_wp2
    go_ret
    exact ⟨rfl, (Off.refl _ _).drewN 1⟩
set_option maxHeartbeats 1000000 in
set_option maxRecDepth 100000 in
theorem skip_k (b : Nat) (all : Int) (l : List UInt8) (w : World) (h : CutAt b all l w) :
    Calls Tryz.prog 61 #[.pointer (some ⟨b, 0, none⟩)] w fun e w' => e = .returned (.bool (decide ((T.skipB l).length < l.length))) ∧ CutAt b all (T.skipB l) w' ∧ Off [b] w w' := by
  have c1 := h.rest
  have hsk : ⟨(Lib.trimLeftS (⟨l.toArray⟩ : ByteArray).data.toList (⟨#[32, 9, 10, 13]⟩ : ByteArray).data.toList).toArray⟩ = (⟨(T.skipB l).toArray⟩ : ByteArray) := by
    rw [← skip_eq]
  have HT := Lib.hid (fun W => Any.strings_TrimLeft_laid Tryz.lays161 (by kernel_rfl) ⟨l.toArray⟩ ⟨#[32, 9, 10, 13]⟩ W (by decide) (ascii_of_all (by decide)))
  go_enter Tryz.func61, Tryz.ntmps61
  go_wp2_with (go_at_call 79; refine (HT.out _).mono ?_; rintro e w1 ⟨rfl, hB⟩; rw [hsk]; have h1 := h.below hB; have g1 := h1.rest; have f1 := h1.soft 1; have d1 := (h1.put (T.skipB l)).rest)
  go_ret
  exact ⟨rfl, h1.put _, (Off.of_below hB).trans (Off.put _ _ _ _ (by simp))⟩
set_option maxHeartbeats 1000000 in
set_option maxRecDepth 100000 in
theorem eat_k (b : Nat) (all : Int) (l p : List UInt8) (w : World) (h : CutAt b all l w) :
    Calls Tryz.prog 59 #[.pointer (some ⟨b, 0, none⟩), .string ⟨p.toArray⟩] w fun e w' => e = .returned (.bool (p.isPrefixOf l)) ∧ CutAt b all (eatL p l) w' ∧ Off [b] w w' := by
  have c1 := h.rest
  have f1 := h.soft 1
  have HT : Hid (∀ W, Calls Tryz.prog 36 #[.string ⟨l.toArray⟩, .string ⟨p.toArray⟩] W fun e w' => e = .returned (.tuple #[.string ⟨(eatL p l).toArray⟩, .bool (p.isPrefixOf l)]) ∧ w' = W) := Lib.hid (fun W => Tryz.strings_CutPrefix ⟨l.toArray⟩ ⟨p.toArray⟩ W)
  have d1 := (h.put (eatL p l)).rest
  go_enter Tryz.func59, Tryz.ntmps59
  go_wp2_with (go_at_call 36; refine (HT.out _).mono ?_; rintro e w1 ⟨rfl, rfl⟩)
  go_ret
  exact ⟨rfl, h.put _, Off.put _ _ _ _ (by simp)⟩
theorem ba_eq (v : ByteArray) (l : List UInt8) : v = ⟨l.toArray⟩ ↔ v.data.toList = l := ⟨by rintro rfl; rfl, fun h => by obtain ⟨⟨d⟩⟩ := v; subst h; rfl⟩
theorem slice_to_l (l : List UInt8) (p : Nat) (h : p ≤ l.length) (W : World) :
    (Instr.slice 9 (.string ⟨l.toArray⟩) none (some (.int .i64 (p : Int))) none).run Tryz.prog W = .ok (.string ⟨(l.take p).toArray⟩) W := by
  have hz := mk_sz l
  rw [run_slice_string_to_if W 9 _ .i64 _ Tryz.underlying9, if_pos ⟨by omega, by omega⟩]
  have e : (⟨l.toArray⟩ : ByteArray).extract 0 (p : Int).toNat = ⟨(l.take p).toArray⟩ := by
    rw [ba_eq, Lib.extract_data, Int.toNat_natCast]
    simp
  rw [e]
theorem slice_from_l (l : List UInt8) (p : Nat) (h : p ≤ l.length) (W : World) :
    (Instr.slice 9 (.string ⟨l.toArray⟩) (some (.int .i64 (p : Int))) none none).run Tryz.prog W = .ok (.string ⟨(l.drop p).toArray⟩) W := by
  have hz := mk_sz l
  rw [run_slice_string_from_if W 9 _ .i64 _ Tryz.underlying9, if_pos ⟨by omega, by omega⟩]
  have e : (⟨l.toArray⟩ : ByteArray).extract (p : Int).toNat (⟨l.toArray⟩ : ByteArray).size = ⟨(l.drop p).toArray⟩ := by
    rw [ba_eq, Lib.extract_data, Int.toNat_natCast, List.take_of_length_le]
    rw [List.length_drop]
    show l.length - p ≤ _
    omega
  rw [e]
set_option maxHeartbeats 1000000 in
set_option maxRecDepth 100000 in
theorem word_k (b : Nat) (all : Int) (l : List UInt8) (w : World) (h : CutAt b all l w) (hz : l.length ≤ 1000000000) :
    Calls Tryz.prog 60 #[.pointer (some ⟨b, 0, none⟩)] w fun e w' => e = .returned (.string ⟨(l.take (M.beginL l)).toArray⟩) ∧ CutAt b all (l.drop (M.beginL l)) w' ∧ Off [b] w w' := by
  have c1 := h.rest
  have f1 := h.soft 1
  have hle := (M.begin_max l).2.1
  have h1 := slice_to_l l _ hle
  have h2 := slice_from_l l _ hle
  have HT := Lib.hid (fun W => name_Begin.calls ⟨l.toArray⟩ (M.beginL l : Int) W (by unfold name_Begin.f; rw [if_pos (by have := mk_sz l; omega)]))
  generalize M.beginL l = n at hle h1 h2 HT
  have H1 := Lib.hid h
  clear h
  go_enter Tryz.func60, Tryz.ntmps60
  go_wp2_with (go_at_call 78; refine (HT.out _).mono ?_; rintro e w1 ⟨rfl, ⟨k, rfl⟩⟩)
  go_ret
  have hc : CutAt b all l (w.drewN k) := H1.out
  exact ⟨rfl, hc.put _, ((Off.refl _ _).drewN k).trans (Off.put _ _ _ _ (by simp))⟩
end Go.Proofs.YtpknhgejnfmijaaGreatDoor.X
