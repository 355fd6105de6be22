/- A text of the claim, with what no other text of it needs taken out. -/
import Derived.Test.YtpknhgejnfmijaaGreatDoorEI
import Derived.Lib.OthersKept
import Derived.Laws.Cover4
import Derived.Lib.Hide
namespace Go.Proofs.YtpknhgejnfmijaaGreatDoor.X
open Go.RowKit Go.Proofs.YtpknhgejnfmijaaGreatDoorW.PrintWords
set_option linter.unusedVariables false
set_option linter.unusedSimpArgs false
def isSign (c : UInt8) : Bool := c == 43 || c == 45 || c == 95
def anySign (l : List UInt8) : Bool := l.any isSign
theorem indexRune_high (r : Int) (w : World) (hr : 128 ≤ r) (hv1 : r ≤ 1114111) (hv2 : r < 55296 ∨ 57343 < r) :
    Calls Tryz.prog 87 #[.string ⟨#[43, 45, 95]⟩, .int .i32 r] w fun e w' => e = .returned (.int .i64 (-1)) ∧ Below w.heap.size w w' := by
  by_cases h2 : r = 65533
  · subst h2
    exact indexRune_err w
  · have hval : Utf8.valid r = true := by
      simp only [Utf8.valid, Bool.or_eq_true, Bool.and_eq_true, decide_eq_true_eq]
      omega
    by_cases c2 : r.toNat < 2048
    · refine indexRune_two r (w := w) (hr := hr) (h2 := h2) (hv1 := hv1) (hv2 := hv2) (x := UInt8.ofNat (192 + r.toNat / 64)) (y := UInt8.ofNat (128 + r.toNat % 64)) (henc := ?_) (hy := ?_)
      · simp only [Utf8.encode, hval, if_true]
        rw [if_neg (by omega), if_pos (by omega)]
      · simp; omega
    · by_cases c3 : r.toNat < 65536
      · refine indexRune_three r (w := w) (hr := hr) (h2 := h2) (hv1 := hv1) (hv2 := hv2) (x0 := UInt8.ofNat (224 + r.toNat / 4096)) (x := UInt8.ofNat (128 + r.toNat / 64 % 64)) (y := UInt8.ofNat (128 + r.toNat % 64)) (henc := ?_) (hy := ?_)
        · simp only [Utf8.encode, hval, if_true]
          rw [if_neg (by omega), if_neg (by omega), if_pos (by omega)]
        · simp; omega
      · refine indexRune_four r (w := w) (hr := hr) (h2 := h2) (hv1 := hv1) (hv2 := hv2) (x0 := UInt8.ofNat (240 + r.toNat / 262144)) (x1 := UInt8.ofNat (128 + r.toNat / 4096 % 64)) (x := UInt8.ofNat (128 + r.toNat / 64 % 64)) (y := UInt8.ofNat (128 + r.toNat % 64)) (henc := ?_)
        simp only [Utf8.encode, hval, if_true]
        rw [if_neg (by omega), if_neg (by omega), if_neg (by omega)]
theorem dec_high (l : List UInt8) (h0 : l ≠ []) (hb : 128 ≤ (l.getD 0 0).toNat) :
    1 ≤ (U.dec l).2 ∧ (U.dec l).2 ≤ l.length ∧ (∀ i, i < (U.dec l).2 → 128 ≤ (l.getD i 0).toNat) ∧ 128 ≤ (U.dec l).1 ∧ (U.dec l).1 ≤ 1114111 ∧ ((U.dec l).1 < 55296 ∨ 57343 < (U.dec l).1) := by
  have hl : 1 ≤ l.length := by
    cases l with
    | nil => exact absurd rfl h0
    | cons a t => simp
  have one : ∀ i, i < 1 → 128 ≤ (l.getD i 0).toNat := fun i hi => by
    obtain rfl : i = 0 := by omega
    exact hb
  have bad : 1 ≤ ((65533, 1) : Nat × Nat).2 ∧ ((65533, 1) : Nat × Nat).2 ≤ l.length ∧ (∀ i, i < ((65533, 1) : Nat × Nat).2 → 128 ≤ (l.getD i 0).toNat) ∧ 128 ≤ ((65533, 1) : Nat × Nat).1 ∧ ((65533, 1) : Nat × Nat).1 ≤ 1114111 ∧ (((65533, 1) : Nat × Nat).1 < 55296 ∨ 57343 < ((65533, 1) : Nat × Nat).1) :=
    ⟨by decide, hl, one, by decide, by decide, by decide⟩
  unfold U.dec Lib.decodeN
  rw [if_neg (by omega)]
  split
  · rename_i h2
    split
    · rename_i h3
      refine ⟨by simp, by simp only; omega, ?_, by simp only; omega, by simp only; omega, by simp only; omega⟩
      intro i hi
      have : i = 0 ∨ i = 1 := by simp only at hi; omega
      rcases this with rfl | rfl
      · exact hb
      · omega
    · exact bad
  · split
    · rename_i h2
      split
      · rename_i h3
        refine ⟨by simp, by simp only; omega, ?_, by simp only; omega, by simp only; omega, by simp only; omega⟩
        intro i hi
        have : i = 0 ∨ i = 1 ∨ i = 2 := by simp only at hi; omega
        rcases this with rfl | rfl | rfl
        · exact hb
        · omega
        · omega
      · exact bad
    · split
      · rename_i h2
        split
        · rename_i h3
          refine ⟨by simp, by simp only; omega, ?_, by simp only; omega, by simp only; omega, by simp only; omega⟩
          intro i hi
          have : i = 0 ∨ i = 1 ∨ i = 2 ∨ i = 3 := by simp only at hi; omega
          rcases this with rfl | rfl | rfl | rfl
          · exact hb
          · omega
          · omega
          · omega
        · exact bad
      · exact bad
theorem noSign_high {l : List UInt8} {n : Nat} (h : ∀ i, i < n → 128 ≤ (l.getD i 0).toNat) : anySign (l.take n) = false := by
  unfold anySign
  rw [List.any_eq_false]
  intro x hx
  obtain ⟨i, hi, rfl⟩ := List.mem_iff_getElem.mp hx
  have hi' : i < n := by rw [List.length_take] at hi; omega
  have hl : i < l.length := by rw [List.length_take] at hi; omega
  have := h i hi'
  rw [List.getElem_take]
  rw [List.getD, List.getElem?_eq_getElem hl, Option.getD_some] at this
  unfold isSign
  simp only [Bool.or_eq_true, beq_iff_eq, not_or]
  refine ⟨⟨?_, ?_⟩, ?_⟩ <;> (intro e; rw [e] at this; revert this; decide)
theorem anySign_split (l : List UInt8) (p n : Nat) (h1 : anySign (l.take p) = false) (h2 : anySign ((l.drop p).take n) = false) : anySign (l.take (p + n)) = false := by
  rw [List.take_add]
  unfold anySign at *
  rw [List.any_append, h1, h2]
  rfl
set_option maxHeartbeats 1000000 in
set_option maxRecDepth 100000 in
theorem indexAny (a0 : ByteArray) (w : World) (h8 : a0.size ≤ 8) :
    Calls Tryz.prog 100 #[.string a0, .string ⟨#[43, 45, 95]⟩] w fun e w' => ∃ v : Int, e = .returned (.int .i64 v) ∧ decide (0 ≤ v) = anySign a0.data.toList ∧ Below w.heap.size w w' := by
  have h8z : decide ((8 : Int) < (a0.size : Int)) = false := decide_eq_false (by omega)
  have HS := Lib.hid (fun W => Tryz.strings_shouldUseASCIISet a0.size W)
  have HH := Lib.hid indexRune_high
  have HA := Lib.hid (fun r W h0 h1 => Tryz.strings_IndexRune_ascii ⟨#[43, 45, 95]⟩ r W h0 h1)
  go_enter Tryz.func100, Tryz.ntmps100
  go_wp2_with (go_at_call 103; refine (HS.out _).mono ?_; rintro e w' ⟨rfl, hw⟩; rw [hw, h8z])
  go_loopw [9, 10] (fun _ _ wr => ∃ pos : Nat, pos ≤ a0.size ∧ wr.heap[w.heap.size]? = some (.stringIter a0 pos) ∧ Below w.heap.size w wr ∧ Hid (anySign (a0.data.toList.take pos) = false)) (fun _ _ wr => a0.size - wr.iterPos w.heap.size)
  case atStart =>
    refine ⟨0, by omega, ?_, (Below.refl _ w).alloc (Nat.le_refl _) _, by show anySign (List.take 0 _) = false; rfl⟩
    have := World.iter_heap w a0 0
    simpa using this
  case round =>
    obtain ⟨pos, hpos, hit, hbw, HN⟩ := hrel
    have hsz : w.heap.size < wr.heap.size := (Array.getElem?_eq_some_iff.1 hit).1
    by_cases hp : pos < a0.size
    · obtain ⟨b, hb⟩ : ∃ b : UInt8, a0[pos]'hp = b := ⟨_, rfl⟩
      have HB : Hid (a0.data.toList[pos]? = some b) := by show _ = _; rw [← hb]; exact Lib.data_getElem? a0 pos hp
      have hdr : a0.data.toList.drop pos = b :: a0.data.toList.drop (pos + 1) := by
        have hl : pos < a0.data.toList.length := (List.getElem?_eq_some_iff.mp HB.out).1
        have he := (List.getElem?_eq_some_iff.mp HB.out).2
        rw [← he]
        exact List.drop_eq_getElem_cons hl
      have HDR := Lib.hid hdr
      clear hdr
      by_cases h128 : b.toNat < 128
      · have hnx := fun ty => Lib.run_next_ascii_at (P := Tryz.prog) wr w.heap.size a0 pos ty hit hp (by rw [hb]; exact h128)
        rw [hb] at hnx
        have hit2 := Lib.iterAt_heap wr w.heap.size a0 pos (pos + 1) hit
        have hbw2 := Lib.below_iterAt hbw (k := w.heap.size) (by omega) a0 (pos + 1)
        have hcon := Lib.contains_iff_indexByte [43, 45, 95] b
        have hsc : ([43, 45, 95] : List UInt8).contains b = isSign b := by
          simp only [List.contains_cons, List.contains_nil, isSign, Bool.or_false, Bool.or_assoc]
        rw [hsc] at hcon
        have hback : ((b.toNat : Int)).toNat.toUInt8 = b := by simp
        have HC : Hid (∀ W, Calls Tryz.prog 87 #[.string ⟨#[43, 45, 95]⟩, .int .i32 b.toNat] W fun e w' => e = .returned (.int .i64 (Lib.indexByte [43, 45, 95] b)) ∧ w' = W) := Lib.hid (fun W => by
          have := HA.out (b.toNat : Int) W (by omega) (by omega)
          rw [hback] at this
          exact this)
        clear hback hsc hb
        cases hs : isSign b
        · rw [hs] at hcon
          have hlt : ¬ ((0 : Int) ≤ Lib.indexByte [43, 45, 95] b) := of_decide_eq_false hcon.symm
          clear hcon
          generalize Lib.indexByte [43, 45, 95] b = v at HC hlt
          have HN2 : Hid (anySign (a0.data.toList.take (pos + 1)) = false) := anySign_split _ _ _ HN.out (by rw [HDR.out]; simp [anySign, hs])
          clear hs
          go_wp2_with (go_at_call 87; refine (HC.out _).mono ?_; rintro e w' ⟨rfl, rfl⟩)
          refine ⟨⟨pos + 1, by omega, hit2, hbw2, HN2⟩, ?_⟩
          simp [World.iterPos, hit, hit2]
          omega
        · rw [hs] at hcon
          have hge : (0 : Int) ≤ Lib.indexByte [43, 45, 95] b := of_decide_eq_true hcon.symm
          clear hcon
          generalize Lib.indexByte [43, 45, 95] b = v at HC hge
          have HY : Hid (anySign a0.data.toList = true) := by
            show _ = _
            unfold anySign
            rw [List.any_eq_true]
            exact ⟨b, List.mem_of_getElem? HB.out, hs⟩
          clear hs
          go_wp2_with (go_at_call 87; refine (HC.out _).mono ?_; rintro e w' ⟨rfl, rfl⟩)
          go_ret
          exact ⟨_, rfl, by rw [HY.out]; simp, hbw2⟩
      · have hnx := fun ty => Lib.run_next_any_at (P := Tryz.prog) wr w.heap.size a0 pos ty hit hp
        have hd := dec_high (a0.data.toList.drop pos) (by rw [HDR.out]; simp) (by rw [HDR.out]; show 128 ≤ b.toNat; omega)
        rw [← U.decode_dec a0 pos] at hd
        generalize Utf8.decode a0 pos = q at hd hnx
        obtain ⟨c, n⟩ := q
        obtain ⟨d1, d2, d3, d4, d5, d6⟩ := hd
        simp only at d1 d2 d4 d5 d6 d3 hnx
        have d2' : pos + n ≤ a0.size := by rw [List.length_drop] at d2; have := Lib.size_eq a0; omega
        have hit2 := Lib.iterAt_heap wr w.heap.size a0 pos (pos + n) hit
        have hbw2 := Lib.below_iterAt hbw (k := w.heap.size) (by omega) a0 (pos + n)
        have HC := Lib.hid (fun W => HH.out (c : Int) W (by omega) (by omega) (by omega))
        have HN2 : Hid (anySign (a0.data.toList.take (pos + n)) = false) := anySign_split _ _ _ HN.out (noSign_high d3)
        clear d3 d6 hb
        go_wp2_with (go_at_call 87; refine (HC.out _).mono ?_; rintro e w' ⟨rfl, hB⟩)
        have hB2 : Below w.heap.size w w' := hbw2.trans (hB.mono hbw2.size)
        have hit3 : w'.heap[w.heap.size]? = some (.stringIter a0 (pos + n)) := (hB.block _ (by rw [Lib.iterAt_size]; exact hsz)).trans hit2
        go_wp2
        refine ⟨⟨pos + n, by omega, hit3, hB2, HN2⟩, ?_⟩
        simp [World.iterPos, hit, hit3]
        omega
    · obtain rfl : pos = a0.size := by omega
      have hnx := fun ty => Lib.run_next_end_at (P := Tryz.prog) wr w.heap.size a0 a0.size ty hit (by omega)
      have HY : Hid (anySign a0.data.toList = false) := by
        have := HN.out
        rwa [List.take_of_length_le (by rw [← Lib.size_eq]; exact Nat.le_refl _)] at this
      go_wp2
      go_ret
      exact ⟨_, rfl, by rw [HY.out]; rfl, hbw⟩
theorem containsAny (a0 : ByteArray) (w : World) (h8 : a0.size ≤ 8) :
    Calls Tryz.prog 94 #[.string a0, .string ⟨#[43, 45, 95]⟩] w fun e w' => e = .returned (.bool (anySign a0.data.toList)) ∧ Below w.heap.size w w' := by
  have HC := Lib.hid (indexAny a0 w h8)
  go_enter Tryz.func94, Tryz.ntmps94
  go_wp2_with (go_at_call 100; refine HC.out.mono ?_; rintro e w' ⟨v, rfl, hv, hB⟩)
  go_ret
  refine ⟨?_, hB⟩
  rw [← hv]
  rfl
end Go.Proofs.YtpknhgejnfmijaaGreatDoor.X
