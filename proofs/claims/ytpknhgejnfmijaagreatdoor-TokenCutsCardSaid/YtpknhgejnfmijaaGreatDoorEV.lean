/- A text of the claim, with what no other text of it needs taken out. -/
import Derived.Test.YtpknhgejnfmijaaGreatDoorEW
import Derived.Test.YtpknhgejnfmijaaGreatDoorUP
namespace Go.Proofs.YtpknhgejnfmijaaGreatDoor.X
open Go.RowKit Go.Proofs.YtpknhgejnfmijaaGreatDoorW.PrintWords Go.Proofs.YtpknhgejnfmijaaGreatDoor
set_option linter.unusedVariables false
set_option linter.unusedSimpArgs false
def decR (l : List UInt8) : List UInt8 × Int × Int := if (E.D l).2.2 = 0 then ((E.D l).1, 0, 0) else ([], (E.D l).2.1, (E.D l).2.2)
def entity_Decode.f (a0 : ByteArray) : Option (ByteArray × Int × Int) :=
  if a0.size ≤ 1000000000 then some (⟨(decR a0.data.toList).1.toArray⟩, (decR a0.data.toList).2.1, (decR a0.data.toList).2.2) else none
theorem put_le (n : Nat) : (E.put n).length ≤ 4 := by
  unfold E.put
  split
  · have := U.enc_length n
    rw [this]
    repeat' split
    all_goals omega
  · simp
theorem numR_le (b m : Nat) (l : List UInt8) : (E.numR b m l).length ≤ 4 := by
  unfold E.numR
  split
  · exact put_le _
  · simp
theorem word_le (l : List UInt8) : (E.word l).length ≤ 4 := by
  unfold E.word
  repeat' split
  all_goals simp
theorem nameR_le (l : List UInt8) : (E.nameR l).length ≤ 4 := by
  unfold E.nameR
  split
  · exact numR_le _ _ _
  · exact numR_le _ _ _
  · exact word_le _
theorem refR_out_le (l : List UInt8) : (E.refR l).1.length ≤ 4 := by
  cases l with
  | nil => simp [E.refR]
  | cons c t =>
    simp only [E.refR]
    by_cases h : c = 38
    · rw [if_pos h]
      cases E.cut t with
      | none => simp
      | some nm =>
        simp only
        split
        · simp
        · exact nameR_le nm
    · rw [if_neg h]; simp
theorem nx_le4 (l : List UInt8) : (U.nx l).2 ≤ 4 := by
  by_cases h : (U.nx l).2 = 0
  · omega
  · exact (U.nx_good l h).2.2.2.2.2.2.2.1
theorem stepR_out_le (l : List UInt8) : (E.stepR l).1.length ≤ 4 := by
  unfold E.stepR
  split
  · exact refR_out_le l
  · split
    · simp
    · split
      · simp
      · have := nx_le4 l
        simp only [List.length_take]
        omega
theorem slice_from (a0 : ByteArray) (p : Nat) (h : p ≤ a0.size) (W : World) :
    (Instr.slice 9 (.string a0) (some (.int .i64 (p : Int))) none none).run Tryz.prog W = .ok (.string ⟨(a0.data.toList.drop p).toArray⟩) W := by
  rw [run_slice_string_from_if W 9 _ .i64 _ Tryz.underlying9, if_pos ⟨by omega, by omega⟩]
  have e : a0.extract (p : Int).toNat a0.size = ⟨(a0.data.toList.drop p).toArray⟩ := by
    rw [bytes_eq, Lib.extract_data, Int.toNat_natCast, List.take_of_length_le]
    rw [List.length_drop, ← Lib.size_eq]
    omega
  rw [e]
theorem slice_mid (a0 : ByteArray) (p q : Nat) (h : p ≤ q) (h2 : q ≤ a0.size) (W : World) :
    (Instr.slice 9 (.string a0) (some (.int .i64 (p : Int))) (some (.int .i64 (q : Int))) none).run Tryz.prog W = .ok (.string ⟨((a0.data.toList.drop p).take (q - p)).toArray⟩) W := by
  have e : a0.extract (p : Int).toNat (q : Int).toNat = ⟨((a0.data.toList.drop p).take (q - p)).toArray⟩ := by
    rw [bytes_eq, Lib.extract_data, Int.toNat_natCast, Int.toNat_natCast]
  rw [run_slice_string (P := Tryz.prog) (w := W) 9 a0 .i64 .i64 p q Tryz.underlying9 (by omega) (by omega) (by omega), e]
theorem index_at (a0 : ByteArray) (p : Nat) (b : UInt8) (h : a0.data.toList[p]? = some b) (W : World) :
    (Instr.index 9 (.string a0) (.int .i64 (p : Int))).run Tryz.prog W = .ok (.int .u8 (b.toNat : Int)) W := by
  have hp : p < a0.size := by rw [Lib.size_eq]; exact (List.getElem?_eq_some_iff.mp h).1
  rw [run_index_string (P := Tryz.prog) (w := W) 9 a0 .i64 p Tryz.underlying9, dif_pos ⟨by omega, by omega⟩]
  have e : a0[(p : Int).toNat]'(by omega) = b := by
    have h2 := Lib.data_getElem? a0 p hp
    rw [h] at h2
    exact (Option.some.inj h2).symm
  rw [e]
theorem builder_below {T e : TypeId} {B b : Nat} {bs : List Value} {w w' : World} (h : Lib.IsBuilderF T e B b bs w) (hb : Below w.heap.size w w') : Lib.IsBuilderF T e B b bs w' := by
  have go : ∀ p, Lib.BuilderAtF T e B b p bs w → Lib.BuilderAtF T e B b p bs w' := by
    intro p hA
    have hlt := hA.lt
    obtain ⟨hB, v, hbk, hown, hne⟩ := hA
    exact ⟨hB, v, (hb.block b hlt).trans hbk, hown.kept (row := none) ⟨hb.os, hb.tape, hb.output, hb.size, fun k hk _ => hb.block k hk⟩ (by cases hv : v.ownBlock <;> simp), hne⟩
  rcases h with h | h
  · exact .inl (go _ h)
  · exact .inr (go _ h)
theorem cells_snoc (out c : List UInt8) : Lib.byteCells out ++ Lib.strCells ⟨c.toArray⟩ = Lib.byteCells (out ++ c) := by
  simp [Lib.byteCells, Lib.strCells]
theorem mk_size (l : List UInt8) : (⟨l.toArray⟩ : ByteArray).size = l.length := by simp [ByteArray.size]
set_option maxHeartbeats 4000000 in
set_option maxRecDepth 100000 in
theorem decode_walk (a0 : ByteArray) (w : World) (hG : Glob w) (hz : a0.size ≤ 1000000000) (o : List UInt8) (r2 r3 : Int) (HO : Hid (decR a0.data.toList = (o, r2, r3))) :
    Calls Tryz.prog 42 #[.string a0] w fun e w' => e = .returned (.tuple #[.string ⟨o.toArray⟩, .int .i64 r2, .int .i64 r3]) ∧ Below w.heap.size w w' := by
  have HG := Lib.hid hG
  clear hG
  have HLEN : Hid (a0.data.toList.length = a0.size) := (Lib.size_eq a0).symm
  go_enter Tryz.func42, Tryz.ntmps42
  go_wp2
  go_loopw [3] (fun i wr => ∃ (pos : Nat) (out : List UInt8), i = .int .i64 (pos : Int) ∧ pos ≤ a0.size ∧ w.heap.size < wr.heap.size ∧ Below w.heap.size w wr ∧
      Lib.IsBuilderF 113 5 w.heap.size w.heap.size (Lib.byteCells out) wr ∧
      Hid (out.length ≤ 4 * pos ∧ E.D a0.data.toList = (out ++ (E.D (a0.data.toList.drop pos)).1, pos + (E.D (a0.data.toList.drop pos)).2.1, (E.D (a0.data.toList.drop pos)).2.2)))
    (fun i _ => a0.size - (intOf i).toNat)
  case atStart =>
    refine ⟨0, [], rfl, by omega, ?_, (Below.refl _ w).alloc (Nat.le_refl _) _, ?_, by simp, by simp⟩
    · show w.heap.size < (w.heap.push _).size
      simp
    · exact Lib.IsBuilderF.of (Lib.fresh_isBuilder 113 5 w)
  case round =>
    obtain ⟨pos, out, rfl, hpos, hsz, hbw, hbu, HR⟩ := hrel
    have HB := Lib.hid hbu
    clear hbu
    by_cases hp : pos < a0.size
    · have hsl := slice_from a0 pos (by omega)
      obtain ⟨rest, hrest⟩ : ∃ rest, rest = a0.data.toList.drop pos := ⟨_, rfl⟩
      rw [← hrest] at HR hsl
      have hrl : rest.length = a0.size - pos := by rw [hrest, List.length_drop, HLEN.out]
      have hne : rest ≠ [] := by intro e; rw [e] at hrl; simp at hrl; omega
      obtain ⟨b, rt, hbr⟩ : ∃ b rt, rest = b :: rt := by
        cases rest with
        | nil => exact absurd rfl hne
        | cons b rt => exact ⟨b, rt, rfl⟩
      have hix := index_at a0 pos b (by
        have : (a0.data.toList.drop pos)[0]? = some b := by rw [← hrest, hbr]; rfl
        rwa [List.getElem?_drop, Nat.add_zero] at this)
      have hle := E.refR_le rest
      have hrz : (⟨rest.toArray⟩ : ByteArray).size ≤ 140737488351232 := by rw [mk_size]; omega
      have HF := Lib.hid (fun W hg => entity_Reference.calls ⟨rest.toArray⟩ ⟨(E.refR rest).1.toArray⟩ ((E.refR rest).2 : Int) W hg (by unfold entity_Reference.f; rw [if_pos hrz]))
      have hdrop : ∀ n, rest.drop n = a0.data.toList.drop (pos + n) := fun n => by rw [hrest, List.drop_drop]
      have good : ∀ (c : List UInt8) (n : Nat), E.stepR rest = (c, n, 0) → Hid (1 ≤ n ∧ pos + n ≤ a0.size ∧ c.length ≤ 4 ∧ (out ++ c).length ≤ 4 * (pos + n) ∧ E.D a0.data.toList = ((out ++ c) ++ (E.D (a0.data.toList.drop (pos + n))).1, (pos + n) + (E.D (a0.data.toList.drop (pos + n))).2.1, (E.D (a0.data.toList.drop (pos + n))).2.2)) := by
        intro c n hs
        have h0 : (E.stepR rest).2.2 = 0 := by rw [hs]
        have h1 := E.stepR_pos rest h0
        have h2 := E.stepR_le rest
        have h3 := stepR_out_le rest
        have h4 := E.D_go rest hne h0
        rw [hs] at h1 h2 h3 h4
        simp only at h1 h2 h3 h4
        obtain ⟨h5, h6⟩ := HR.out
        refine ⟨h1, by omega, h3, by rw [List.length_append]; omega, ?_⟩
        rw [h6, h4, ← hdrop]
        simp only [List.append_assoc, Nat.add_assoc]
      have bad : ∀ (e : Nat), e ≠ 0 → (E.stepR rest).2.2 = e → Hid (o = [] ∧ r2 = (pos : Int) ∧ r3 = (e : Int)) := by
        intro e he hs
        have h4 := E.D_bad rest hne (by rw [hs]; exact he)
        obtain ⟨h5, h6⟩ := HR.out
        rw [h4, hs] at h6
        simp only at h6
        have h2 := HO.out
        unfold decR at h2
        rw [h6] at h2
        simp only [if_neg he] at h2
        simp only [Prod.mk.injEq] at h2
        obtain ⟨h7, h8, h9⟩ := h2
        exact ⟨h7.symm, by rw [← h8]; simp, h9.symm⟩
      have HGD := Lib.hid good
      have HBD := Lib.hid bad
      clear good bad hdrop
      by_cases hn : (E.refR rest).2 = 0
      · have HF0 : Hid (∀ W, Glob W → Calls Tryz.prog 64 #[.string ⟨rest.toArray⟩] W fun e w' => e = .returned (.tuple #[.string ⟨(E.refR rest).1.toArray⟩, .int .i64 0]) ∧ Below W.heap.size W w') := by
          have := HF.out
          rw [hn] at this
          exact this
        clear HF
        by_cases h38 : b = 38
        · subst h38
          have hix2 : ∀ W, (Instr.index 9 (.string a0) (.int .i64 (pos : Int))).run Tryz.prog W = .ok (.int .u8 38) W := hix
          obtain ⟨rfl, rfl, rfl⟩ := (HBD.out 30 (by decide) (by unfold E.stepR; rw [if_neg (by rw [hn]; decide), if_pos (by rw [hbr]; rfl)])).out
          clear hix hbr hrest hne hle hn HBD HGD HR HO
          generalize (E.refR rest).1 = c at HF0
          go_wp2_with (first | (go_at_call 64; refine (HF0.out _ (HG.out.of_below hbw)).mono ?_; rintro e w1 ⟨rfl, hB1⟩))
          go_ret3
          exact ⟨rfl, hbw.trans (hB1.mono hbw.size)⟩
        · have i38 : ((b.toNat : Int) == 38) = false := by
            simp only [beq_eq_false_iff_ne]
            intro e
            exact h38 (UInt8.toNat_inj.mp (by have : (38 : UInt8).toNat = 38 := rfl; omega))
          have hh : rest.head? ≠ some 38 := by rw [hbr]; intro e; exact h38 (by simpa using e)
          have hnx := U.utf_Next_eq ⟨rest.toArray⟩ hrz
          have hst : E.stepR rest = if (U.nx rest).2 = 0 then ([], 0, 10) else (rest.take (U.nx rest).2, (U.nx rest).2, 0) := by
            unfold E.stepR
            rw [if_neg (by rw [hn]; decide), if_neg hh]
          have hnr : U.nextR (U.bl ⟨rest.toArray⟩) = U.nextR rest := rfl
          rw [hnr] at hnx
          by_cases hx0 : (U.nx rest).2 = 0
          · rw [U.nextR_err rest hne hx0] at hnx
            rw [if_pos hx0] at hst
            have HNX := Lib.hid (fun W hg => PU.utf_Next.calls ⟨rest.toArray⟩ 0 0 10 W hg hnx)
            obtain ⟨rfl, rfl, rfl⟩ := (HBD.out 10 (by decide) (by rw [hst])).out
            clear hbr hrest hne hle hn HBD HGD HR HO hst hnx hnr hh h38
            generalize (E.refR rest).1 = c at HF0
            go_wp2_with (first | (go_at_call 64; refine (HF0.out _ (HG.out.of_below hbw)).mono ?_; rintro e w1 ⟨rfl, hB1⟩) | (go_at_call 65; refine (HNX.out _ (HG.out.of_below (hbw.trans (hB1.mono hbw.size)))).mono ?_; rintro e w2 ⟨rfl, hB2⟩))
            go_ret3
            exact ⟨rfl, (hbw.trans (hB1.mono hbw.size)).trans (hB2.mono (Nat.le_trans hbw.size hB1.size))⟩
          · rw [U.nextR_ok rest hx0] at hnx
            rw [if_neg hx0] at hst
            have HNX := Lib.hid (fun W hg => PU.utf_Next.calls ⟨rest.toArray⟩ ((U.nx rest).1 : Int) ((U.nx rest).2 : Int) 0 W hg hnx)
            have HN := HGD.out _ _ hst
            obtain ⟨n1, n2, n3, n4, n5⟩ := HN.out
            have hs2 : ∀ W, (Instr.slice 9 (.string a0) (some (.int .i64 (pos : Int))) (some (.int .i64 ((pos : Int) + ((U.nx rest).2 : Int)))) none).run Tryz.prog W = .ok (.string ⟨(rest.take (U.nx rest).2).toArray⟩) W := fun W => by
              have := slice_mid a0 pos (pos + (U.nx rest).2) (by omega) n2 W
              rw [← hrest, Nat.add_sub_cancel_left, Int.natCast_add] at this
              exact this
            have HN5 := Lib.hid n5
            clear n5 HN hbr hrest hne hle hn HBD HGD hst hnx hnr hh h38
            generalize (E.refR rest).1 = c0 at HF0
            generalize rest.take (U.nx rest).2 = c at n3 n4 HN5 hs2
            generalize U.nx rest = q at HNX hx0 n1 n2 n4 HN5 hs2
            obtain ⟨x, n⟩ := q
            simp only at HNX hx0 n1 n2 n4 HN5 hs2
            go_wp2_with (first
              | (go_at_call 64; refine (HF0.out _ (HG.out.of_below hbw)).mono ?_; rintro e w1 ⟨rfl, hB1⟩)
              | (go_at_call 65; refine (HNX.out _ (HG.out.of_below (hbw.trans (hB1.mono hbw.size)))).mono ?_; rintro e w3 ⟨rfl, hB3⟩; have hb1 := builder_below (builder_below HB.out hB1) hB3; have hz1 : w.heap.size ≤ w3.heap.size := Nat.le_trans (Nat.le_trans hbw.size hB1.size) hB3.size; have HW := Lib.hid (writeString_k w.heap.size w.heap.size (Lib.byteCells out) ⟨c.toArray⟩ w3 hb1 (by rw [mk_size]; have := HR.out.1; simp [Lib.byteCells]; omega) hz1))
              | (go_at_call 66; refine HW.out.mono ?_; rintro e w2 ⟨rfl, h1, h2, h3⟩))
            refine ⟨⟨pos + n, out ++ c, by push_cast; rfl, n2, ?_, ((hbw.trans (hB1.mono hbw.size)).trans (hB3.mono (Nat.le_trans hbw.size hB1.size))).trans h2, .inr (by rw [← cells_snoc]; exact h1), n4, HN5.out⟩, ?_⟩
            · have := h2.size
              have := hB1.size
              have := hB3.size
              omega
            · simp [intOf]
              omega
      · have hstep : E.stepR rest = ((E.refR rest).1, (E.refR rest).2, 0) := by unfold E.stepR; rw [if_pos hn]
        have HN := HGD.out _ _ hstep
        clear hstep hix hbr hrest hle hne
        generalize E.refR rest = q at HF HN hn
        obtain ⟨c, n⟩ := q
        simp only at HF HN hn
        obtain ⟨n1, n2, n3, n4, n5⟩ := HN.out
        have HN5 := Lib.hid n5
        clear n5 HN
        have hn0 : ((n : Int) == 0) = false := by simp; omega
        go_wp2_with (first
          | (go_at_call 64; refine (HF.out _ (HG.out.of_below hbw)).mono ?_; rintro e w1 ⟨rfl, hB1⟩; have hb1 := builder_below HB.out hB1; have hz1 : w.heap.size ≤ w1.heap.size := Nat.le_trans hbw.size hB1.size; have HW := Lib.hid (writeString_k w.heap.size w.heap.size (Lib.byteCells out) ⟨c.toArray⟩ w1 hb1 (by rw [mk_size]; have := HR.out.1; simp [Lib.byteCells]; omega) hz1))
          | (go_at_call 66; refine HW.out.mono ?_; rintro e w2 ⟨rfl, h1, h2, h3⟩))
        refine ⟨⟨pos + n, out ++ c, by push_cast; rfl, n2, ?_, (hbw.trans (hB1.mono hbw.size)).trans h2, .inr (by rw [← cells_snoc]; exact h1), n4, HN5.out⟩, ?_⟩
        · have := h2.size
          have := hB1.size
          omega
        · simp [intOf]
          omega
    · obtain rfl : pos = a0.size := by omega
      have hres : out = o ∧ r2 = 0 ∧ r3 = 0 := by
        have h1 := HR.out.2
        rw [List.drop_eq_nil_of_le (by rw [HLEN.out]; omega), E.D_nil] at h1
        have h2 := HO.out
        unfold decR at h2
        rw [h1] at h2
        simp at h2
        exact ⟨h2.1, h2.2.1.symm, h2.2.2.symm⟩
      obtain ⟨rfl, rfl, rfl⟩ := hres
      have HS := Lib.hid (Tryz.Builder_String_any_k w.heap.size w.heap.size out wr HB.out (by omega))
      clear HR HO
      go_wp2_with (go_at_call 67; refine HS.out.mono ?_; rintro e w' ⟨rfl, h1, h2, h3⟩)
      go_ret3
      exact ⟨rfl, hbw.trans h2⟩
theorem entity_Decode.calls (a0 : ByteArray) (r1 : ByteArray) (r2 r3 : Int) (w : World) (hG : Glob w) (h : entity_Decode.f a0 = some (r1, r2, r3)) :
    Calls Tryz.prog 42 #[.string a0] w fun e w' => e = .returned (.tuple #[.string r1, .int .i64 r2, .int .i64 r3]) ∧ Below w.heap.size w w' := by
  unfold entity_Decode.f at h
  split at h
  rotate_left
  · cases h
  rename_i hz
  simp only [Option.some.injEq, Prod.mk.injEq] at h
  obtain ⟨rfl, rfl, rfl⟩ := h
  exact decode_walk a0 w hG hz _ _ _ rfl
end Go.Proofs.YtpknhgejnfmijaaGreatDoor.X
