/- A text of the claim, with what no other text of it needs taken out. -/
import Derived.Test.YtpknhgejnfmijaaDoorUW2
namespace Go.Proofs.YtpknhgejnfmijaaDoor.X
open Go.RowKit Go.Proofs.YtpknhgejnfmijaaDoorW.PrintWords
set_option linter.unusedVariables false
set_option linter.unusedSimpArgs false
def eachN : Nat → List UInt8 → Int → Int → Int → Int → Int × Int × Int
  | 0, _, _, c, n, b => (c, n, b)
  | k + 1, l, m, c, n, b => if n = m ∨ (U.nx l).2 = 0 then (c, n, b) else eachN k (l.drop (U.nx l).2) m (U.nx l).1 (n + 1) (b + (U.nx l).2)
def utf_each.f (a0 : ByteArray) (a1 : Int) : Option (Int × Int × Int) :=
  if a0.size ≤ 140737488351232 then some (eachN (a0.size + 1) a0.data.toList a1 0 0 0) else none
theorem isI_nat (c : Nat) : isI (c : Int) = U.isx c := by
  rw [Bool.eq_iff_iff, U.isx_iff]
  simp only [isI, Bool.or_eq_true, decide_eq_true_eq]
  omega
theorem eachN_stop (k : Nat) (l : List UInt8) (m c n b : Int) (h : n = m ∨ (U.nx l).2 = 0) : eachN (k + 1) l m c n b = (c, n, b) := by
  simp only [eachN]
  rw [if_pos h]
theorem eachN_go (k : Nat) (l : List UInt8) (m c n b : Int) (h1 : ¬ n = m) (h2 : (U.nx l).2 ≠ 0) :
    eachN (k + 1) l m c n b = eachN k (l.drop (U.nx l).2) m (U.nx l).1 (n + 1) (b + (U.nx l).2) := by
  simp only [eachN]
  rw [if_neg (by intro h; rcases h with h | h <;> contradiction)]
set_option maxHeartbeats 1000000 in
set_option maxRecDepth 100000 in
theorem utf_each.calls (a0 : ByteArray) (a1 : Int) (r1 r2 r3 : Int) (w : World) (hG : Glob w) (h : utf_each.f a0 a1 = some (r1, r2, r3)) :
    Calls Tryd.prog 11 #[.string a0, .int .i64 a1] w fun e w' => e = .returned (.tuple #[.int .i32 r1, .int .i64 r2, .int .i64 r3]) ∧ Below w.heap.size w w' := by
  unfold utf_each.f at h
  split at h
  rotate_left
  · cases h
  rename_i hs
  have HE : Hid (eachN (a0.size + 1) a0.data.toList a1 0 0 0 = (r1, r2, r3)) := Option.some.inj h
  clear h
  go_enter Tryd.func11, Tryd.ntmps11
  go_wp2
  go_loopw [4, 5, 6] (fun c n b wr => ∃ (pos k : Nat) (c' n' : Int), c = .int .i32 c' ∧ n = .int .i64 n' ∧ b = .int .i64 (pos : Int) ∧ 0 ≤ n' ∧ n' ≤ pos ∧ pos ≤ a0.size ∧ a0.size < pos + k ∧
      wr.heap[w.heap.size]? = some (.stringIter a0 pos) ∧ Below w.heap.size w wr ∧ Hid (eachN k (a0.data.toList.drop pos) a1 c' n' pos = (r1, r2, r3))) (fun _ _ b _ => a0.size - (intOf b).toNat)
  case atStart =>
    refine ⟨0, a0.size + 1, 0, 0, rfl, rfl, rfl, by omega, by omega, by omega, by omega, ?_, (Below.refl _ w).alloc (Nat.le_refl _) _, HE⟩
    have := World.iter_heap w a0 0
    simpa using this
  case round =>
    obtain ⟨pos, k, c', n', rfl, rfl, rfl, hn0, hn1, hpos, hk, hit, hbw, HR⟩ := hrel
    clear HE
    have hsz : w.heap.size < wr.heap.size := (Array.getElem?_eq_some_iff.1 hit).1
    by_cases hp : pos < a0.size
    · obtain ⟨k, rfl⟩ : ∃ m, k = m + 1 := ⟨k - 1, by omega⟩
      have hnx : ∀ ty, (Instr.next (.pointer (some ⟨w.heap.size, 0, none⟩)) true ty).run Tryd.prog wr = _ := fun ty => Lib.run_next_any_at wr w.heap.size a0 pos ty hit hp
      have hit2 := Lib.iterAt_heap wr w.heap.size a0 pos (pos + (Utf8.decode a0 pos).2) hit
      have hbw2 := Lib.below_iterAt hbw (k := w.heap.size) (by omega) a0 (pos + (Utf8.decode a0 pos).2)
      have hsz2 : w.heap.size < (wr.iterAt w.heap.size a0 (pos + (Utf8.decode a0 pos).2)).heap.size := by rw [Lib.iterAt_size]; omega
      have HG := Lib.hid (hG.of_below hbw2)
      have hst : n' = a1 ∨ (U.nx (a0.data.toList.drop pos)).2 = 0 → (c', n', (pos : Int)) = (r1, r2, r3) := fun hh => (eachN_stop k _ a1 c' n' pos hh).symm.trans HR.out
      have HST := Lib.hid hst
      clear hst
      have hd := U.decode_dec a0 pos
      have HD := Lib.hid hd
      clear hd
      by_cases hm : n' = a1
      · obtain ⟨rfl, rfl, rfl⟩ : c' = r1 ∧ n' = r2 ∧ (pos : Int) = r3 := by have := HST.out (.inl hm); simpa using this
        subst hm
        go_wp2
        go_ret3
        exact ⟨rfl, hbw2⟩
      · have hmb : (n' == a1) = false := by simpa using hm
        have HM := Lib.hid hm
        clear hm
        obtain ⟨x, hx⟩ : ∃ x, x = (Utf8.decode a0 pos).1 := ⟨_, rfl⟩
        have HX := Lib.hid hx
        by_cases hi : U.isx x = true
        · obtain ⟨wv, hwv⟩ : ∃ wv : ByteArray, wv = ⟨(U.enc x).toArray⟩ := ⟨_, rfl⟩
          have HP : Hid (utf_Put.f (x : Int) = some wv) := by show utf_Put.f (x : Int) = some wv; rw [utf_Put.f, isI_nat, if_pos hi, U.encode_of x hi, hwv]
          have CP := Lib.hid (utf_Put.calls x wv _ HG.out HP.out)
          rw [← hx] at hnx
          clear hx
          have HW := Lib.hid hwv
          clear hwv
          have hne : ¬ wv.toList = [] := by
            have := U.enc_pos x
            intro e
            rw [HW.out, ByteArray.toList_mk] at e
            rw [e] at this
            simp at this
          have hs4 : wv.size ≤ 4 := by
            have := U.enc_length x
            rw [HW.out]
            show (U.enc x).toArray.size ≤ 4
            rw [List.size_toArray, this]
            repeat' split
            all_goals omega
          have HXI := Lib.hid hi
          have hxd : x = (U.dec (a0.data.toList.drop pos)).1 := by rw [HX.out, HD.out]
          have HXD := Lib.hid hxd
          clear hxd hi
          have hnil : a0.data.toList.drop pos ≠ [] := by
            intro e
            have := congrArg List.length e
            simp at this
            omega
          have HNIL := Lib.hid hnil
          clear hnil
          by_cases hl : (wv.size : Int) ≤ (a0.size : Int) - (pos : Int)
          · obtain ⟨u, hu⟩ : ∃ u, u = a0.extract pos (pos + wv.size) := ⟨_, rfl⟩
            have hsl : ∀ W : World, (Instr.slice 9 (.string a0) (some (.int .i64 (pos : Int))) (some (.int .i64 ((pos : Int) + (wv.size : Int)))) none).run Tryd.prog W = .ok (.string u) W := fun W => by
              rw [run_slice_string W 9 a0 .i64 .i64 _ _ Tryd.underlying9 (by omega) (by omega) (by omega), hu]
              congr 3
            have hul : u.data.toList = (a0.data.toList.drop pos).take wv.size := by rw [hu, ByteArray.data_extract]; simp
            have HU := Lib.hid hul
            clear hul hu
            by_cases heq : u = wv
            · have HQ : Hid ((U.nx (a0.data.toList.drop pos)).2 ≠ 0) := by
                show (U.nx (a0.data.toList.drop pos)).2 ≠ 0
                rw [← U.step_iff _ HNIL.out, ← HXD.out]
                refine ⟨HXI.out, ?_⟩
                have e1 := HU.out
                rw [heq, HW.out] at e1
                have e2 : (U.enc x).toArray.size = (U.enc x).length := by simp
                have e3 : (ByteArray.mk (U.enc x).toArray).size = (U.enc x).length := e2
                rw [e3] at e1
                exact e1.symm
              subst heq
              have HN := Lib.hid (U.nx_good _ HQ.out)
              have HGO := Lib.hid (eachN_go k _ a1 c' n' pos HM.out HQ.out)
              have hwn : u.size = (U.nx (a0.data.toList.drop pos)).2 := by
                obtain ⟨_, hdn, _, _, h5, _⟩ := HN.out
                have e3 : u.size = (U.enc x).length := by rw [HW.out]; show (U.enc x).toArray.size = _; simp
                rw [e3, h5, HXD.out, hdn]
              have HWN := Lib.hid hwn
              clear hwn
              have hxn : (x : Int) = ((U.nx (a0.data.toList.drop pos)).1 : Int) := by
                obtain ⟨_, hdn, _⟩ := HN.out
                rw [HXD.out, hdn]
              have HXN := Lib.hid hxn
              clear hxn
              have hdw : (Utf8.decode a0 pos).2 = u.size := by
                obtain ⟨_, hdn, _⟩ := HN.out
                rw [HD.out, hdn, HWN.out]
              have HDW := Lib.hid hdw
              clear hdw
              have hdec : decide ((a0.size : Int) - (pos : Int) < (u.size : Int)) = false := decide_eq_false (by omega)
              have hemp : u.toList.isEmpty = false := by
                cases hh : u.toList with
                | nil => exact absurd hh hne
                | cons a b => rfl
              go_wp2_with (go_at_call 26; refine CP.out.mono ?_; rintro e w1 ⟨rfl, hb1⟩)
              have hit3 : w1.heap[w.heap.size]? = some (.stringIter a0 (pos + u.size)) := by
                rw [hb1.block _ hsz2, hit2, HDW.out]
              have hbw3 := hbw2.trans (hb1.mono (Nat.le_of_lt hsz2))
              have HR2 : Hid (eachN k (a0.data.toList.drop (pos + u.size)) a1 (x : Int) (n' + 1) ((pos : Int) + (u.size : Int)) = (r1, r2, r3)) := by
                show eachN k (a0.data.toList.drop (pos + u.size)) a1 (x : Int) (n' + 1) ((pos : Int) + (u.size : Int)) = (r1, r2, r3)
                rw [← HR.out, HGO.out, HXN.out, HWN.out, List.drop_drop]
              have hup : 1 ≤ u.size := by rw [HWN.out]; exact HN.out.2.2.2.2.2.2.1
              refine ⟨⟨pos + u.size, k, (x : Int), n' + 1, rfl, rfl, by go_num, by omega, by omega, by omega, by omega, hit3, hbw3, HR2⟩, ?_⟩
              simp only [intOf]
              omega
            · have HQ : Hid ((U.nx (a0.data.toList.drop pos)).2 = 0) := by
                show (U.nx (a0.data.toList.drop pos)).2 = 0
                by_cases h0 : (U.nx (a0.data.toList.drop pos)).2 = 0
                · exact h0
                · exfalso
                  rw [← Ne, ← U.step_iff _ HNIL.out, ← HXD.out] at h0
                  apply heq
                  have e1 := HU.out
                  have e3 : wv.size = (U.enc x).length := by rw [HW.out]; show (U.enc x).toArray.size = _; simp
                  rw [e3, h0.2] at e1
                  rw [HW.out, ← e1]
              have hne2 : (u.toList == wv.toList) = false := by
                rw [beq_eq_false_iff_ne, ByteArray.toList_eq, ByteArray.toList_eq]
                intro e
                apply heq
                obtain ⟨⟨l1⟩⟩ := u
                obtain ⟨⟨l2⟩⟩ := wv
                simpa using e
              obtain ⟨rfl, rfl, rfl⟩ : c' = r1 ∧ n' = r2 ∧ (pos : Int) = r3 := by have := HST.out (.inr HQ.out); simpa using this
              clear heq
              go_wp2_with (go_at_call 26; refine CP.out.mono ?_; rintro e w1 ⟨rfl, hb1⟩)
              go_ret3
              exact ⟨rfl, hbw2.trans (hb1.mono (Nat.le_of_lt hsz2))⟩
          · have HQ : Hid ((U.nx (a0.data.toList.drop pos)).2 = 0) := by
              show (U.nx (a0.data.toList.drop pos)).2 = 0
              by_cases h0 : (U.nx (a0.data.toList.drop pos)).2 = 0
              · exact h0
              · exfalso
                rw [← Ne, ← U.step_iff _ HNIL.out, ← HXD.out] at h0
                have e1 := congrArg List.length h0.2
                have e3 : wv.size = (U.enc x).length := by rw [HW.out]; show (U.enc x).toArray.size = _; simp
                rw [List.length_take, List.length_drop, ← e3] at e1
                simp only [Array.length_toList] at e1
                have e4 : a0.data.size = a0.size := rfl
                omega
            obtain ⟨rfl, rfl, rfl⟩ : c' = r1 ∧ n' = r2 ∧ (pos : Int) = r3 := by have := HST.out (.inr HQ.out); simpa using this
            go_wp2_with (go_at_call 26; refine CP.out.mono ?_; rintro e w1 ⟨rfl, hb1⟩)
            go_ret3
            exact ⟨rfl, hbw2.trans (hb1.mono (Nat.le_of_lt hsz2))⟩
        · have HXI : Hid (U.isx x = false) := by show U.isx x = false; simpa using hi
          have HP : Hid (utf_Put.f (x : Int) = some ⟨#[]⟩) := by show utf_Put.f (x : Int) = some ⟨#[]⟩; rw [utf_Put.f, isI_nat, if_neg hi]
          have CP := Lib.hid (utf_Put.calls x ⟨#[]⟩ _ HG.out HP.out)
          have HQ : Hid ((U.nx (a0.data.toList.drop pos)).2 = 0) := by
            show (U.nx (a0.data.toList.drop pos)).2 = 0
            have hxd : x = (U.dec (a0.data.toList.drop pos)).1 := by rw [HX.out, HD.out]
            unfold U.nx
            split
            · rfl
            · rw [if_neg]
              intro hh
              rw [← hxd, HXI.out] at hh
              exact absurd hh.1 (by simp)
          obtain ⟨rfl, rfl, rfl⟩ : c' = r1 ∧ n' = r2 ∧ (pos : Int) = r3 := by have := HST.out (.inr HQ.out); simpa using this
          rw [← hx] at hnx
          clear hx hi
          go_wp2_with (go_at_call 26; refine CP.out.mono ?_; rintro e w1 ⟨rfl, hb1⟩)
          go_ret3
          exact ⟨rfl, hbw2.trans (hb1.mono (Nat.le_of_lt hsz2))⟩
    · have hnx : ∀ ty, (Instr.next (.pointer (some ⟨w.heap.size, 0, none⟩)) true ty).run Tryd.prog wr = _ := fun ty => Lib.run_next_end_at wr w.heap.size a0 pos ty hit hp
      obtain ⟨k, rfl⟩ : ∃ m, k = m + 1 := ⟨k - 1, by omega⟩
      have hst : (c', n', (pos : Int)) = (r1, r2, r3) := (eachN_stop k _ a1 c' n' pos (.inr (by rw [List.drop_of_length_le (by simp; omega)]; rfl))).symm.trans HR.out
      obtain ⟨rfl, rfl, rfl⟩ : c' = r1 ∧ n' = r2 ∧ (pos : Int) = r3 := by simpa using hst
      clear hst
      go_wp2
      go_ret3
      exact ⟨rfl, hbw⟩
end Go.Proofs.YtpknhgejnfmijaaDoor.X
