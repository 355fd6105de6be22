/- A text of the claim, with what no other text of it needs taken out. -/
import Derived.Test.YtjciehecedepeaaDoorEY
namespace Go.Proofs.YtjciehecedepeaaDoor.X
open Go.RowKit Go.Proofs.YtjciehecedepeaaDoorW.PrintWords Go.Proofs.YtjciehecedepeaaDoor
open Go.ChangeMaps (setBlock)
set_option linter.unusedVariables false
set_option linter.unusedSimpArgs false
theorem alloc2_size (wv : World) (o o2 : Obj) : ((wv.alloc o).alloc o2).heap.size = wv.heap.size + 1 + 1 := by
  show (Array.push (Array.push _ _) _).size = _
  simp
def Ready (n : Nat) (wv W : World) : Prop :=
  W.heap[n + 1]? = some (.cells #[.map (some n)] 55 (0, 0)) ∧ ∃ es ck, W.heap[n]? = some (.map es ck) ∧ SaidIs es (allSaid true) ∧ Below n wv W
theorem take_one (l : List UInt8) (k : Nat) (c : UInt8) (h : l[k]? = some c) : (⟨((l.drop k).take (k + 1 - k)).toArray⟩ : ByteArray) = ⟨#[c]⟩ := by
  rw [bytes_eq, Nat.add_sub_cancel_left]
  show (l.drop k).take 1 = [c]
  rw [List.take_one, List.head?_drop, h]
  rfl
theorem encC_le (attr : Bool) (c : UInt8) : (E.encC attr c).length ≤ 6 := by
  unfold E.encC
  repeat' split
  all_goals simp
theorem enR_le (attr : Bool) (l : List UInt8) : (E.enR attr l).length ≤ 6 * l.length := by
  induction l with
  | nil => simp [E.enR]
  | cons c l ih =>
    rw [E.enR_cons, List.length_append, List.length_cons]
    have := encC_le attr c
    omega
theorem enc_room (a0 : ByteArray) (hz : a0.size ≤ 1000000000) (attr : Bool) (k : Nat) (c : UInt8) : (E.enR attr (a0.data.toList.take k)).length + (wordOr (allSaid attr) ⟨#[c]⟩).length ≤ 140737488355328 := by
  rw [word_byte]
  have h1 := encC_le attr c
  have h2 := enR_le attr (a0.data.toList.take k)
  have h3 : (a0.data.toList.take k).length ≤ a0.size := by rw [List.length_take, ← Lib.size_eq]; omega
  omega
set_option maxHeartbeats 4000000 in
set_option maxRecDepth 100000 in
theorem encode_walk (a0 : ByteArray) (a1 : Bool) (w : World) (hG : Glob w) (hz : a0.size ≤ 1000000000) (p : Int) (hv : U.validR a0.data.toList = (p, 0)) :
    Calls Tryd.prog 13 #[.string a0, .bool a1] w fun e w' => e = .returned (.tuple #[.string ⟨(E.enR a1 a0.data.toList).toArray⟩, .int .i64 0]) ∧ Below w.heap.size w w' := by
  have HV := Lib.hid (fun W hg => PU.utf_Valid.calls a0 p 0 W hg (by rw [U.utf_Valid_eq a0 (by omega)]; exact congrArg some hv))
  have HM := Lib.hid names
  have hmm := @run_makeMap Tryd.prog
  clear hv
  go_enter Tryd.func13, Tryd.ntmps13
  go_wp2_with (first
    | (go_at_call 26; refine (HV.out _ hG).mono ?_; rintro e wv ⟨rfl, hBv⟩)
    | (go_at_call 23; refine (HM.out _).mono ?_; rintro e w1 ⟨rfl, hN, hz1, hB1⟩; obtain ⟨hS, hMp, hz2, hB2⟩ := start_facts wv w1 hB1 hz1; have hN2 : w1.heap[wv.heap.size + 1 + 1]? = some (.map namesEs 5) := (by rw [← hN, alloc2_size]); have hrg := run_range_map (P := Tryd.prog) w1 55 _ _ (wv.heap.size + 1 + 1) namesEs 5 Tryd.underlying55 hN2; have HZ := Lib.hid hz2; clear hz1 hz2 hB1 hN))
  go_loopw [] (fun wr => ∃ (seen : Array Nat) (es : Array MapEntry) (clock : Nat), wr.heap[w1.heap.size]? = some (.mapIter (some (wv.heap.size + 1 + 1)) 5 seen 5) ∧ wr.heap[wv.heap.size + 1 + 1]? = some (.map namesEs 5) ∧
      wr.heap[wv.heap.size + 1]? = some (.cells #[.map (some wv.heap.size)] 55 (0, 0)) ∧ wr.heap[wv.heap.size]? = some (.map es clock) ∧ w1.heap.size < wr.heap.size ∧ Below wv.heap.size wv wr ∧ Hid (SaidIs es (seenSaid a1 seen))) (fun wr => toCome w1.heap.size wr)
  case atStart =>
    refine ⟨#[], #[], 0, heap_alloc_new w1 _, ?_, ?_, ?_, ?_, hB2.alloc (by have := HZ.out; omega) _, ?_⟩
    · rw [heap_alloc_old _ _ (by have := HZ.out; omega)]
      exact hN2
    · rw [heap_alloc_old _ _ (by have := HZ.out; omega)]
      exact hS
    · rw [heap_alloc_old _ _ (by have := HZ.out; omega)]
      exact hMp
    · show w1.heap.size < (w1.heap.push _).size
      simp
    · have e : seenSaid a1 #[] = fun _ => none := by
        funext q
        simp [seenSaid]
      show SaidIs #[] (seenSaid a1 #[])
      rw [e]
      exact said_nil
  case round =>
    obtain ⟨seen, es, clock, hit, hnm, hsc, hmp, hlt, hbw, HS⟩ := hrel
    rcases next_names wr w1.heap.size (wv.heap.size + 1 + 1) seen 0 hit hnm with ⟨hall, hnx⟩ | ⟨i, nm, tx, W, hent, hcon, hit2, hoth, hWz, hWB, hnx, hen⟩
    · have hfull := said_full a1 seen es HS.out hall
      have hnoR : MapS.No es ⟨#[13]⟩ := by
        have := hfull.2 ⟨#[13]⟩
        have e : fullSaid a1 ⟨#[13]⟩ = none := by simp [fullSaid, one_eq]
        rw [e] at this
        exact this
      obtain ⟨WR, hupR, hmR, _, hBR, hoR, hzR⟩ := MapS.upd (w := wr) Tryd.underlying55 Tryd.underlying9 hmp hfull.1 hnoR (.agg #[.string ⟨#[35, 49, 51]⟩])
      have hsR : SaidIs (es.push ⟨.string ⟨#[13]⟩, .agg #[.string ⟨#[35, 49, 51]⟩], clock⟩) (saidR a1) := said_push hfull _ _ clock (by simp [fullSaid, one_eq]) (fun q => rfl)
      have hcR : wr.cell? ⟨wv.heap.size + 1, 0, none⟩ = some (.map (some wv.heap.size)) := by rw [Lib.cell_of_heap hsc]; rfl
      have hscR : WR.heap[wv.heap.size + 1]? = some (.cells #[.map (some wv.heap.size)] 55 (0, 0)) := (hoR _ (by omega)).trans hsc
      have hbR : Below wv.heap.size wv WR := hbw.trans (hBR _ (Nat.le_refl _))
      generalize es.push ⟨.string ⟨#[13]⟩, .agg #[.string ⟨#[35, 49, 51]⟩], clock⟩ = esR at hmR hsR
      generalize clock + 1 = ckR at hmR
      have hn1R : wv.heap.size + 1 < WR.heap.size := (Array.getElem?_eq_some_iff.1 hscR).1
      clear hoR hBR hfull hnoR HS hit hnm hsc hmp hlt hbw hzR hall
      cases a1 with
      | false =>
        obtain ⟨Ws, hWs⟩ : ∃ Ws, Ws = WR := ⟨_, rfl⟩
        have hscW := hscR
        have hmW := hmR
        have hBW := hbR
        have hn1 := hn1R
        have HSW : Hid (SaidIs esR (allSaid false)) := hsR
        clear hscR hmR hbR hn1R hsR
        rw [← hWs] at hupR hscW hmW hBW hn1
        clear hWs WR
        generalize esR = esF at hmW HSW
        generalize ckR = ckF at hmW
        clear esR ckR
        have hn0 : wv.heap.size < Ws.heap.size := by omega
        have HUP := Lib.hid hupR
        go_wp2
        go_loopw [56] (fun i wr => ∃ k : Nat, i = .int .i64 (k : Int) ∧ k ≤ a0.size ∧ Ws.heap.size < wr.heap.size ∧ Below Ws.heap.size Ws wr ∧ Lib.IsBuilderF 37 5 Ws.heap.size Ws.heap.size (Lib.byteCells (E.enR false (a0.data.toList.take k))) wr) (fun i _ => a0.size - (intOf i).toNat)
        case atStart =>
          refine ⟨0, rfl, by omega, ?_, (Below.refl _ Ws).alloc (Nat.le_refl _) _, Lib.IsBuilderF.of (Lib.fresh_isBuilder 37 5 Ws)⟩
          show Ws.heap.size < (Ws.heap.push _).size
          simp
        case round =>
          obtain ⟨k, rfl, hk, hlx, hbx, hbu⟩ := hrel
          have HB := Lib.hid hbu
          clear hbu
          by_cases hkk : k < a0.size
          · obtain ⟨c, hc⟩ : ∃ c, a0.data.toList[k]? = some c := ⟨_, Lib.data_getElem? a0 k hkk⟩
            have hsl : ∀ W, (Instr.slice 9 (.string a0) (some (.int .i64 (k : Int))) (some (.int .i64 ((k : Int) + 1))) none).run Tryd.prog W = .ok (.string ⟨#[c]⟩) W := fun W => by
              have := slice_mid a0 k (k + 1) (by omega) (by omega) W
              rw [take_one a0.data.toList k c hc] at this
              exact this
            have HE := Lib.hid (encByte (wv.heap.size + 1) wv.heap.size Ws.heap.size esF ckF (allSaid false) ⟨#[c]⟩ _ wr ((hbx.block _ hn1).trans hscW) ((hbx.block _ (by omega)).trans hmW) HSW.out (by omega) HB.out (enc_room a0 hz false k c))
            have HX : Hid (E.enR false (a0.data.toList.take k) ++ wordOr (allSaid false) ⟨#[c]⟩ = E.enR false (a0.data.toList.take (k + 1))) := by
              show _ = _
              rw [word_byte, List.take_add_one, hc, E.enR_append]
              simp [E.enR]
            clear hc
            go_wp2_with (go_at_call 27; refine HE.out.mono ?_; rintro e w3 ⟨rfl, hB3, hb3⟩)
            refine ⟨⟨k + 1, by push_cast; rfl, by omega, by have := hB3.size; omega, hbx.trans hB3, ?_⟩, by simp [intOf]; omega⟩
            rw [← HX.out]
            exact hb3
          · obtain rfl : k = a0.size := by omega
            have HS2 := Lib.hid (Tryd.Builder_String_any_k Ws.heap.size Ws.heap.size _ wr HB.out (by omega))
            rw [List.take_of_length_le (by rw [← Lib.size_eq]; exact Nat.le_refl _)] at HS2
            go_wp2_with (go_at_call 17; refine HS2.out.mono ?_; rintro e w3 ⟨rfl, h1, h2, h3⟩)
            go_ret2
            exact ⟨rfl, ((hBv.trans (hBW.mono hBv.size)).trans (hbx.mono (Nat.le_trans hBv.size hBW.size))).trans (h2.mono (Nat.le_trans hBv.size hBW.size))⟩
      | true =>
        have hcT : WR.cell? ⟨wv.heap.size + 1, 0, none⟩ = some (.map (some wv.heap.size)) := by rw [Lib.cell_of_heap hscR]; rfl
        have no9 : MapS.No esR ⟨#[9]⟩ := by
          have := hsR.2 ⟨#[9]⟩
          have e : saidR true ⟨#[9]⟩ = none := by simp [saidR, fullSaid, one_eq]
          rw [e] at this
          exact this
        have no10 : MapS.No esR ⟨#[10]⟩ := by
          have := hsR.2 ⟨#[10]⟩
          have e : saidR true ⟨#[10]⟩ = none := by simp [saidR, fullSaid, one_eq]
          rw [e] at this
          exact this
        obtain ⟨WT, upT, hmT, sT, hBT, hoT, hzT⟩ := MapS.upd (w := WR.drew) Tryd.underlying55 Tryd.underlying9 hmR hsR.1 no9 (.agg #[.string ⟨#[35, 57]⟩])
        obtain ⟨WN, upN, hmN, sN, hBN, hoN, hzN⟩ := MapS.upd (w := WR.drew) Tryd.underlying55 Tryd.underlying9 hmR hsR.1 no10 (.agg #[.string ⟨#[35, 49, 48]⟩])
        obtain ⟨WTN, upTN, hmTN, sTN, hBTN, hoTN, hzTN⟩ := MapS.upd (w := WT) Tryd.underlying55 Tryd.underlying9 hmT sT (MapS.no_push no10 (bytes_ne (by decide)) _ _) (.agg #[.string ⟨#[35, 49, 48]⟩])
        obtain ⟨WNT, upNT, hmNT, sNT, hBNT, hoNT, hzNT⟩ := MapS.upd (w := WN) Tryd.underlying55 Tryd.underlying9 hmN sN (MapS.no_push no9 (bytes_ne (by decide)) _ _) (.agg #[.string ⟨#[35, 57]⟩])
        have hcWT : WT.cell? ⟨wv.heap.size + 1, 0, none⟩ = some (.map (some wv.heap.size)) := by rw [Lib.cell_of_heap ((hoT _ (by omega)).trans hscR)]; rfl
        have hcWN : WN.cell? ⟨wv.heap.size + 1, 0, none⟩ = some (.map (some wv.heap.size)) := by rw [Lib.cell_of_heap ((hoN _ (by omega)).trans hscR)]; rfl
        have hTN : Hid (Ready wv.heap.size wv WTN) := by
          refine ⟨(hoTN _ (by omega)).trans ((hoT _ (by omega)).trans hscR), _, _, hmTN, ?_, (hbR.drew.trans (hBT _ (Nat.le_refl _))).trans (hBTN _ (Nat.le_refl _))⟩
          refine said_push (said_push hsR _ _ _ (f := saidR true) (g := saidT) (by simp [saidR, fullSaid, one_eq]) (fun q => rfl)) _ _ _ (f := saidT) (by simp [saidT, saidR, fullSaid, one_eq]) (fun q => rfl)
        have hNT : Hid (Ready wv.heap.size wv WNT) := by
          refine ⟨(hoNT _ (by omega)).trans ((hoN _ (by omega)).trans hscR), _, _, hmNT, ?_, (hbR.drew.trans (hBN _ (Nat.le_refl _))).trans (hBNT _ (Nat.le_refl _))⟩
          refine said_push (said_push hsR _ _ _ (f := saidR true) (g := saidN) (by simp [saidR, fullSaid, one_eq]) (fun q => rfl)) _ _ _ (f := saidN) (by simp [saidN, saidR, fullSaid, one_eq]) (fun q => ?_)
          show saidTN q = _
          unfold saidTN saidT saidN
          by_cases h9 : q = ⟨#[9]⟩
          · subst h9; simp [one_eq]
          · simp [h9]
        clear hmT sT hBT hoT hzT hmN sN hBN hoN hzN hmTN sTN hBTN hoTN hzTN hmNT sNT hBNT hoNT hzNT no9 no10 hsR hscR hmR hbR hn1R
        go_wp2
        go_region
        obtain ⟨hscW, esF, ckF, hmW, hsW, hBW⟩ := hTN.out
        have HSW := Lib.hid hsW
        have hn1 : wv.heap.size + 1 < WTN.heap.size := (Array.getElem?_eq_some_iff.1 hscW).1
        clear hTN hNT hsW
        obtain ⟨Ws, hWs⟩ : ∃ Ws, Ws = WTN := ⟨_, rfl⟩
        rw [← hWs] at hscW hmW hBW hn1 ⊢
        clear hWs
        go_wp2
        go_loopw [56] (fun i wr => ∃ k : Nat, i = .int .i64 (k : Int) ∧ k ≤ a0.size ∧ Ws.heap.size < wr.heap.size ∧ Below Ws.heap.size Ws wr ∧ Lib.IsBuilderF 37 5 Ws.heap.size Ws.heap.size (Lib.byteCells (E.enR true (a0.data.toList.take k))) wr) (fun i _ => a0.size - (intOf i).toNat)
        case atStart =>
          refine ⟨0, rfl, by omega, ?_, (Below.refl _ Ws).alloc (Nat.le_refl _) _, Lib.IsBuilderF.of (Lib.fresh_isBuilder 37 5 Ws)⟩
          show Ws.heap.size < (Ws.heap.push _).size
          simp
        case round =>
          obtain ⟨k, rfl, hk, hlx, hbx, hbu⟩ := hrel
          have HB := Lib.hid hbu
          clear hbu
          by_cases hkk : k < a0.size
          · obtain ⟨c, hc⟩ : ∃ c, a0.data.toList[k]? = some c := ⟨_, Lib.data_getElem? a0 k hkk⟩
            have hsl : ∀ W, (Instr.slice 9 (.string a0) (some (.int .i64 (k : Int))) (some (.int .i64 ((k : Int) + 1))) none).run Tryd.prog W = .ok (.string ⟨#[c]⟩) W := fun W => by
              have := slice_mid a0 k (k + 1) (by omega) (by omega) W
              rw [take_one a0.data.toList k c hc] at this
              exact this
            have HE := Lib.hid (encByte (wv.heap.size + 1) wv.heap.size Ws.heap.size esF ckF (allSaid true) ⟨#[c]⟩ _ wr ((hbx.block _ hn1).trans hscW) ((hbx.block _ (by omega)).trans hmW) HSW.out (by omega) HB.out (enc_room a0 hz true k c))
            have HX : Hid (E.enR true (a0.data.toList.take k) ++ wordOr (allSaid true) ⟨#[c]⟩ = E.enR true (a0.data.toList.take (k + 1))) := by
              show _ = _
              rw [word_byte, List.take_add_one, hc, E.enR_append]
              simp [E.enR]
            clear hc
            go_wp2_with (go_at_call 27; refine HE.out.mono ?_; rintro e w3 ⟨rfl, hB3, hb3⟩)
            refine ⟨⟨k + 1, by push_cast; rfl, by omega, by have := hB3.size; omega, hbx.trans hB3, ?_⟩, by simp [intOf]; omega⟩
            rw [← HX.out]
            exact hb3
          · obtain rfl : k = a0.size := by omega
            have HS2 := Lib.hid (Tryd.Builder_String_any_k Ws.heap.size Ws.heap.size _ wr HB.out (by omega))
            rw [List.take_of_length_le (by rw [← Lib.size_eq]; exact Nat.le_refl _)] at HS2
            go_wp2_with (go_at_call 17; refine HS2.out.mono ?_; rintro e w3 ⟨rfl, h1, h2, h3⟩)
            go_ret2
            exact ⟨rfl, ((hBv.trans (hBW.mono hBv.size)).trans (hbx.mono (Nat.le_trans hBv.size hBW.size))).trans (h2.mono (Nat.le_trans hBv.size hBW.size))⟩
    · have hnm2 : W.heap[wv.heap.size + 1 + 1]? = some (.map namesEs 5) := (hoth _ (by have := HZ.out; omega)).trans hnm
      have hsc2 : W.heap[wv.heap.size + 1]? = some (.cells #[.map (some wv.heap.size)] 55 (0, 0)) := (hoth _ (by have := HZ.out; omega)).trans hsc
      have hmp2 : W.heap[wv.heap.size]? = some (.map es clock) := (hoth _ (by have := HZ.out; omega)).trans hmp
      have hold : ∀ (o : Obj) (c : Nat), c < W.heap.size → (W.alloc o).heap[c]? = W.heap[c]? := fun o c hc => heap_alloc_old W o hc
      have hal : ∀ o : Obj, (W.alloc o).heap.size = W.heap.size + 1 := fun o => by show (W.heap.push o).size = _; simp
      have hcell : ∀ o : Obj, (W.alloc o).cell? ⟨wv.heap.size + 1, 0, none⟩ = some (.map (some wv.heap.size)) := fun o => by rw [Lib.cell_of_heap ((hold o _ (by have := HZ.out; omega)).trans hsc2)]; rfl
      have hBW2 : ∀ o : Obj, Below wv.heap.size wv (W.alloc o) := fun o => (hbw.trans (hWB _ (by have := HZ.out; omega))).alloc (by have := HZ.out; omega) o
      have hi5 := entry_lt hent
      have hmeas : ∀ X : World, X.heap[w1.heap.size]? = some (.mapIter (some (wv.heap.size + 1 + 1)) 5 (seen.push i) 5) → toCome w1.heap.size X < toCome w1.heap.size wr := fun X hX => by
        unfold toCome
        rw [hX, hit]
        exact cnt_push seen i hi5 hcon
      have hw0 : (zeroValue 54).run Tryd.prog W = .ok (.agg #[.string ⟨#[]⟩]) W := wordZero W
      clear hsc hmp hit hnm hoth hbw hWB hi5
      rcases hent with ⟨rfl, rfl, rfl⟩ | ⟨rfl, rfl, rfl⟩ | ⟨rfl, rfl, rfl⟩ | ⟨rfl, rfl, rfl⟩ | ⟨rfl, rfl, rfl⟩
      · obtain ⟨hno, hs2⟩ := said_step a1 seen es clock 0 ⟨#[97, 109, 112]⟩ ⟨#[38]⟩ (.inl ⟨rfl, rfl, rfl⟩) hcon HS.out ⟨by decide, fun e => absurd e (by decide)⟩
        obtain ⟨W3, hup, hm3, _, hB3, ho3, hz3⟩ := MapS.upd (w := W.alloc (.cells #[.string ⟨#[38]⟩] 54)) Tryd.underlying55 Tryd.underlying9 ((hold (.cells #[.string ⟨#[38]⟩] 54) _ (by have := HZ.out; omega)).trans hmp2) HS.out.1 hno (.agg #[.string ⟨#[97, 109, 112]⟩])
        have hc2 := hcell (.cells #[.string ⟨#[38]⟩] 54)
        have HS2 := Lib.hid hs2
        clear hs2 hno
        have HO := Lib.hid ho3
        clear ho3
        have HBB := Lib.hid hB3
        clear hB3
        go_wp2
        refine ⟨⟨_, _, _, (HO.out _ (by have := HZ.out; omega)).trans ((hold (.cells #[.string ⟨#[38]⟩] 54) _ (by have := HZ.out; omega)).trans hit2), (HO.out _ (by have := HZ.out; omega)).trans ((hold (.cells #[.string ⟨#[38]⟩] 54) _ (by have := HZ.out; omega)).trans hnm2), (HO.out _ (by have := HZ.out; omega)).trans ((hold (.cells #[.string ⟨#[38]⟩] 54) _ (by have := HZ.out; omega)).trans hsc2), hm3, by rw [hz3, hal]; have := HZ.out; omega, (hBW2 (.cells #[.string ⟨#[38]⟩] 54)).trans (HBB.out _ (Nat.le_refl _)), HS2⟩, ?_⟩
        exact hmeas _ ((HO.out _ (by have := HZ.out; omega)).trans ((hold (.cells #[.string ⟨#[38]⟩] 54) _ (by have := HZ.out; omega)).trans hit2))
      · obtain ⟨hno, hs2⟩ := said_step a1 seen es clock 1 ⟨#[108, 116]⟩ ⟨#[60]⟩ (.inr (.inl ⟨rfl, rfl, rfl⟩)) hcon HS.out ⟨by decide, fun e => absurd e (by decide)⟩
        obtain ⟨W3, hup, hm3, _, hB3, ho3, hz3⟩ := MapS.upd (w := W.alloc (.cells #[.string ⟨#[60]⟩] 54)) Tryd.underlying55 Tryd.underlying9 ((hold (.cells #[.string ⟨#[60]⟩] 54) _ (by have := HZ.out; omega)).trans hmp2) HS.out.1 hno (.agg #[.string ⟨#[108, 116]⟩])
        have hc2 := hcell (.cells #[.string ⟨#[60]⟩] 54)
        have HS2 := Lib.hid hs2
        clear hs2 hno
        have HO := Lib.hid ho3
        clear ho3
        have HBB := Lib.hid hB3
        clear hB3
        go_wp2
        refine ⟨⟨_, _, _, (HO.out _ (by have := HZ.out; omega)).trans ((hold (.cells #[.string ⟨#[60]⟩] 54) _ (by have := HZ.out; omega)).trans hit2), (HO.out _ (by have := HZ.out; omega)).trans ((hold (.cells #[.string ⟨#[60]⟩] 54) _ (by have := HZ.out; omega)).trans hnm2), (HO.out _ (by have := HZ.out; omega)).trans ((hold (.cells #[.string ⟨#[60]⟩] 54) _ (by have := HZ.out; omega)).trans hsc2), hm3, by rw [hz3, hal]; have := HZ.out; omega, (hBW2 (.cells #[.string ⟨#[60]⟩] 54)).trans (HBB.out _ (Nat.le_refl _)), HS2⟩, ?_⟩
        exact hmeas _ ((HO.out _ (by have := HZ.out; omega)).trans ((hold (.cells #[.string ⟨#[60]⟩] 54) _ (by have := HZ.out; omega)).trans hit2))
      · obtain ⟨hno, hs2⟩ := said_step a1 seen es clock 2 ⟨#[103, 116]⟩ ⟨#[62]⟩ (.inr (.inr (.inl ⟨rfl, rfl, rfl⟩))) hcon HS.out ⟨by decide, fun e => absurd e (by decide)⟩
        obtain ⟨W3, hup, hm3, _, hB3, ho3, hz3⟩ := MapS.upd (w := W.alloc (.cells #[.string ⟨#[62]⟩] 54)) Tryd.underlying55 Tryd.underlying9 ((hold (.cells #[.string ⟨#[62]⟩] 54) _ (by have := HZ.out; omega)).trans hmp2) HS.out.1 hno (.agg #[.string ⟨#[103, 116]⟩])
        have hc2 := hcell (.cells #[.string ⟨#[62]⟩] 54)
        have HS2 := Lib.hid hs2
        clear hs2 hno
        have HO := Lib.hid ho3
        clear ho3
        have HBB := Lib.hid hB3
        clear hB3
        go_wp2
        refine ⟨⟨_, _, _, (HO.out _ (by have := HZ.out; omega)).trans ((hold (.cells #[.string ⟨#[62]⟩] 54) _ (by have := HZ.out; omega)).trans hit2), (HO.out _ (by have := HZ.out; omega)).trans ((hold (.cells #[.string ⟨#[62]⟩] 54) _ (by have := HZ.out; omega)).trans hnm2), (HO.out _ (by have := HZ.out; omega)).trans ((hold (.cells #[.string ⟨#[62]⟩] 54) _ (by have := HZ.out; omega)).trans hsc2), hm3, by rw [hz3, hal]; have := HZ.out; omega, (hBW2 (.cells #[.string ⟨#[62]⟩] 54)).trans (HBB.out _ (Nat.le_refl _)), HS2⟩, ?_⟩
        exact hmeas _ ((HO.out _ (by have := HZ.out; omega)).trans ((hold (.cells #[.string ⟨#[62]⟩] 54) _ (by have := HZ.out; omega)).trans hit2))
      · cases a1 with
        | true =>
          obtain ⟨hno, hs2⟩ := said_step true seen es clock 3 ⟨#[113, 117, 111, 116]⟩ ⟨#[34]⟩ (.inr (.inr (.inr (.inl ⟨rfl, rfl, rfl⟩)))) hcon HS.out ⟨by decide, fun _ => rfl⟩
          obtain ⟨W3, hup, hm3, _, hB3, ho3, hz3⟩ := MapS.upd (w := W.alloc (.cells #[.string ⟨#[34]⟩] 54)) Tryd.underlying55 Tryd.underlying9 ((hold (.cells #[.string ⟨#[34]⟩] 54) _ (by have := HZ.out; omega)).trans hmp2) HS.out.1 hno (.agg #[.string ⟨#[113, 117, 111, 116]⟩])
          have hc2 := hcell (.cells #[.string ⟨#[34]⟩] 54)
          have HS2 := Lib.hid hs2
          clear hs2 hno
          have HO := Lib.hid ho3
          clear ho3
          have HBB := Lib.hid hB3
          clear hB3
          go_wp2
          refine ⟨⟨_, _, _, (HO.out _ (by have := HZ.out; omega)).trans ((hold (.cells #[.string ⟨#[34]⟩] 54) _ (by have := HZ.out; omega)).trans hit2), (HO.out _ (by have := HZ.out; omega)).trans ((hold (.cells #[.string ⟨#[34]⟩] 54) _ (by have := HZ.out; omega)).trans hnm2), (HO.out _ (by have := HZ.out; omega)).trans ((hold (.cells #[.string ⟨#[34]⟩] 54) _ (by have := HZ.out; omega)).trans hsc2), hm3, by rw [hz3, hal]; have := HZ.out; omega, (hBW2 (.cells #[.string ⟨#[34]⟩] 54)).trans (HBB.out _ (Nat.le_refl _)), HS2⟩, ?_⟩
          exact hmeas _ ((HO.out _ (by have := HZ.out; omega)).trans ((hold (.cells #[.string ⟨#[34]⟩] 54) _ (by have := HZ.out; omega)).trans hit2))
        | false =>
          have HS2 := Lib.hid (said_skip false seen es 3 HS.out (.inr ⟨rfl, rfl⟩))
          have hc2 := hcell (.cells #[.string ⟨#[34]⟩] 54)
          go_wp2
          refine ⟨⟨_, _, _, (hold (.cells #[.string ⟨#[34]⟩] 54) _ (by have := HZ.out; omega)).trans hit2, (hold (.cells #[.string ⟨#[34]⟩] 54) _ (by have := HZ.out; omega)).trans hnm2, (hold (.cells #[.string ⟨#[34]⟩] 54) _ (by have := HZ.out; omega)).trans hsc2, (hold (.cells #[.string ⟨#[34]⟩] 54) _ (by have := HZ.out; omega)).trans hmp2, by rw [hal]; have := HZ.out; omega, hBW2 (.cells #[.string ⟨#[34]⟩] 54), HS2⟩, ?_⟩
          exact hmeas _ ((hold (.cells #[.string ⟨#[34]⟩] 54) _ (by have := HZ.out; omega)).trans hit2)
      · have HS2 := Lib.hid (said_skip a1 seen es 4 HS.out (.inl rfl))
        have hc2 := hcell (.cells #[.string ⟨#[39]⟩] 54)
        go_wp2
        refine ⟨⟨_, _, _, (hold (.cells #[.string ⟨#[39]⟩] 54) _ (by have := HZ.out; omega)).trans hit2, (hold (.cells #[.string ⟨#[39]⟩] 54) _ (by have := HZ.out; omega)).trans hnm2, (hold (.cells #[.string ⟨#[39]⟩] 54) _ (by have := HZ.out; omega)).trans hsc2, (hold (.cells #[.string ⟨#[39]⟩] 54) _ (by have := HZ.out; omega)).trans hmp2, by rw [hal]; have := HZ.out; omega, hBW2 (.cells #[.string ⟨#[39]⟩] 54), HS2⟩, ?_⟩
        exact hmeas _ ((hold (.cells #[.string ⟨#[39]⟩] 54) _ (by have := HZ.out; omega)).trans hit2)
set_option maxHeartbeats 400000 in
set_option maxRecDepth 100000 in
theorem encode_bad (a0 : ByteArray) (a1 : Bool) (w : World) (hG : Glob w) (hz : a0.size ≤ 1000000000) (p q : Int) (hv : U.validR a0.data.toList = (p, q)) (hq : q ≠ 0) :
    Calls Tryd.prog 13 #[.string a0, .bool a1] w fun e w' => e = .returned (.tuple #[.string ⟨#[]⟩, .int .i64 q]) ∧ Below w.heap.size w w' := by
  have HV := Lib.hid (fun W hg => PU.utf_Valid.calls a0 p q W hg (by rw [U.utf_Valid_eq a0 (by omega)]; exact congrArg some hv))
  have hq0 : (q == 0) = false := by simpa using hq
  clear hv
  go_enter Tryd.func13, Tryd.ntmps13
  go_wp2_with (go_at_call 26; refine (HV.out _ hG).mono ?_; rintro e wv ⟨rfl, hBv⟩)
  go_ret2
  exact ⟨rfl, hBv⟩
theorem entity_Encode.calls (a0 : ByteArray) (a1 : Bool) (r1 : ByteArray) (r2 : Int) (w : World) (hG : Glob w) (h : entity_Encode.f a0 a1 = some (r1, r2)) :
    Calls Tryd.prog 13 #[.string a0, .bool a1] w fun e w' => e = .returned (.tuple #[.string r1, .int .i64 r2]) ∧ Below w.heap.size w w' := by
  unfold entity_Encode.f at h
  split at h
  rotate_left
  · cases h
  rename_i hz
  have h := Option.some.inj h
  split at h
  · rename_i h0
    simp only [Prod.mk.injEq] at h
    obtain ⟨rfl, rfl⟩ := h
    exact encode_walk a0 a1 w hG hz _ (Prod.ext rfl h0)
  · rename_i h0
    simp only [Prod.mk.injEq] at h
    obtain ⟨rfl, rfl⟩ := h
    exact encode_bad a0 a1 w hG hz _ _ rfl h0
end Go.Proofs.YtjciehecedepeaaDoor.X
