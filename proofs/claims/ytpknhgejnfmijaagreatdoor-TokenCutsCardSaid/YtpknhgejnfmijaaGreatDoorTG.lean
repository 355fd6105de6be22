/- A text of the claim, with what no other text of it needs taken out. -/
import Derived.Test.YtpknhgejnfmijaaGreatDoorTF
namespace Go.Proofs.YtpknhgejnfmijaaGreatDoor.X
open Go.RowKit Go.Proofs.YtpknhgejnfmijaaGreatDoorW.PrintWords Go.Proofs.YtpknhgejnfmijaaGreatDoor
set_option linter.unusedVariables false
set_option linter.unusedSimpArgs false
theorem wp_scope_jumps2 {P : Program} {a : Act} {w : World} {Q : Exit → Act → World → Prop} {c rest : Code} (l : Nat) (J : Act → World → Prop) (μ : Act → World → Nat) (hf : findLabel c l = some (.seq .skip rest))
    (pass : ∀ a w, J a w → rest.wp P (Exit.jump l (fun a' w' => J a' w' ∧ μ a' w' < μ a w) Q) a w)
    (first : (∀ a w, J a w → rest.wp P (Exit.jump l J Q) a w) → c.wp P (Exit.jump l J Q) a w) : (Code.scope c).wp P Q a w :=
  wp_scope_jumps l J μ hf (first fun a w h b k cs => by
    obtain ⟨e, a', w', hq, harr⟩ := pass a w h b k cs
    refine ⟨e, a', w', ?_, harr⟩
    cases e with
    | goto l' => exact ⟨hq.1, hq.2.1⟩
    | normal => exact hq
    | exit id => exact hq
    | ret => exact hq
    | panic ch => exact hq
    | outgrown => exact hq) (fun a w h => wp_seq (wp_skip (pass a w h)))
theorem Off.own {bs : List Nat} {w a b : World} {row : Option Nat} (h : Off bs w a) (hg : a.grownBy b row) (hr : ∀ k, row = some k → w.heap.size ≤ k) : Off bs w b :=
  ⟨hg.os.trans h.os, hg.tape.trans h.tape, hg.output.trans h.output, Nat.le_trans h.size hg.size, fun i hi hn => (hg.block i (Nat.lt_of_lt_of_le hi h.size) (fun e => by have := hr i e.symm; omega)).trans (h.block i hi hn)⟩
def leftOf (b : Nat) (w : World) : Nat := match w.cell? ⟨b, 1, none⟩ with | some (.string s) => s.size | _ => 0
theorem leftOf_cut {b : Nat} {all : Int} {l : List UInt8} {w : World} (h : CutAt b all l w) : leftOf b w = l.length := by
  unfold leftOf
  rw [h.rest]
  have := mk_sz l
  simp only
  omega
theorem skip_idem (l : List UInt8) : T.skipB (T.skipB l) = T.skipB l := by
  unfold T.skipB
  induction l with
  | nil => rfl
  | cons c l ih =>
    by_cases h : T.blank c = true
    · rw [List.dropWhile_cons_of_pos h]; exact ih
    · rw [List.dropWhile_cons_of_neg h, List.dropWhile_cons_of_neg h]
theorem attrL_len (l : List UInt8) (a : T.Raw) (r : List UInt8) (h : T.attrL l = some (a, r)) : r.length ≤ l.length := by
  unfold T.attrL at h
  have e0 := T.skipB_le (l.drop (M.beginL l))
  simp only [List.length_drop] at e0
  generalize T.skipB (l.drop (M.beginL l)) = l2 at h e0
  split at h
  · cases h
  cases l2 with
  | nil => cases h
  | cons c r1 =>
    by_cases hc : c = 61
    · subst hc
      simp only at h
      have e1 := T.skipB_le r1
      generalize T.skipB r1 = l4 at h e1
      cases l4 with
      | nil => cases h
      | cons q v =>
        simp only at h
        split at h
        · cases hk : T.cutAt q v with
          | none => rw [hk] at h; cases h
          | some z =>
            rw [hk] at h
            simp only at h
            split at h
            · cases h
            · simp only [Option.some.injEq, Prod.mk.injEq] at h
              obtain ⟨_, rfl⟩ := h
              have e3 := T.cutAt_len _ _ _ _ hk
              simp at e0 e1
              omega
        · cases h
    · have : ∀ x, c :: r1 ≠ 61 :: x := fun x e => hc (List.cons.inj e).1
      split at h
      · exact absurd (by assumption) (this _)
      · cases h
def tagJ1 (b tb : Nat) (all : Int) (base : Nat) (N : Nat) (X : Option (Nat × List T.Raw × List UInt8)) (nm : List UInt8) (av : Value) (tx : ByteArray) (p : Int) (w : World) (a : Act) (w' : World) : Prop :=
  ∃ (v : Value) (rs : List T.Raw) (l : List UInt8) (k : Nat), tagJ b tb v a ∧ CutAt b all l w' ∧ TokAt tb 1 nm av tx p w' ∧ Off [b, tb] w w' ∧ w'.ownsRow w.heap.size 108 3 v rs.length (rawCells all rs) ∧ l.length < k ∧ l.length + rs.length ≤ N ∧ T.tagLoop k l rs = X
set_option maxHeartbeats 4000000 in
set_option maxRecDepth 100000 in
theorem tag_open (b tb : Nat) (all : Int) (t0 : List UInt8) (w : World) (h : CutAt b all (60 :: t0) w) (k : Int) (n : List UInt8) (av : Value) (tx : ByteArray) (p : Int) (ht : TokAt tb k n av tx p w) (hne : b ≠ tb) (hz : (t0.length : Int) + 1 ≤ all) (hall : all ≤ 1000000000) (hpre : [60, 47].isPrefixOf (60 :: t0) = false) :
    Calls Tryz.prog 39 #[.pointer (some ⟨b, 0, none⟩), .pointer (some ⟨tb, 0, none⟩)] w fun e w' => tagP b tb all w.heap.size av tx p (T.tagL (60 :: t0)) e w' ∧ Off [b, tb] w w' := by
  have hb := h.lt
  have htb := ht.lt
  have c0 := ht.c0; have c1 := ht.c1; have tf0 := ht.soft 0; have tf1 := ht.soft 1
  have o0 : Off [b, tb] w (w.setCell ⟨tb, 0, none⟩ (.int .u8 1)) := Off.put _ _ _ _ (by simp)
  have h0 := h.kept (bs := [tb]) (Off.put w tb 0 (.int .u8 1) (by simp)) (by simp [hne])
  have ht0 := ht.kind 1
  have hne' : tb ≠ b := fun e => hne e.symm
  have HE := Lib.hid (eat_k b all (60 :: t0) [60, 47] _ h0)
  rw [hpre, show eatL [60, 47] (60 :: t0) = 60 :: t0 by unfold eatL; rw [hpre]; rfl] at HE
  have HE2 := Lib.hid (fun W hw => eat_k b all (60 :: t0) [60] W hw)
  rw [(eat_hit 60 t0).1, (eat_hit 60 t0).2] at HE2
  generalize hR : T.tagL (60 :: t0) = R
  unfold T.tagL at hR
  rw [if_neg (by rw [hpre]; simp)] at hR
  simp only [List.drop_succ_cons, List.drop_zero] at hR
  have HW := Lib.hid (fun W hw => word_k b all t0 W hw (by omega))
  have hnl : M.beginL t0 = (t0.take (M.beginL t0)).length := by rw [List.length_take]; have := (M.begin_max t0).2.1; omega
  have hl1 : (t0.drop (M.beginL t0)).length ≤ t0.length := by simp
  generalize t0.take (M.beginL t0) = nm at HW hnl hR
  generalize t0.drop (M.beginL t0) = l1 at HW hR hl1
  rw [hnl] at hR
  generalize hX : T.tagLoop (60 :: t0).length l1 [] = X at hR
  have HR := Lib.hid hR
  have HX := Lib.hid hX
  clear hpre ht h hR hnl hX
  go_enter Tryz.func39, Tryz.ntmps39
  go_wp2
  refine wp_scope_jumps2 1 (fun a' w' => nm ≠ [] ∧ tagJ1 b tb all w.heap.size t0.length X nm av tx p w a' w') (fun _ w => leftOf b w) rfl ?_ ?_
  · rintro a' w1 ⟨hnm, v, rs, l, K, ⟨u2, u3, u6, u7, u8, u9, u10, u11, u12, u13, u14, u15, u16, u17, u18, u19, u20, u21, u22, u23, u24, u25, u26, u27, u28, u29, u30, u31, u32, u33, u34, u35, u36, u37, u38, u39, u40, u41, u42, u43, u44, u45, u46, u47, u48, u49, u50, u51, u52, u53, u54, u55, u56, u57, u58, u59, u60, u61, u62, u63, u64, u65, u66, u67, u68, u69, u70, u71, u72, u73, u74, u75, u76, u77, u78, u79, u80, u81, u82, u83, u84, u85, u86, rfl⟩, h1, ht1, q1, own1, hlk, hN, hX⟩
    have HS := Lib.hid (skip_k b all l w1 h1)
    have hs2 := T.skipB_le l
    have hid2 := skip_idem l
    obtain ⟨K, rfl⟩ : ∃ j, K = j + 1 := ⟨K - 1, by omega⟩
    unfold T.tagLoop at hX
    have hlo := leftOf_cut h1
    have HR2 : Hid (X.map (fun x => (x.1, nm, x.2.1, x.2.2)) = R) := by
      show _ = R
      rw [← HR.out, if_neg (by simpa using hnm)]
    have hro : ∀ k, v.ownBlock = some k → k ∉ [b] := fun k hk => by have := (own1.lt k hk).1; simp; omega
    have hrt : ∀ k, v.ownBlock = some k → k ∉ [tb] := fun k hk => by have := (own1.lt k hk).1; simp; omega
    obtain ⟨n0, nt, rfl⟩ : ∃ n0 nt, nm = n0 :: nt := by
      cases nm with
      | nil => exact absurd rfl hnm
      | cons a t => exact ⟨a, t, rfl⟩
    clear HR HX
    generalize hl2 : T.skipB l = l2 at HS hs2 hid2 hX
    have HS2 := Lib.hid (fun W hw => skip_k b all l2 W hw)
    rw [hid2] at HS2
    by_cases hc : l2.length < l.length ∧ l2.head? ≠ none ∧ l2.head? ≠ some 47 ∧ l2.head? ≠ some 62
    case neg =>
      rw [if_neg hc] at hX
      by_cases s1 : ∃ r, l2 = 47 :: 62 :: r
      · obtain ⟨r, rfl⟩ := s1
        have hp : [47, 62].isPrefixOf (47 :: 62 :: r) = true := by simp
        rw [if_pos hp] at hX
        obtain rfl : R = some (3, n0 :: nt, rs, r) := by rw [← HR2.out, ← hX]; rfl
        have HE3 := Lib.hid (fun W hw => eat_k b all (47 :: 62 :: r) [47, 62] W hw)
        rw [hp, show eatL [47, 62] (47 :: 62 :: r) = r by simp [eatL]] at HE3
        have hix := index0 47 (62 :: r)
        clear HS2 hX
        by_cases hs : (47 :: 62 :: r).length < l.length
        all_goals
          simp only [hs, decide_true, decide_false] at HS
          go_wp2_with (first
            | (go_at_call 61; refine HS.out.mono ?_; rintro e w2 ⟨rfl, h2, o2⟩; clear HS; have ht2 := ht1.kept o2 (by simp [hne']); have own2 := o2.row own1 hro; have c2 := h2.rest; have tc0 := ht2.c0; have tc1 := ht2.c1; have tk0 := ht2.soft 0)
            | (go_at_call 59; refine (HE3.out _ h2).mono ?_; rintro e w3 ⟨rfl, h3, o3⟩; have ht3 := ht2.kept o3 (by simp [hne']); have own3 := o3.row own2 hro; have nc0 := ht3.c0; have nc1 := ht3.c1; have nf0 := ht3.soft 0))
          simp only [Exit.jump]
          go_ret2
          exact ⟨⟨_, rfl, (Off.put _ _ _ _ (by simp : tb ∈ [tb])).row own3 hrt, ht3.kind 3, h3.kept (bs := [tb]) (Off.put _ _ _ _ (by simp)) (by simp [hne])⟩, ((q1.trans (o2.more (by simp))).trans (o3.more (by simp))).trans (Off.put _ _ _ _ (by simp))⟩
      · by_cases s2 : ∃ r, l2 = 62 :: r
        · obtain ⟨r, rfl⟩ := s2
          have hp : [47, 62].isPrefixOf (62 :: r) = false := rfl
          rw [if_neg (by rw [hp]; simp)] at hX
          obtain rfl : R = some (1, n0 :: nt, rs, r) := by rw [← HR2.out, ← hX]; rfl
          have HE3 := Lib.hid (fun W hw => eat_k b all (62 :: r) [47, 62] W hw)
          rw [hp, show eatL [47, 62] (62 :: r) = 62 :: r by unfold eatL; rw [hp]; rfl] at HE3
          have HE4 := Lib.hid (fun W hw => eat_k b all (62 :: r) [62] W hw)
          rw [(eat_hit 62 r).1, (eat_hit 62 r).2] at HE4
          have hix := index0 62 r
          clear hX
          by_cases hs : (62 :: r).length < l.length
          all_goals
            simp only [hs, decide_true, decide_false] at HS
            go_wp2_with (first
              | (go_at_call 61; refine HS.out.mono ?_; rintro e w2 ⟨rfl, h2, o2⟩; clear HS; have ht2 := ht1.kept o2 (by simp [hne']); have own2 := o2.row own1 hro; have c2 := h2.rest; have tc0 := ht2.c0; have tc1 := ht2.c1; have tk0 := ht2.soft 0)
              | (go_at_call 59; refine (HE3.out _ h2).mono ?_; rintro e w3 ⟨rfl, h3, o3⟩; have ht3 := ht2.kept o3 (by simp [hne']); have own3 := o3.row own2 hro; have nc0 := ht3.c0; have nc1 := ht3.c1; have nf0 := ht3.soft 0))
            go_step3
            go_wp2_with (first
              | (go_at_call 61; refine (HS2.out _ h3).mono ?_; rintro e w4 ⟨rfl, h4, o4⟩; have ht4 := ht3.kept o4 (by simp [hne']); have own4 := o4.row own3 hro; have rc1 := ht4.c1)
              | (go_at_call 59; refine (HE4.out _ h4).mono ?_; rintro e w5 ⟨rfl, h5, o5⟩; have ht5 := ht4.kept o5 (by simp [hne']); have own5 := o5.row own4 hro))
            simp only [Exit.jump]
            go_ret2
            exact ⟨⟨_, rfl, own5, ht5, h5⟩, (((q1.trans (o2.more (by simp))).trans (o3.more (by simp))).trans (o4.more (by simp))).trans (o5.more (by simp))⟩
        · have s2' : ∀ r, l2 ≠ 62 :: r := fun r e => s2 ⟨r, e⟩
          have hp : [47, 62].isPrefixOf l2 = false := by
            cases hp : [47, 62].isPrefixOf l2 with
            | false => rfl
            | true =>
              exfalso
              obtain ⟨r, hr⟩ := List.isPrefixOf_iff_prefix.mp hp
              exact s1 ⟨r, hr.symm⟩
          rw [if_neg (by rw [hp]; simp)] at hX
          obtain rfl : R = none := by
            rw [← HR2.out, ← hX]
            split
            · exact absurd rfl (s2' _)
            · rfl
          have HE3 := Lib.hid (fun W hw => eat_k b all l2 [47, 62] W hw)
          rw [hp, show eatL [47, 62] l2 = l2 by unfold eatL; rw [hp]; rfl] at HE3
          have HE4 := Lib.hid (fun W hw => eat_k b all l2 [62] W hw)
          rw [(eat_miss 62 l2 s2').1, (eat_miss 62 l2 s2').2] at HE4
          clear hX
          by_cases hs : l2.length < l.length
          · cases l2 with
            | nil =>
              simp only [hs, decide_true] at HS
              go_wp2_with (first
                | (go_at_call 61; refine HS.out.mono ?_; rintro e w2 ⟨rfl, h2, o2⟩; clear HS; have ht2 := ht1.kept o2 (by simp [hne']); have own2 := o2.row own1 hro; have c2 := h2.rest; have tc0 := ht2.c0; have tc1 := ht2.c1; have tk0 := ht2.soft 0)
                | (go_at_call 59; refine (HE3.out _ h2).mono ?_; rintro e w3 ⟨rfl, h3, o3⟩; have ht3 := ht2.kept o3 (by simp [hne']); have own3 := o3.row own2 hro; have nc0 := ht3.c0; have nc1 := ht3.c1; have nf0 := ht3.soft 0))
              go_step3
              go_wp2_with (first
                | (go_at_call 61; refine (HS2.out _ h3).mono ?_; rintro e w4 ⟨rfl, h4, o4⟩; have ht4 := ht3.kept o4 (by simp [hne']); have own4 := o4.row own3 hro; have rc1 := ht4.c1)
                | (go_at_call 59; refine (HE4.out _ h4).mono ?_; rintro e w5 ⟨rfl, h5, o5⟩; have ht5 := ht4.kept o5 (by simp [hne']); have own5 := o5.row own4 hro))
              simp only [Exit.jump]
              go_ret2
              exact ⟨⟨⟨_, rfl⟩, _, _, ht5⟩, (((q1.trans (o2.more (by simp))).trans (o3.more (by simp))).trans (o4.more (by simp))).trans (o5.more (by simp))⟩
            | cons q v2 =>
              obtain rfl : q = 47 := by
                by_cases h47 : q = 47
                · exact h47
                · exact absurd ⟨hs, by simp, by simpa using h47, by simpa using fun e => s2' v2 (by rw [e])⟩ hc
              have hix := index0 47 v2
              simp only [hs, decide_true] at HS
              go_wp2_with (first
                | (go_at_call 61; refine HS.out.mono ?_; rintro e w2 ⟨rfl, h2, o2⟩; clear HS; have ht2 := ht1.kept o2 (by simp [hne']); have own2 := o2.row own1 hro; have c2 := h2.rest; have tc0 := ht2.c0; have tc1 := ht2.c1; have tk0 := ht2.soft 0)
                | (go_at_call 59; refine (HE3.out _ h2).mono ?_; rintro e w3 ⟨rfl, h3, o3⟩; have ht3 := ht2.kept o3 (by simp [hne']); have own3 := o3.row own2 hro; have nc0 := ht3.c0; have nc1 := ht3.c1; have nf0 := ht3.soft 0))
              go_step3
              go_wp2_with (first
                | (go_at_call 61; refine (HS2.out _ h3).mono ?_; rintro e w4 ⟨rfl, h4, o4⟩; have ht4 := ht3.kept o4 (by simp [hne']); have own4 := o4.row own3 hro; have rc1 := ht4.c1)
                | (go_at_call 59; refine (HE4.out _ h4).mono ?_; rintro e w5 ⟨rfl, h5, o5⟩; have ht5 := ht4.kept o5 (by simp [hne']); have own5 := o5.row own4 hro))
              simp only [Exit.jump]
              go_ret2
              exact ⟨⟨⟨_, rfl⟩, _, _, ht5⟩, (((q1.trans (o2.more (by simp))).trans (o3.more (by simp))).trans (o4.more (by simp))).trans (o5.more (by simp))⟩
          · simp only [hs, decide_false] at HS
            go_wp2_with (first
              | (go_at_call 61; refine HS.out.mono ?_; rintro e w2 ⟨rfl, h2, o2⟩; clear HS; have ht2 := ht1.kept o2 (by simp [hne']); have own2 := o2.row own1 hro; have c2 := h2.rest; have tc0 := ht2.c0; have tc1 := ht2.c1; have tk0 := ht2.soft 0)
              | (go_at_call 59; refine (HE3.out _ h2).mono ?_; rintro e w3 ⟨rfl, h3, o3⟩; have ht3 := ht2.kept o3 (by simp [hne']); have own3 := o3.row own2 hro; have nc0 := ht3.c0; have nc1 := ht3.c1; have nf0 := ht3.soft 0))
            go_step3
            go_wp2_with (first
              | (go_at_call 61; refine (HS2.out _ h3).mono ?_; rintro e w4 ⟨rfl, h4, o4⟩; have ht4 := ht3.kept o4 (by simp [hne']); have own4 := o4.row own3 hro; have rc1 := ht4.c1)
              | (go_at_call 59; refine (HE4.out _ h4).mono ?_; rintro e w5 ⟨rfl, h5, o5⟩; have ht5 := ht4.kept o5 (by simp [hne']); have own5 := o5.row own4 hro))
            simp only [Exit.jump]
            go_ret2
            exact ⟨⟨⟨_, rfl⟩, _, _, ht5⟩, (((q1.trans (o2.more (by simp))).trans (o3.more (by simp))).trans (o4.more (by simp))).trans (o5.more (by simp))⟩
    case pos =>
      rw [if_pos hc] at hX
      obtain ⟨hs, hc1, hc2, hc3⟩ := hc
      obtain ⟨q, v2, rfl⟩ : ∃ q v2, l2 = q :: v2 := by
        cases l2 with
        | nil => exact absurd rfl hc1
        | cons q v2 => exact ⟨q, v2, rfl⟩
      have i47 : ((q.toNat : Int) != 47) = true := by
        simp only [bne_iff_ne, ne_eq]; intro e; exact hc2 (by simp; exact UInt8.toNat_inj.mp (by have : (47 : UInt8).toNat = 47 := rfl; omega))
      have i62 : ((q.toNat : Int) != 62) = true := by
        simp only [bne_iff_ne, ne_eq]; intro e; exact hc3 (by simp; exact UInt8.toNat_inj.mp (by have : (62 : UInt8).toNat = 62 := rfl; omega))
      have hix := index0 q v2
      simp only [hs, decide_true] at HS
      have HA := Lib.hid (fun W hw => attr_k b all (q :: v2) W hw (by omega) hall)
      cases ha : T.attrL (q :: v2) with
      | none =>
        rw [ha] at HA hX
        obtain rfl : R = none := by rw [← HR2.out, ← hX]; rfl
        clear hX HS2 hc1 hc2 hc3
        go_wp2_with (first
          | (go_at_call 61; refine HS.out.mono ?_; rintro e w2 ⟨rfl, h2, o2⟩; have ht2 := ht1.kept o2 (by simp [hne']); have own2 := o2.row own1 hro; have c2 := h2.rest)
          | (go_at_call 62; refine (HA.out _ h2).mono ?_; rintro e w3 ⟨⟨n', v', k', rfl⟩, o3⟩; have ht3 := ht2.kept o3 (by simp [hne'])))
        simp only [Exit.jump]
        go_ret2
        exact ⟨⟨⟨_, rfl⟩, _, _, ht3.kept (Off.alloc _ _ []) (by simp)⟩, ((q1.trans (o2.more (by simp))).trans (o3.more (by simp))).trans (Off.alloc _ _ _)⟩
      | some x =>
        obtain ⟨a, r⟩ := x
        rw [ha] at HA hX
        simp only at hX
        have hal := attrL_len _ _ _ ha
        obtain ⟨i0, hi, hz0, hz1, hz2⟩ := info_parts (P := Tryz.prog) (e := 108) (z := .agg #[.string ⟨#[]⟩, .string ⟨#[]⟩, .int .i64 0]) (size := 3) (bytes := 40) (by kernel_rfl)
        clear HS2 hc1 hc2 hc3
        go_wp2_with (first
          | (go_at_call 61; refine HS.out.mono ?_; rintro e w2 ⟨rfl, h2, o2⟩; have ht2 := ht1.kept o2 (by simp [hne']); have own2 := o2.row own1 hro; have c2 := h2.rest)
          | (go_at_call 62; refine (HA.out _ h2).mono ?_; rintro e w3 ⟨⟨rfl, h3⟩, o3⟩; have ht3 := ht2.kept o3 (by simp [hne']); have own3 := o3.row own2 hro)
          | (at_builtin; refine wpList_append_own _ rfl _ _ 89 rfl w.heap.size 108 i0 (.agg #[.string ⟨#[]⟩, .string ⟨#[]⟩, .int .i64 0]) 3 40 Tryz.underlying89 hi hz0 hz1 hz2 rfl (by decide) _ rs.length (rawCells all rs) rfl ?c1 _ 1 _ [.string ⟨a.name.toArray⟩, .string ⟨a.value.toArray⟩, .int .i64 (all - a.left)] rfl rfl ?c2 ?c3 ?c4 ?c5 ?c6 ?_))
        case c1 => exact (own3.alloc _).alloc _
        case c2 =>
          refine World.news_of_block (fr := (0, 0)) (t := 108) (cs := #[.string ⟨a.name.toArray⟩, .string ⟨a.value.toArray⟩, .int .i64 (all - a.left)]) ?_
          have := heap_alloc_new (w3.alloc (.cells #[.string ⟨a.name.toArray⟩, .string ⟨a.value.toArray⟩, .int .i64 (all - a.left)] 108)) (.cells #[.string ⟨a.name.toArray⟩, .string ⟨a.value.toArray⟩, .int .i64 (all - a.left)] 108)
          rwa [show (w3.alloc (.cells #[.string ⟨a.name.toArray⟩, .string ⟨a.value.toArray⟩, .int .i64 (all - a.left)] 108)).heap.size = w3.heap.size + 1 by simp] at this
        case c3 =>
          intro u hu
          simp only [List.mem_cons, List.not_mem_nil, or_false] at hu
          rcases hu with rfl | rfl | rfl <;> rfl
        case c4 => unfold maxLen; omega
        case c5 => omega
        case c6 =>
          have e1 := q1.size
          have e2 := o2.size
          have e3 := o3.size
          simp
          omega
        intro v' w5 own5 hgr _
        have q3 := (q1.trans (o2.more (by simp))).trans (o3.more (by simp) : Off [b, tb] w2 w3)
        have q4 := (q3.trans (Off.alloc w3 (.cells #[.string ⟨a.name.toArray⟩, .string ⟨a.value.toArray⟩, .int .i64 (all - a.left)] 108) [b, tb])).trans (Off.alloc _ (.cells #[.string ⟨a.name.toArray⟩, .string ⟨a.value.toArray⟩, .int .i64 (all - a.left)] 108) [b, tb])
        have q5 := q4.own hgr (fun k hk => (own3.lt k hk).1)
        have h5 : CutAt b all r w5 := (hgr.block b (by have := h3.lt; simp; omega) (fun e => by have := (own3.lt b e.symm).1; omega)).trans (blk_alloc (blk_alloc h3 _) _)
        have ht5 : TokAt tb 1 (n0 :: nt) av tx p w5 := (hgr.block tb (by have := ht3.lt; simp; omega) (fun e => by have := (own3.lt tb e.symm).1; omega)).trans (blk_alloc (blk_alloc ht3 _) _)
        go_wp2
        go_step3
        have hrc : rawCells all (rs ++ [a]) = rawCells all rs ++ [.string ⟨a.name.toArray⟩, .string ⟨a.value.toArray⟩, .int .i64 (all - a.left)] := by simp [rawCells]
        have hl5 := leftOf_cut h5
        have hs' : (q :: v2).length < l.length := hs
        exact ⟨rfl, ⟨by simp, v', rs ++ [a], r, K, ⟨_, _, _, _, _, _, _, _, _, _, _, _, _, _, _, _, _, _, _, _, _, _, _, _, _, _, _, _, _, _, _, _, _, _, _, _, _, _, _, _, _, _, _, _, _, _, _, _, _, _, _, _, _, _, _, _, _, _, _, _, _, _, _, _, _, _, _, _, _, _, _, _, _, _, _, _, _, _, _, _, _, _, _, rfl⟩, h5, ht5, q5, by rw [hrc, List.length_append]; exact own5, by omega, by simp at hal hs' ⊢; omega, hX⟩, by rw [hl5, hlo]; omega⟩
  · intro PASS
    have HPASS := Lib.hid PASS
    clear PASS
    cases nm with
    | nil =>
      obtain rfl : R = none := by rw [← HR.out]; rfl
      go_wp2_with (first
        | (go_at_call 59; refine HE.out.mono ?_; rintro e w1 ⟨rfl, h1, o1⟩; clear HE)
        | (go_at_call 59; refine (HE2.out _ h1).mono ?_; rintro e w2 ⟨rfl, h2, o2⟩; have ht2 := (ht0.kept o1 (by simp [hne'])).kept o2 (by simp [hne']))
        | (go_at_call 60; refine (HW.out _ h2).mono ?_; rintro e w3 ⟨rfl, h3, o3⟩; have ht3 := ht2.kept o3 (by simp [hne']); have xc1 := ht3.c1; have xf1 := ht3.soft 1; have ht4 := ht3.name []; have o4 := Off.put w3 tb 1 (.string ⟨([]).toArray⟩) (bs := [tb]) (by simp); have h4 := h3.kept o4 (by simp [hne]); have nc1 := ht4.c1; have q4 := (((o0.trans (o1.more (by simp))).trans (o2.more (by simp))).trans (o3.more (by simp))).trans (o4.more (by simp))))
      simp only [Exit.jump]
      go_ret2
      exact ⟨⟨⟨_, rfl⟩, _, _, ht4⟩, q4⟩
    | cons n0 nt =>
      go_wp2_with (first
        | (go_at_call 59; refine HE.out.mono ?_; rintro e w1 ⟨rfl, h1, o1⟩; clear HE)
        | (go_at_call 59; refine (HE2.out _ h1).mono ?_; rintro e w2 ⟨rfl, h2, o2⟩; have ht2 := (ht0.kept o1 (by simp [hne'])).kept o2 (by simp [hne']))
        | (go_at_call 60; refine (HW.out _ h2).mono ?_; rintro e w3 ⟨rfl, h3, o3⟩; have ht3 := ht2.kept o3 (by simp [hne']); have xc1 := ht3.c1; have xf1 := ht3.soft 1; have ht4 := ht3.name (n0 :: nt); have o4 := Off.put w3 tb 1 (.string ⟨((n0 :: nt)).toArray⟩) (bs := [tb]) (by simp); have h4 := h3.kept o4 (by simp [hne]); have nc1 := ht4.c1; have q4 := (((o0.trans (o1.more (by simp))).trans (o2.more (by simp))).trans (o3.more (by simp))).trans (o4.more (by simp))))
      go_step3
      rename_i hK
      exact hK _ _ (HPASS.out _ _ ⟨by simp, _, [], l1, (60 :: t0).length, ⟨_, _, _, _, _, _, _, _, _, _, _, _, _, _, _, _, _, _, _, _, _, _, _, _, _, _, _, _, _, _, _, _, _, _, _, _, _, _, _, _, _, _, _, _, _, _, _, _, _, _, _, _, _, _, _, _, _, _, _, _, _, _, _, _, _, _, _, _, _, _, _, _, _, _, _, _, _, _, _, _, _, _, _, rfl⟩, h4, ht4, q4, World.ownsRow_nil _ _ _ _, by simp; omega, by simp; omega, HX.out⟩)
end Go.Proofs.YtpknhgejnfmijaaGreatDoor.X
