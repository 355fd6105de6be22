/- A text of the claim, with what no other text of it needs taken out. -/
import Derived.Test.YtpknhgejnfmijaaGreatDoorTI
namespace Go.Proofs.YtpknhgejnfmijaaGreatDoor.X
open Go.RowKit Go.Proofs.YtpknhgejnfmijaaGreatDoorW.PrintWords Go.Proofs.YtpknhgejnfmijaaGreatDoor
set_option linter.unusedVariables false
set_option linter.unusedSimpArgs false
theorem idx60 (l : List UInt8) : ((60 : UInt8) ∉ l ∧ Lib.indexByte l 60 = -1 ∧ l.takeWhile (· ≠ 60) = l ∧ l.dropWhile (· ≠ 60) = []) ∨
    ∃ n : Nat, n ≤ l.length ∧ Lib.indexByte l 60 = (n : Int) ∧ l.takeWhile (· ≠ 60) = l.take n ∧ l.dropWhile (· ≠ 60) = l.drop n := by
  rcases M.idx_cases 60 l with ⟨h1, h2⟩ | ⟨p, q, h1, h2, h3⟩
  · refine .inl ⟨h2, h1, ?_, ?_⟩
    · have hp : ∀ x ∈ l, decide (x ≠ 60) = true := fun x hx => by simp; rintro rfl; exact h2 hx
      have := List.takeWhile_append_of_pos (l₂ := []) hp
      simpa using this
    · have hp : ∀ x ∈ l, decide (x ≠ 60) = true := fun x hx => by simp; rintro rfl; exact h2 hx
      have := List.dropWhile_append_of_pos (l₂ := []) hp
      simpa using this
  · refine .inr ⟨p.length, by rw [h1]; simp, h3, ?_, ?_⟩
    all_goals
      have hp : ∀ x ∈ p, decide (x ≠ 60) = true := fun x hx => by simp; rintro rfl; exact h2 hx
      rw [h1]
    · rw [List.takeWhile_append_of_pos hp]
      simp
    · rw [List.dropWhile_append_of_pos hp]
      simp
set_option maxHeartbeats 4000000 in
set_option maxRecDepth 100000 in
theorem token_text (b al : Nat) (q : UInt8) (t0 : List UInt8) (hq60 : q ≠ 60) (w : World) (h : CutAt b al (q :: t0) w) (hz : t0.length + 1 ≤ al) (hall : al ≤ 1000000000) (w0 : World) (hw0 : Below w0.heap.size w0 w) (hG0 : Glob w0) (hb0 : w0.heap.size ≤ b) :
    Calls Tryz.prog 24 #[.pointer (some ⟨b, 0, none⟩)] w fun e w' => tokP b al w.heap.size (T.tokenL al (q :: t0)) e w' ∧ Off [b] w w' := by
  have hb := h.lt
  have t1 : TokAt w.heap.size 0 [] (.slice none 0 0) ⟨#[]⟩ 0 (w.alloc (.cells #[.int .u8 0, .string ⟨#[]⟩, .slice none 0 0, .string ⟨#[]⟩, .int .i64 0] 33 (0, 0))) := blk_new _ _
  have o1 : Off [] w (w.alloc (.cells #[.int .u8 0, .string ⟨#[]⟩, .slice none 0 0, .string ⟨#[]⟩, .int .i64 0] 33 (0, 0))) := Off.alloc _ _ _
  have h1 := h.kept o1 (by simp)
  have HA := Lib.hid (at_k b al (q :: t0) _ h1 (by simp; omega) (by omega))
  obtain ⟨p0, hp0⟩ : ∃ p0 : Int, p0 = (al : Int) - ((q :: t0).length : Nat) := ⟨_, rfl⟩
  rw [← hp0] at HA
  have HP0 : Hid (p0 = ((al - (q :: t0).length : Nat) : Int)) := by
    show p0 = _
    simp at hp0 ⊢
    omega
  have hp1 : 0 ≤ p0 ∧ p0 ≤ 1000000000 := by simp at hp0; omega
  clear hp0
  generalize hR : T.tokenL al (q :: t0) = R
  unfold T.tokenL at hR
  rw [if_neg (show ¬ (q :: t0).head? = some 60 by simpa using hq60)] at hR
  have hix := index0 q t0
  have hqi : ((q.toNat : Int) == 60) = false := by
    simp only [beq_eq_false_iff_ne, ne_eq]
    intro e
    exact hq60 (UInt8.toNat_inj.mp (by have : (60 : UInt8).toNat = 60 := rfl; omega))
  obtain ⟨l, hl⟩ : ∃ l, l = q :: t0 := ⟨_, rfl⟩
  have hll : l.length ≤ al := by rw [hl]; simpa using hz
  rw [← hl] at h h1 HP0 hR hix
  clear hl
  obtain ⟨n, hn, hcase, ht, hd⟩ : ∃ n : Nat, n ≤ l.length ∧ (Lib.indexByte l 60 = (n : Int) ∨ (Lib.indexByte l 60 = -1 ∧ n = l.length)) ∧ l.takeWhile (· ≠ 60) = l.take n ∧ l.dropWhile (· ≠ 60) = l.drop n := by
    rcases idx60 l with ⟨_, i1, i2, i3⟩ | ⟨n, i0, i1, i2, i3⟩
    · exact ⟨l.length, Nat.le_refl _, .inr ⟨i1, rfl⟩, by rw [i2]; simp, by rw [i3]; simp⟩
    · exact ⟨n, i0, .inl i1, i2, i3⟩
  rw [ht, hd] at hR
  clear ht hd
  have s1 := slice_to_l l n hn
  have s2 := slice_from_l l n hn
  have htl : (l.take n).length ≤ 1000000000 := by rw [List.length_take]; omega
  have hDle := (E.D_le _ (l.take n) (Nat.le_refl _)).1
  have hsz := mk_sz l
  generalize l.take n = x at hR s1 htl hDle
  generalize l.drop n = y at hR s2
  obtain ⟨o, pq, er, hO⟩ : ∃ o pq er, E.D x = (o, pq, er) := ⟨_, _, _, rfl⟩
  rw [hO] at hR hDle
  simp only at hR hDle
  have HI : Hid (∀ W, Calls Tryz.prog 41 #[.string ⟨l.toArray⟩, .int .u8 60] W fun e w' => e = .returned (.int .i64 (Lib.indexByte l 60)) ∧ w' = W) := Lib.hid (fun W => Tryz.strings_IndexByte ⟨l.toArray⟩ 60 W)
  have HR := Lib.hid hR
  clear hR
  obtain ⟨so, q1, HDEC, hsq, hq1⟩ : ∃ (so : ByteArray) (q1 : Int), Hid (∀ W, Glob W → Calls Tryz.prog 42 #[.string ⟨x.toArray⟩] W fun e w' => e = .returned (.tuple #[.string so, .int .i64 q1, .int .i64 (er : Int)]) ∧ Below W.heap.size W w') ∧ Hid ((er = 0 → so = ⟨o.toArray⟩) ∧ (er ≠ 0 → q1 = pq)) ∧ 0 ≤ q1 ∧ q1 ≤ x.length := by
    have hsz := mk_sz x
    by_cases her : er = 0
    · subst her
      refine ⟨⟨o.toArray⟩, 0, Lib.hid (fun W hg => entity_Decode.calls ⟨x.toArray⟩ ⟨o.toArray⟩ 0 0 W hg (by
        unfold entity_Decode.f
        rw [if_pos (by omega)]
        show some ((⟨(decR x).1.toArray⟩ : ByteArray), (decR x).2.1, (decR x).2.2) = _
        unfold decR
        rw [hO]
        rfl)), ⟨fun _ => rfl, fun e => absurd rfl e⟩, by omega, by omega⟩
    · refine ⟨⟨#[]⟩, pq, Lib.hid (fun W hg => entity_Decode.calls ⟨x.toArray⟩ ⟨#[]⟩ (pq : Int) (er : Int) W hg (by
        unfold entity_Decode.f
        rw [if_pos (by omega)]
        show some ((⟨(decR x).1.toArray⟩ : ByteArray), (decR x).2.1, (decR x).2.2) = _
        unfold decR
        rw [hO]
        simp only [if_neg her])), ⟨fun e => absurd e her, fun _ => rfl⟩, by omega, by omega⟩
  have hwr : IntKind.i64.wrap (p0 + q1) = p0 + q1 := IntWalk.i64_in _ (by omega)
  clear hO
  rcases hcase with hc | ⟨hc, rfl⟩
  · rw [hc] at HI
    have hlt : decide ((n : Int) < 0) = false := decide_eq_false (by omega)
    go_enter Tryz.func24, Tryz.ntmps24
    go_wp2_with (first
      | (go_at_call 38; refine HA.out.mono ?_; rintro e w2 ⟨rfl, o2⟩; have h2 := h1.kept o2 (by simp); have t2 := t1.kept o2 (by simp); have c24 := t2.c4; have f24 := t2.soft 4; have o3 := Off.put w2 w.heap.size 4 (.int .i64 p0) (bs := [w.heap.size]) (by simp); have h3 := h2.kept o3 (by simp; omega); have r3 := h3.rest; have t3 : TokAt w.heap.size 0 [] (.slice none 0 0) ⟨#[]⟩ p0 (w2.setCell ⟨w.heap.size, 4, none⟩ (.int .i64 p0)) := blk_put t2 4 _ rfl; have q3 : Off [w.heap.size] w (w2.setCell ⟨w.heap.size, 4, none⟩ (.int .i64 p0)) := ((o1.more (by simp)).trans (o2.more (by simp))).trans o3)
      | (go_at_call 41; refine (HI.out _).mono ?_; rintro e w4 ⟨rfl, rfl⟩; have e30 := t3.c0; have f30 := t3.soft 0; have t4 := t3.kind 4; have o4 := Off.put (w2.setCell ⟨w.heap.size, 4, none⟩ (.int .i64 p0)) w.heap.size 0 (.int .u8 4) (bs := [w.heap.size]) (by simp); have h4 := h3.kept o4 (by simp; omega); have r4 := h4.rest; have q4 := q3.trans o4)
      | (go_at_call 42; refine (HDEC.out _ (hG0.of_below (q4.below hw0 hw0.size (by intro i hi; simp at hi; have := hw0.size; omega)))).mono ?_; rintro e w5 ⟨rfl, hb5⟩; have o5 : Off [] _ w5 := Off.of_below hb5; have t5 := t4.kept o5 (by simp); have h5 := h4.kept o5 (by simp); have e53 := t5.c3; have f53 := t5.soft 3; have o6 := Off.put w5 w.heap.size 3 (.string so) (bs := [w.heap.size]) (by simp); have h6 := h5.kept o6 (by simp; omega); have r6 := h6.rest; have t6 : TokAt w.heap.size 4 [] (.slice none 0 0) so p0 (w5.setCell ⟨w.heap.size, 3, none⟩ (.string so)) := blk_put t5 3 _ rfl; have f61 := h6.soft 1; have h7 := h6.put y; have o7 := Off.put (w5.setCell ⟨w.heap.size, 3, none⟩ (.string so)) b 1 (.string ⟨y.toArray⟩) (bs := [b]) (by simp); have t7 := t6.kept o7 (by simp; omega); have g0 := t7.c0; have g1 := t7.c1; have g2 := t7.c2; have g3 := t7.c3; have g4 := t7.c4; have k0 := t7.soft 0; have k1 := t7.soft 1; have k2 := t7.soft 2; have k3 := t7.soft 3; have k4 := t7.soft 4))
    refine bodyPost_ret (results_ctt rfl _ _ w.heap.size 33 _ (0, 0) _ rfl (tok5 t7) Tryz.underlying33 rfl (by kernel_rfl)) rfl ?_
    have hq := (((((q4.more (cs := [b, w.heap.size]) (by simp)).trans (o5.more (by simp))).trans (o6.more (by simp))).trans (o7.more (by simp))).trans ((off5 _ w.heap.size (.int .u8 4) (.string ⟨([] : List UInt8).toArray⟩) (.slice none 0 0) (.string so) (.int .i64 p0)).more (by simp))).less (cs := [b]) (by intro i hi hl; simp at hi ⊢; omega)
    refine ⟨?_, hq⟩
    have hR2 := HR.out
    subst hR2
    unfold tokP
    by_cases her : er ≠ 0
    · simp only [if_pos her]
      have hq1 := hsq.out.2 her
      have e1 : ((al - l.length + pq : Nat) : Int) = p0 + q1 := by have := HP0.out; omega
      rw [e1]
      exact ⟨_, _, _, _, _, _, _, rfl⟩
    · simp only [if_neg her]
      rw [if_neg (by simp)]
      obtain rfl : er = 0 := by omega
      obtain rfl := hsq.out.1 rfl
      refine ⟨none, 0, 0, p0 + q1, ?_, h7.kept (off5 _ w.heap.size (.int .u8 4) (.string ⟨([] : List UInt8).toArray⟩) (.slice none 0 0) (.string ⟨o.toArray⟩) (.int .i64 p0)) (by simp; omega), World.ownsRow_nil _ _ _ _⟩
      show _ = Ending.returned (.tuple #[.agg #[.int .u8 4, .string ⟨#[]⟩, _, .string ⟨o.toArray⟩, .int .i64 ((al - l.length : Nat) : Int)], _, _])
      rw [← HP0.out]
      rfl
  · rw [hc] at HI
    go_enter Tryz.func24, Tryz.ntmps24
    go_wp2_with (first
      | (go_at_call 38; refine HA.out.mono ?_; rintro e w2 ⟨rfl, o2⟩; have h2 := h1.kept o2 (by simp); have t2 := t1.kept o2 (by simp); have c24 := t2.c4; have f24 := t2.soft 4; have o3 := Off.put w2 w.heap.size 4 (.int .i64 p0) (bs := [w.heap.size]) (by simp); have h3 := h2.kept o3 (by simp; omega); have r3 := h3.rest; have t3 : TokAt w.heap.size 0 [] (.slice none 0 0) ⟨#[]⟩ p0 (w2.setCell ⟨w.heap.size, 4, none⟩ (.int .i64 p0)) := blk_put t2 4 _ rfl; have q3 : Off [w.heap.size] w (w2.setCell ⟨w.heap.size, 4, none⟩ (.int .i64 p0)) := ((o1.more (by simp)).trans (o2.more (by simp))).trans o3)
      | (go_at_call 41; refine (HI.out _).mono ?_; rintro e w4 ⟨rfl, rfl⟩; have e30 := t3.c0; have f30 := t3.soft 0; have t4 := t3.kind 4; have o4 := Off.put (w2.setCell ⟨w.heap.size, 4, none⟩ (.int .i64 p0)) w.heap.size 0 (.int .u8 4) (bs := [w.heap.size]) (by simp); have h4 := h3.kept o4 (by simp; omega); have r4 := h4.rest; have q4 := q3.trans o4)
      | (go_at_call 42; refine (HDEC.out _ (hG0.of_below (q4.below hw0 hw0.size (by intro i hi; simp at hi; have := hw0.size; omega)))).mono ?_; rintro e w5 ⟨rfl, hb5⟩; have o5 : Off [] _ w5 := Off.of_below hb5; have t5 := t4.kept o5 (by simp); have h5 := h4.kept o5 (by simp); have e53 := t5.c3; have f53 := t5.soft 3; have o6 := Off.put w5 w.heap.size 3 (.string so) (bs := [w.heap.size]) (by simp); have h6 := h5.kept o6 (by simp; omega); have r6 := h6.rest; have t6 : TokAt w.heap.size 4 [] (.slice none 0 0) so p0 (w5.setCell ⟨w.heap.size, 3, none⟩ (.string so)) := blk_put t5 3 _ rfl; have f61 := h6.soft 1; have h7 := h6.put y; have o7 := Off.put (w5.setCell ⟨w.heap.size, 3, none⟩ (.string so)) b 1 (.string ⟨y.toArray⟩) (bs := [b]) (by simp); have t7 := t6.kept o7 (by simp; omega); have g0 := t7.c0; have g1 := t7.c1; have g2 := t7.c2; have g3 := t7.c3; have g4 := t7.c4; have k0 := t7.soft 0; have k1 := t7.soft 1; have k2 := t7.soft 2; have k3 := t7.soft 3; have k4 := t7.soft 4))
    refine bodyPost_ret (results_ctt rfl _ _ w.heap.size 33 _ (0, 0) _ rfl (tok5 t7) Tryz.underlying33 rfl (by kernel_rfl)) rfl ?_
    have hq := (((((q4.more (cs := [b, w.heap.size]) (by simp)).trans (o5.more (by simp))).trans (o6.more (by simp))).trans (o7.more (by simp))).trans ((off5 _ w.heap.size (.int .u8 4) (.string ⟨([] : List UInt8).toArray⟩) (.slice none 0 0) (.string so) (.int .i64 p0)).more (by simp))).less (cs := [b]) (by intro i hi hl; simp at hi ⊢; omega)
    refine ⟨?_, hq⟩
    have hR2 := HR.out
    subst hR2
    unfold tokP
    by_cases her : er ≠ 0
    · simp only [if_pos her]
      have hq1 := hsq.out.2 her
      have e1 : ((al - l.length + pq : Nat) : Int) = p0 + q1 := by have := HP0.out; omega
      rw [e1]
      exact ⟨_, _, _, _, _, _, _, rfl⟩
    · simp only [if_neg her]
      rw [if_neg (by simp)]
      obtain rfl : er = 0 := by omega
      obtain rfl := hsq.out.1 rfl
      refine ⟨none, 0, 0, p0 + q1, ?_, h7.kept (off5 _ w.heap.size (.int .u8 4) (.string ⟨([] : List UInt8).toArray⟩) (.slice none 0 0) (.string ⟨o.toArray⟩) (.int .i64 p0)) (by simp; omega), World.ownsRow_nil _ _ _ _⟩
      show _ = Ending.returned (.tuple #[.agg #[.int .u8 4, .string ⟨#[]⟩, _, .string ⟨o.toArray⟩, .int .i64 ((al - l.length : Nat) : Int)], _, _])
      rw [← HP0.out]
      rfl
end Go.Proofs.YtpknhgejnfmijaaGreatDoor.X
