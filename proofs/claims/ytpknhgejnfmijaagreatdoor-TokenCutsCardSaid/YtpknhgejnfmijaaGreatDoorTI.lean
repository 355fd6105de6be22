/- A text of the claim, with what no other text of it needs taken out. -/
import Derived.Test.YtpknhgejnfmijaaGreatDoorTH
namespace Go.Proofs.YtpknhgejnfmijaaGreatDoor.X
open Go.RowKit Go.Proofs.YtpknhgejnfmijaaGreatDoorW.PrintWords Go.Proofs.YtpknhgejnfmijaaGreatDoor
set_option linter.unusedVariables false
set_option linter.unusedSimpArgs false
theorem attrL_more (l : List UInt8) (a : T.Raw) (r : List UInt8) (h : T.attrL l = some (a, r)) : a.left ≤ l.length ∧ a.value.length ≤ l.length ∧ r.length < l.length := by
  unfold T.attrL at h
  have e0 := T.skipB_le (l.drop (M.beginL l))
  simp only [List.length_drop] at e0
  generalize T.skipB (l.drop (M.beginL l)) = l2 at h e0
  split at h
  · cases h
  cases l2 with
  | nil => cases h
  | cons c r1 =>
    by_cases hc : c = 61
    · subst hc
      simp only at h
      have e1 := T.skipB_le r1
      generalize T.skipB r1 = l4 at h e1
      cases l4 with
      | nil => cases h
      | cons q v =>
        simp only at h
        split at h
        · cases hk : T.cutAt q v with
          | none => rw [hk] at h; cases h
          | some z =>
            rw [hk] at h
            simp only at h
            split at h
            · cases h
            · simp only [Option.some.injEq, Prod.mk.injEq] at h
              obtain ⟨rfl, rfl⟩ := h
              have e3 := T.cutAt_len _ _ _ _ hk
              simp at e0 e1 ⊢
              omega
        · cases h
    · have : ∀ x, c :: r1 ≠ 61 :: x := fun x e => hc (List.cons.inj e).1
      split at h
      · exact absurd (by assumption) (this _)
      · cases h
theorem tagLoop_more : ∀ (k : Nat) (l : List UInt8) (acc : List T.Raw) (kd : Nat) (rs : List T.Raw) (rest : List UInt8), T.tagLoop k l acc = some (kd, rs, rest) →
    (∀ B, l.length ≤ B → (∀ a ∈ acc, a.left ≤ B ∧ a.value.length ≤ B) → ∀ a ∈ rs, a.left ≤ B ∧ a.value.length ≤ B) ∧ rs.length ≤ acc.length + l.length ∧ rest.length < l.length := by
  intro k
  induction k with
  | zero => intro l acc kd rs rest h; cases h
  | succ k ih =>
    intro l acc kd rs rest h
    unfold T.tagLoop at h
    have e0 := T.skipB_le l
    generalize T.skipB l = l2 at h e0
    split at h
    · rename_i hc
      cases ha : T.attrL l2 with
      | none => rw [ha] at h; cases h
      | some x =>
        obtain ⟨a, r⟩ := x
        rw [ha] at h
        simp only at h
        obtain ⟨h1, h2, h3⟩ := ih _ _ _ _ _ h
        obtain ⟨a1, a2, a3⟩ := attrL_more _ _ _ ha
        refine ⟨fun B hB hacc => h1 B (by omega) (fun y hy => ?_), by simp at h2; omega, by omega⟩
        rcases List.mem_append.mp hy with hy | hy
        · exact hacc y hy
        · simp only [List.mem_singleton] at hy
          subst hy
          omega
    · split at h
      · rename_i hp
        simp only [Option.some.injEq, Prod.mk.injEq] at h
        obtain ⟨_, rfl, rfl⟩ := h
        have hl := (List.isPrefixOf_iff_prefix.mp hp).length_le
        refine ⟨fun B _ hacc => hacc, by omega, ?_⟩
        rw [List.length_drop]
        simp at hl
        omega
      · cases l2 with
        | nil => cases h
        | cons c r =>
          by_cases hc : c = 62
          · subst hc
            simp only [Option.some.injEq, Prod.mk.injEq] at h
            obtain ⟨_, rfl, rfl⟩ := h
            exact ⟨fun B _ hacc => hacc, by omega, by simp at e0; omega⟩
          · have : ∀ x, c :: r ≠ 62 :: x := fun x e => hc (List.cons.inj e).1
            split at h
            · exact absurd (by assumption) (this _)
            · cases h
theorem tagL_more (l : List UInt8) (kd : Nat) (n : List UInt8) (rs : List T.Raw) (rest : List UInt8) (h : T.tagL l = some (kd, n, rs, rest)) :
    (∀ a ∈ rs, a.left ≤ l.length ∧ a.value.length ≤ l.length) ∧ rs.length ≤ l.length ∧ rest.length < l.length := by
  unfold T.tagL at h
  split at h
  · rename_i hp
    split at h
    · cases h
    · have e0 := T.skipB_le ((l.drop 2).drop (M.beginL (l.drop 2)))
      simp only [List.length_drop] at e0
      generalize T.skipB ((l.drop 2).drop (M.beginL (l.drop 2))) = l2 at h e0
      cases l2 with
      | nil => cases h
      | cons c r =>
        by_cases hc : c = 62
        · subst hc
          simp only [Option.some.injEq, Prod.mk.injEq] at h
          obtain ⟨_, _, rfl, rfl⟩ := h
          exact ⟨by simp, by simp, by simp at e0; omega⟩
        · have : ∀ x, c :: r ≠ 62 :: x := fun x e => hc (List.cons.inj e).1
          split at h
          · exact absurd (by assumption) (this _)
          · cases h
  · split at h
    · cases h
    · cases ht : T.tagLoop l.length ((l.drop 1).drop (M.beginL (l.drop 1))) [] with
      | none => rw [ht] at h; cases h
      | some x =>
        obtain ⟨k2, rs2, r2⟩ := x
        rw [ht] at h
        simp only [Option.map_some, Option.some.injEq, Prod.mk.injEq] at h
        obtain ⟨_, _, rfl, rfl⟩ := h
        obtain ⟨h1, h2, h3⟩ := tagLoop_more _ _ _ _ _ _ ht
        simp only [List.length_drop, List.length_nil] at h1 h2 h3
        exact ⟨h1 l.length (by omega) (by simp), by omega, by omega⟩
theorem readL_len (al : Nat) : ∀ (rs : List T.Raw) (acc : List (List UInt8 × List UInt8)), (T.readL al rs acc).2.2 = 0 → (T.readL al rs acc).1.length = acc.length + rs.length := by
  intro rs
  induction rs with
  | nil => intro acc _; rfl
  | cons a rs ih =>
    intro acc h
    unfold T.readL at h ⊢
    by_cases he : (E.D a.value).2.2 ≠ 0
    · rw [if_pos he] at h
      exact absurd h he
    · rw [if_neg he] at h ⊢
      rw [ih _ h]
      simp
      omega
theorem tag_k (b tb : Nat) (all : Int) (t0 : List UInt8) (w : World) (h : CutAt b all (60 :: t0) w) (k : Int) (n : List UInt8) (av : Value) (tx : ByteArray) (p : Int) (ht : TokAt tb k n av tx p w) (hne : b ≠ tb) (hz : (t0.length : Int) + 1 ≤ all) (hall : all ≤ 1000000000) :
    Calls Tryz.prog 39 #[.pointer (some ⟨b, 0, none⟩), .pointer (some ⟨tb, 0, none⟩)] w fun e w' => tagP b tb all w.heap.size av tx p (T.tagL (60 :: t0)) e w' ∧ Off [b, tb] w w' := by
  cases hpre : [60, 47].isPrefixOf (60 :: t0) with
  | true => exact tag_close b tb all (60 :: t0) w h k n av tx p ht hne (by simpa using hz) hall hpre
  | false => exact tag_open b tb all t0 w h k n av tx p ht hne hz hall hpre
def tokV (t : T.Tok) (av : Value) : Value := .agg #[.int .u8 t.kind, .string ⟨t.name.toArray⟩, av, .string ⟨t.text.toArray⟩, .int .i64 t.at_]
def tokP (b : Nat) (al base : Nat) (R : T.Tok × Nat × Nat × List UInt8) (e : Ending) (w : World) : Prop :=
  if R.2.2.1 ≠ 0 then ∃ (k : Int) (n : ByteArray) (A : Option Addr) (m c : Nat) (tx : ByteArray) (p : Int), e = .returned (.tuple #[.agg #[.int .u8 k, .string n, .slice A m c, .string tx, .int .i64 p], .int .i64 (R.2.1 : Int), .int .i64 (R.2.2.1 : Int)])
  else ∃ (A : Option Addr) (m c : Nat) (q : Int), e = .returned (.tuple #[tokV R.1 (.slice A m c), .int .i64 q, .int .i64 0]) ∧ CutAt b (al : Int) R.2.2.2 w ∧ w.ownsRow base 38 2 (.slice A m c) R.1.attrs.length (attrCells R.1.attrs)
theorem tok5 {tb : Nat} {k : Int} {n : List UInt8} {av : Value} {tx : ByteArray} {p : Int} {W : World} (h : TokAt tb k n av tx p W) :
    TokAt tb k n av tx p (((((W.setCell ⟨tb, 0, none⟩ (.int .u8 k)).setCell ⟨tb, 1, none⟩ (.string ⟨n.toArray⟩)).setCell ⟨tb, 2, none⟩ av).setCell ⟨tb, 3, none⟩ (.string tx)).setCell ⟨tb, 4, none⟩ (.int .i64 p)) :=
  blk_put (cs := #[.int .u8 k, .string ⟨n.toArray⟩, av, .string tx, .int .i64 p]) (blk_put (cs := #[.int .u8 k, .string ⟨n.toArray⟩, av, .string tx, .int .i64 p]) (blk_put (cs := #[.int .u8 k, .string ⟨n.toArray⟩, av, .string tx, .int .i64 p]) (blk_put (cs := #[.int .u8 k, .string ⟨n.toArray⟩, av, .string tx, .int .i64 p]) (blk_put (cs := #[.int .u8 k, .string ⟨n.toArray⟩, av, .string tx, .int .i64 p]) h 0 _ rfl) 1 _ rfl) 2 _ rfl) 3 _ rfl) 4 _ rfl
theorem off5 (W : World) (tb : Nat) (a b c d e : Value) : Off [tb] W (((((W.setCell ⟨tb, 0, none⟩ a).setCell ⟨tb, 1, none⟩ b).setCell ⟨tb, 2, none⟩ c).setCell ⟨tb, 3, none⟩ d).setCell ⟨tb, 4, none⟩ e) :=
  ((((Off.put _ _ _ _ (by simp)).trans (Off.put _ _ _ _ (by simp))).trans (Off.put _ _ _ _ (by simp))).trans (Off.put _ _ _ _ (by simp))).trans (Off.put _ _ _ _ (by simp))
set_option maxHeartbeats 4000000 in
set_option maxRecDepth 100000 in
theorem token_tag (b al : Nat) (t0 : List UInt8) (w : World) (h : CutAt b al (60 :: t0) w) (hz : t0.length + 1 ≤ al) (hall : al ≤ 1000000000) (w0 : World) (hw0 : Below w0.heap.size w0 w) (hG0 : Glob w0) (hb0 : w0.heap.size ≤ b) :
    Calls Tryz.prog 24 #[.pointer (some ⟨b, 0, none⟩)] w fun e w' => tokP b al w.heap.size (T.tokenL al (60 :: t0)) e w' ∧ Off [b] w w' := by
  have hb := h.lt
  have t1 : TokAt w.heap.size 0 [] (.slice none 0 0) ⟨#[]⟩ 0 (w.alloc (.cells #[.int .u8 0, .string ⟨#[]⟩, .slice none 0 0, .string ⟨#[]⟩, .int .i64 0] 33 (0, 0))) := blk_new _ _
  have o1 : Off [] w (w.alloc (.cells #[.int .u8 0, .string ⟨#[]⟩, .slice none 0 0, .string ⟨#[]⟩, .int .i64 0] 33 (0, 0))) := Off.alloc _ _ _
  have h1 := h.kept o1 (by simp)
  have HA := Lib.hid (at_k b al (60 :: t0) _ h1 (by simp; omega) (by omega))
  obtain ⟨p0, hp0⟩ : ∃ p0 : Int, p0 = (al : Int) - ((60 :: t0).length : Nat) := ⟨_, rfl⟩
  rw [← hp0] at HA
  have HP0 : Hid (p0 = ((al - (60 :: t0).length : Nat) : Int)) := by
    show p0 = _
    simp at hp0 ⊢
    omega
  clear hp0
  generalize hR : T.tokenL al (60 :: t0) = R
  unfold T.tokenL at hR
  rw [if_pos (show (60 :: t0).head? = some 60 from rfl)] at hR
  have HR := Lib.hid hR
  clear hR h
  have hix := index0 60 t0
  have HTG := Lib.hid (fun W tb hw ht hne => tag_k b tb al t0 W hw 0 [] (.slice none 0 0) ⟨#[]⟩ p0 ht hne (by omega) (by omega))
  have hmore := tagL_more (60 :: t0)
  generalize T.tagL (60 :: t0) = G at HTG HR hmore
  go_enter Tryz.func24, Tryz.ntmps24
  go_wp2_with (go_at_call 38; refine HA.out.mono ?_; rintro e w2 ⟨rfl, o2⟩; have h2 := h1.kept o2 (by simp); have t2 := t1.kept o2 (by simp); have c24 := t2.c4; have f24 := t2.soft 4; have o3 := Off.put w2 w.heap.size 4 (.int .i64 p0) (bs := [w.heap.size]) (by simp); have h3 := h2.kept o3 (by simp; omega); have r3 := h3.rest; have t3 : TokAt w.heap.size 0 [] (.slice none 0 0) ⟨#[]⟩ p0 (w2.setCell ⟨w.heap.size, 4, none⟩ (.int .i64 p0)) := blk_put t2 4 _ rfl)
  have q3 : Off [w.heap.size] w (w2.setCell ⟨w.heap.size, 4, none⟩ (.int .i64 p0)) := ((o1.more (by simp)).trans (o2.more (by simp))).trans o3
  refine (HTG.out _ _ h3 t3 (by omega)).mono ?_
  rintro e w4 ⟨hP, o4⟩
  have q4 : Off [b, w.heap.size] w w4 := (q3.more (by simp)).trans o4
  cases G with
  | none =>
    obtain ⟨⟨v, rfl⟩, k4, n4, t4⟩ := hP
    have e0 := t4.c0; have e1 := t4.c1; have e2 := t4.c2; have e3 := t4.c3; have e4 := t4.c4
    have f0 := t4.soft 0; have f1 := t4.soft 1; have f2 := t4.soft 2; have f3 := t4.soft 3; have f4 := t4.soft 4
    go_wp2
    refine bodyPost_ret (results_ctt rfl _ _ w.heap.size 33 _ (0, 0) _ rfl (tok5 t4) Tryz.underlying33 rfl (by kernel_rfl)) rfl ?_
    have hq := q4.trans ((off5 w4 w.heap.size (.int .u8 k4) (.string ⟨n4.toArray⟩) (.slice none 0 0) (.string ⟨#[]⟩) (.int .i64 p0)).more (by simp))
    refine ⟨?_, hq.less (by intro i hi hl; simp at hi ⊢; omega)⟩
    have hR2 := HR.out
    subst hR2
    unfold tokP
    rw [if_pos (by simp), HP0.out]
    exact ⟨_, _, _, _, _, _, _, rfl⟩
  | some G =>
    obtain ⟨kd, n, rs, rest⟩ := G
    obtain ⟨v, rfl, own4, t4, h4⟩ := hP
    obtain ⟨m1, m2, m3⟩ := hmore kd n rs rest rfl
    clear hmore
    simp only [List.length_cons] at m1 m2 m3
    have hB4 : Below w0.heap.size w0 w4 := q4.below hw0 hw0.size (by intro i hi; simp at hi; have := hw0.size; omega)
    have HRD := Lib.hid (read_k w.heap.size al _ rs v w4 (hG0.of_below hB4) kd n ⟨#[]⟩ p0 t4 hall (fun r hr => ⟨by have := (m1 r hr).1; omega, by have := (m1 r hr).2; omega⟩) (by omega) own4 w0 hB4 hG0 hw0.size)
    clear m1 m2 m3 own4
    have hR2 := HR.out
    simp only at hR2
    have HRD2 := HRD.out
    unfold readP at HRD2
    clear HRD
    have fin : ∀ (w5 : World) (av : Value), Off [w.heap.size] w4 w5 → Off [b] w (((((w5.setCell ⟨w.heap.size, 0, none⟩ (.int .u8 kd)).setCell ⟨w.heap.size, 1, none⟩ (.string ⟨n.toArray⟩)).setCell ⟨w.heap.size, 2, none⟩ av).setCell ⟨w.heap.size, 3, none⟩ (.string ⟨#[]⟩)).setCell ⟨w.heap.size, 4, none⟩ (.int .i64 p0)) := fun w5 av o5 =>
      ((q4.trans (o5.more (by simp))).trans ((off5 w5 w.heap.size (.int .u8 kd) (.string ⟨n.toArray⟩) av (.string ⟨#[]⟩) (.int .i64 p0)).more (by simp))).less (cs := [b]) (by intro i hi hl; simp at hi ⊢; omega)
    have FIN := Lib.hid fin
    clear fin
    by_cases hr : (T.readL al rs []).2.2 ≠ 0
    · simp only [if_pos hr] at HRD2 hR2
      have HRD := Lib.hid HRD2
      clear HRD2
      go_wp2_with (go_at_call 40; refine HRD.out.mono ?_; rintro e w5 ⟨⟨A5, m5, c5, t5, rfl⟩, o5⟩; have e0 := t5.c0; have e1 := t5.c1; have e2 := t5.c2; have e3 := t5.c3; have e4 := t5.c4; have f0 := t5.soft 0; have f1 := t5.soft 1; have f2 := t5.soft 2; have f3 := t5.soft 3; have f4 := t5.soft 4)
      refine bodyPost_ret (results_ctt rfl _ _ w.heap.size 33 _ (0, 0) _ rfl (tok5 t5) Tryz.underlying33 rfl (by kernel_rfl)) rfl ?_
      refine ⟨?_, FIN.out _ _ o5⟩
      subst hR2
      unfold tokP
      rw [if_pos hr]
      exact ⟨_, _, _, _, _, _, _, rfl⟩
    · simp only [if_neg hr] at HRD2 hR2
      by_cases h32 : 32 < rs.length
      · simp only [if_pos h32] at HRD2 hR2
        have HRD := Lib.hid HRD2
        clear HRD2
        go_wp2_with (go_at_call 40; refine HRD.out.mono ?_; rintro e w5 ⟨⟨A5, m5, c5, t5, rfl⟩, o5⟩; have e0 := t5.c0; have e1 := t5.c1; have e2 := t5.c2; have e3 := t5.c3; have e4 := t5.c4; have f0 := t5.soft 0; have f1 := t5.soft 1; have f2 := t5.soft 2; have f3 := t5.soft 3; have f4 := t5.soft 4)
        refine bodyPost_ret (results_ctt rfl _ _ w.heap.size 33 _ (0, 0) _ rfl (tok5 t5) Tryz.underlying33 rfl (by kernel_rfl)) rfl ?_
        refine ⟨?_, FIN.out _ _ o5⟩
        subst hR2
        unfold tokP
        rw [if_pos (by simp), HP0.out]
        exact ⟨_, _, _, _, _, _, _, rfl⟩
      · simp only [if_neg h32] at HRD2 hR2
        have HRD := Lib.hid HRD2
        clear HRD2
        go_wp2_with (go_at_call 40; refine HRD.out.mono ?_; rintro e w5 ⟨⟨A5, m5, c5, t5, rfl, own5⟩, o5⟩; have e0 := t5.c0; have e1 := t5.c1; have e2 := t5.c2; have e3 := t5.c3; have e4 := t5.c4; have f0 := t5.soft 0; have f1 := t5.soft 1; have f2 := t5.soft 2; have f3 := t5.soft 3; have f4 := t5.soft 4)
        have h5 := h4.kept o5 (by simp; omega)
        refine bodyPost_ret (results_ctt rfl _ _ w.heap.size 33 _ (0, 0) _ rfl (tok5 t5) Tryz.underlying33 rfl (by kernel_rfl)) rfl ?_
        refine ⟨?_, FIN.out _ _ o5⟩
        subst hR2
        unfold tokP
        rw [if_neg (by simp)]
        have hlen : (T.readL al rs []).1.length = rs.length := by have := readL_len al rs [] (by omega); simpa using this
        refine ⟨A5, m5, c5, 0, ?_, h5.kept (off5 w5 w.heap.size (.int .u8 kd) (.string ⟨n.toArray⟩) (.slice A5 m5 c5) (.string ⟨#[]⟩) (.int .i64 p0)) (by simp; omega), ?_⟩
        · show _ = Ending.returned _
          rw [HP0.out]
          rfl
        · show World.ownsRow _ _ _ _ _ (T.readL al rs []).1.length _
          rw [hlen]
          have ow := (off5 w5 w.heap.size (.int .u8 kd) (.string ⟨n.toArray⟩) (.slice A5 m5 c5) (.string ⟨#[]⟩) (.int .i64 p0)).row own5 (fun k hk hk2 => row_ne own5 t5 (by decide) k hk (by simpa using hk2))
          exact ⟨ow.1, ow.2.imp id (fun ⟨g, cap, cur, h1, h2, h3⟩ => ⟨g, cap, cur, h1, by have := q4.size; omega, h3⟩)⟩
end Go.Proofs.YtpknhgejnfmijaaGreatDoor.X
