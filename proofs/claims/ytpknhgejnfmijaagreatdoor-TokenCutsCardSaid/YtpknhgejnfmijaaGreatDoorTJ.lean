/- A text of the claim, with what no other text of it needs taken out. -/
import Derived.Test.YtpknhgejnfmijaaGreatDoorTI2
import Derived.Test.YtpknhgejnfmijaaGreatDoorK
namespace Go.Proofs.YtpknhgejnfmijaaGreatDoor.X
open Go.RowKit Go.Proofs.YtpknhgejnfmijaaGreatDoorW.PrintWords Go.Proofs.YtpknhgejnfmijaaGreatDoorW.PrintLast Go.Proofs.YtpknhgejnfmijaaGreatDoorW.PrintMore Go.Proofs.YtpknhgejnfmijaaGreatDoor Go.Proofs.YtpknhgejnfmijaaGreatDoor.K
set_option linter.unusedVariables false
set_option linter.unusedSimpArgs false
def attrS (a : List UInt8 × List UInt8) : S38 := ⟨⟨a.1.toArray⟩, ⟨a.2.toArray⟩⟩
def tokS (t : T.Tok) : S33 := ⟨(t.kind : Int), ⟨t.name.toArray⟩, t.attrs.map attrS, ⟨t.text.toArray⟩, (t.at_ : Int)⟩
theorem attr_reps (w : World) (base : Nat) (ok : Nat → Prop) : ∀ (l : List (List UInt8 × List UInt8)) (acc : List S38) (cs : List Value), Reps (k38.M w base ok) 2 acc cs → Reps (k38.M w base ok) 2 (acc ++ l.map attrS) (cs ++ attrCells l) := by
  intro l
  induction l with
  | nil => intro acc cs h; simpa [attrCells] using h
  | cons a l ih =>
    intro acc cs h
    have h1 := ih (acc ++ [attrS a]) (cs ++ [.string (attrS a).f0, .string (attrS a).f1]) (h.snoc (k38_mkM w base ok (attrS a)) rfl)
    have e1 : acc ++ [attrS a] ++ l.map attrS = acc ++ (a :: l).map attrS := by simp
    have e2 : cs ++ [.string (attrS a).f0, .string (attrS a).f1] ++ attrCells l = cs ++ attrCells (a :: l) := by simp [attrCells, attrS]
    rw [e1, e2] at h1
    exact h1
theorem attr_R {w : World} {base : Nat} {av : Value} {l : List (List UInt8 × List UInt8)} (h : w.ownsRow base 38 2 av l.length (attrCells l)) (ok : Nat → Prop) (hok : ∀ k, av.ownBlock = some k → ok k) :
    k38.R 38 w base ok av (l.map attrS) := by
  refine ⟨hok, attrCells l, ?_, ?_⟩
  · rw [List.length_map]; exact h
  · have := attr_reps w base (fun k => ok k ∧ some k ≠ av.ownBlock) l [] [] (Reps.none _ _)
    exact (by simpa using this : Reps (k38.M w base (fun k => ok k ∧ some k ≠ av.ownBlock)) 2 (l.map attrS) (attrCells l))
def token_Tokens.f (a0 : ByteArray) : Option (List S33 × Int × Int) :=
  some ((T.tokensL a0.data.toList).1.map tokS, ((T.tokensL a0.data.toList).2.1 : Int), ((T.tokensL a0.data.toList).2.2 : Int))
def token_Blank.f (a0 : ByteArray) : Option Bool := if a0.size ≤ 140737488351232 then some (a0.data.toList.all T.blank) else none
theorem tokenL_len (al : Nat) (l : List UInt8) (hl : l ≠ []) (h : (T.tokenL al l).2.2.1 = 0) : (T.tokenL al l).2.2.2.length < l.length := by
  unfold T.tokenL at h ⊢
  by_cases h0 : l.head? = some 60
  · rw [if_pos h0] at h ⊢
    cases ht : T.tagL l with
    | none => rw [ht] at h; simp at h
    | some x =>
      obtain ⟨k, n, rs, rest⟩ := x
      rw [ht] at h
      have h3 := (tagL_more l k n rs rest ht).2.2
      simp only at h ⊢
      by_cases h1 : (T.readL al rs []).2.2 ≠ 0
      · rw [if_pos h1] at h; exact absurd h h1
      · rw [if_neg h1] at h ⊢
        by_cases h2 : 32 < rs.length
        · rw [if_pos h2] at h; simp at h
        · rw [if_neg h2]; exact h3
  · rw [if_neg h0] at h ⊢
    by_cases h1 : (E.D (l.takeWhile (· ≠ 60))).2.2 ≠ 0
    · rw [if_pos h1] at h; exact absurd h h1
    · rw [if_neg h1]
      cases l with
      | nil => exact absurd rfl hl
      | cons c l =>
        have hc : c ≠ 60 := by simpa using h0
        rw [List.dropWhile_cons_of_pos (by simpa using hc)]
        have := (List.dropWhile_suffix (l := l) (fun x : UInt8 => decide (x ≠ 60))).length_le
        simp only [List.length_cons]
        omega
theorem remarkL_len (l r : List UInt8) (h : T.remarkL l = some r) : r.length < l.length := by
  unfold T.remarkL at h
  split at h
  · have := T.behind_len [45, 45, 62] (by simp) _ _ h
    rw [List.length_drop] at this
    omega
  · split at h
    · have := T.behind_len [63, 62] (by simp) _ _ h
      rw [List.length_drop] at this
      omega
    · cases h
theorem token_k (b al : Nat) (l : List UInt8) (hl : l ≠ []) (w : World) (h : CutAt b al l w) (hz : l.length ≤ al) (hall : al ≤ 1000000000) (w0 : World) (hw0 : Below w0.heap.size w0 w) (hG0 : Glob w0) (hb0 : w0.heap.size ≤ b) :
    Calls Tryz.prog 24 #[.pointer (some ⟨b, 0, none⟩)] w fun e w' => tokP b al w.heap.size (T.tokenL al l) e w' ∧ Off [b] w w' := by
  cases l with
  | nil => exact absurd rfl hl
  | cons q t0 =>
    by_cases hq : q = 60
    · subst hq
      exact token_tag b al t0 w h (by simpa using hz) hall w0 hw0 hG0 hb0
    · exact token_text b al q t0 hq w h (by simpa using hz) hall w0 hw0 hG0 hb0
theorem dw_isEmpty (p : UInt8 → Bool) : ∀ l : List UInt8, (l.dropWhile p).isEmpty = l.all p := by
  intro l
  induction l with
  | nil => rfl
  | cons c l ih =>
    by_cases h : p c = true
    · rw [List.dropWhile_cons_of_pos h, ih]; simp [h]
    · rw [List.dropWhile_cons_of_neg h]; simp [h]
theorem dw_all (p : UInt8 → Bool) : ∀ l : List UInt8, (l.dropWhile p).all p = l.all p := by
  intro l
  induction l with
  | nil => rfl
  | cons c l ih =>
    by_cases h : p c = true
    · rw [List.dropWhile_cons_of_pos h, ih]; simp [h]
    · rw [List.dropWhile_cons_of_neg h]
theorem trim_blank (l : List UInt8) : (Lib.trimS l [32, 9, 10, 13]).isEmpty = l.all T.blank := by
  have e : (fun c : UInt8 => ([32, 9, 10, 13] : List UInt8).contains c) = T.blank := by
    funext c
    simp only [T.blank, List.contains_cons, Bool.or_assoc, List.contains_nil, Bool.or_false]
  unfold Lib.trimS Lib.trimLeftS Lib.trimRightS
  show (List.dropWhile (fun c : UInt8 => ([32, 9, 10, 13] : List UInt8).contains c) (l.reverse.dropWhile (fun c : UInt8 => ([32, 9, 10, 13] : List UInt8).contains c)).reverse).isEmpty = _
  rw [e, dw_isEmpty, List.all_reverse, dw_all, List.all_reverse]
set_option maxHeartbeats 4000000 in
set_option maxRecDepth 100000 in
theorem token_Blank.calls (a0 : ByteArray) (r : Bool) (w : World) (h : token_Blank.f a0 = some r) :
    Calls Tryz.prog 11 #[.string a0] w fun e w' => e = .returned (.bool r) ∧ Below w.heap.size w w' := by
  unfold token_Blank.f at h
  split at h
  case isFalse => cases h
  rename_i hz
  have HT := Lib.hid (fun W => Any.strings_Trim_laid Tryz.lays160 (by kernel_rfl) a0 ⟨#[32, 9, 10, 13]⟩ W (by omega) (by decide) (ascii_of_all (by decide)))
  go_enter Tryz.func11, Tryz.ntmps11
  go_wp2_with (go_at_call 25; refine (HT.out _).mono ?_; rintro e w1 ⟨rfl, hB⟩)
  go_ret
  obtain rfl := Option.some.inj h
  exact ⟨by rw [← trim_blank]; rfl, hB⟩
theorem S_ok {α : Type} {d : Kd α} {e : Nat} {w : World} {base : Nat} {ok : Nat → Prop} {v : Value} {xs : List α} (h : Kd.S d e w base ok v xs) : ∀ k, v.ownBlock = some k → ok k := h.elim fun _ hR => hR.1
set_option maxHeartbeats 4000000 in
set_option maxRecDepth 100000 in
theorem token_Tokens.calls (a0 : ByteArray) (r1 : List S33) (r2 r3 : Int) (w : World) (hG : Glob w) (h : token_Tokens.f a0 = some (r1, r2, r3)) :
    Calls Tryz.prog 9 #[.string a0] w fun e w' => ∃ v, e = .returned (.tuple #[v, .int .i64 r2, .int .i64 r3]) ∧ Kd.S k33 33 w' w.heap.size (fun _ => True) v r1 ∧ Below w.heap.size w w' := by
  obtain ⟨l0, rfl⟩ : ∃ l, a0 = ⟨l.toArray⟩ := ⟨a0.data.toList, (ba_eq _ _).mpr rfl⟩
  unfold token_Tokens.f at h
  simp only [Option.some.injEq, Prod.mk.injEq] at h
  obtain ⟨rfl, rfl, rfl⟩ := h
  have hsz := mk_sz l0
  show Calls _ _ _ _ fun e w' => ∃ v, e = .returned (.tuple #[v, .int .i64 ((T.tokensL l0).2.1 : Int), .int .i64 ((T.tokensL l0).2.2 : Int)]) ∧ Kd.S k33 33 w' w.heap.size (fun _ => True) v ((T.tokensL l0).1.map tokS) ∧ Below w.heap.size w w'
  generalize hR : T.tokensL l0 = R
  unfold T.tokensL at hR
  by_cases hbig : 65536 < l0.length
  · rw [if_pos hbig] at hR
    subst hR
    have hd : decide ((65536 : Int) < ((⟨l0.toArray⟩ : ByteArray).size : Int)) = true := decide_eq_true (by omega)
    have hd2 : decide ((65536 : Int) < (l0.length : Int)) = true := decide_eq_true (by omega)
    go_enter Tryz.func9, Tryz.ntmps9
    go_wp2
    go_ret3
    exact ⟨_, rfl, Kd.S_nil _ _ _ _ _, Below.refl _ _⟩
  · rw [if_neg hbig] at hR
    have hd : decide ((65536 : Int) < ((⟨l0.toArray⟩ : ByteArray).size : Int)) = false := decide_eq_false (by omega)
    have hd2 : decide ((65536 : Int) < (l0.length : Int)) = false := decide_eq_false (by omega)
    have hv : PU.utf_Valid.f ⟨l0.toArray⟩ = some (U.validR l0) := U.utf_Valid_eq ⟨l0.toArray⟩ (by omega)
    obtain ⟨v1, v2, hvr⟩ : ∃ v1 v2, U.validR l0 = (v1, v2) := ⟨_, _, rfl⟩
    rw [hvr] at hv hR
    have HVAL := Lib.hid (fun W hg => PU.utf_Valid.calls ⟨l0.toArray⟩ v1 v2 W hg hv)
    simp only at hR
    by_cases hv2 : v2 ≠ 0
    · rw [if_pos hv2] at hR
      subst hR
      have hne : (v2 != 0) = true := by simpa using hv2
      go_enter Tryz.func9, Tryz.ntmps9
      go_wp2_with (go_at_call 22; refine (HVAL.out _ hG).mono ?_; rintro e w1 ⟨rfl, hB⟩)
      go_ret3
      have hv12 : (v1 = ((v1.toNat : Nat) : Int)) ∧ v2 = 10 := by
        unfold U.validR at hvr
        split at hvr <;> simp only [Prod.mk.injEq] at hvr <;> omega
      refine ⟨_, ?_, Kd.S_nil _ _ _ _ _, hB⟩
      show Ending.returned (.tuple #[_, .int .i64 v1, .int .i64 v2]) = .returned (.tuple #[_, .int .i64 ((v1.toNat : Nat) : Int), .int .i64 10])
      rw [← hv12.1, hv12.2]
      rfl
    · have hv20 : v2 = 0 := by omega
      subst hv20
      rw [if_neg hv2] at hR
      clear hv hvr hv2
      obtain ⟨m, hm⟩ := hG.ml
      have hGB := World.block_lt_of_cell? w _ hm
      go_enter Tryz.func9, Tryz.ntmps9
      go_wp2_with (go_at_call 22; refine (HVAL.out _ hG).mono ?_; rintro e w1 ⟨rfl, hB⟩)
      have hcb := hB.size
      have c1 : CutAt w1.heap.size (l0.length : Int) l0 (w1.alloc (.cells #[.int .i64 (l0.length : Int), .string ⟨l0.toArray⟩] 62 (0, 0))) := blk_new _ _
      have HB1 : Below w.heap.size w (w1.alloc (.cells #[.int .i64 (l0.length : Int), .string ⟨l0.toArray⟩] 62 (0, 0))) := hB.alloc hB.size _
      generalize w1.heap.size = cb at c1 hcb
      have HR := Lib.hid hR
      clear hR HVAL hd hd2
      go_loopw [7] (fun out wr => ∃ (l : List UInt8) (acc : List T.Tok) (k : Nat), CutAt cb (l0.length : Int) l wr ∧ Below w.heap.size w wr ∧ Kd.S k33 33 wr w.heap.size (fun k => k ≠ cb) out (acc.map tokS) ∧ l.length ≤ k ∧ l.length + acc.length ≤ l0.length ∧ Hid (T.tokensF l0.length k l acc = R))
        (fun _ wr => leftOf cb wr)
      case atStart => exact ⟨l0, [], l0.length, c1, HB1, Kd.S_nil _ _ _ _ _, Nat.le_refl _, by simp, HR.out⟩
      case round =>
        obtain ⟨l, acc, k, ha, hb, hs, hk, hla, HF⟩ := hrel
        have hr := ha.rest
        cases l with
        | nil =>
          have hf := HF.out
          cases k with
          | zero =>
            obtain rfl : (acc, 0, 0) = R := hf
            go_wp2
            go_ret3
            exact ⟨_, rfl, Kd.S_mono hs (fun _ _ => trivial), hb⟩
          | succ k =>
            obtain rfl : (acc, 0, 0) = R := hf
            go_wp2
            go_ret3
            exact ⟨_, rfl, Kd.S_mono hs (fun _ _ => trivial), hb⟩
        | cons q t0 =>
          obtain ⟨k, rfl⟩ : ∃ j, k = j + 1 := ⟨k - 1, by simp at hk; omega⟩
          have hmw : wr.cell? ⟨1, 0, none⟩ = some (.int .i64 m) := pw_cell_below hb hm
          have HREM := Lib.hid (remark_k cb l0.length (q :: t0) wr ha (by simp at hla ⊢; omega) m hmw (by omega))
          have hf := HF.out
          unfold T.tokensF at hf
          rw [if_neg (by simp)] at hf
          have hlo := leftOf_cut ha
          cases hrm : T.remarkL (q :: t0) with
          | some r =>
            rw [hrm] at HREM hf
            have hrl := remarkL_len _ _ hrm
            clear hm hmw
            go_wp2_with (go_at_call 23; refine HREM.out.mono ?_; rintro e w2 ⟨⟨rfl, h2⟩, o2⟩)
            have hl2 := leftOf_cut h2
            go_roundw
            case measure => rw [hl2, hlo]; exact hrl
            case rel => exact ⟨r, acc, k, h2, o2.below hb (by have := hb.size; omega) (by intro i hi; simp at hi; omega), Kd.S_step hs (fun i hi hlt => o2.block i hlt (by simpa using hi)), by simp at hk hrl; omega, by simp at hla hrl; omega, hf⟩
          | none =>
            rw [hrm] at HREM hf
            have HTK := Lib.hid (fun W h1 h2 => token_k cb l0.length (q :: t0) (by simp) W h1 (by simp at hla ⊢; omega) (by omega) w h2 hG hcb)
            have htl := tokenL_len l0.length (q :: t0) (by simp)
            generalize T.tokenL l0.length (q :: t0) = X at HTK hf htl
            obtain ⟨tk, pp, er, rest⟩ := X
            simp only at hf htl
            clear hm hmw
            by_cases her : er ≠ 0
            · rw [if_pos her] at hf
              have hne : ((er : Int) != 0) = true := by simpa using her
              have HT2 : Hid (∀ W, CutAt cb (l0.length : Int) (q :: t0) W → Below w.heap.size w W → Calls Tryz.prog 24 #[.pointer (some ⟨cb, 0, none⟩)] W fun e w' => (∃ (k : Int) (n : ByteArray) (A : Option Addr) (m c : Nat) (tx : ByteArray) (p : Int), e = .returned (.tuple #[.agg #[.int .u8 k, .string n, .slice A m c, .string tx, .int .i64 p], .int .i64 (pp : Int), .int .i64 (er : Int)])) ∧ Off [cb] W w') := Lib.hid (fun W h1 h2 => (HTK.out W h1 h2).mono (fun e w' hh => ⟨(if_pos her).mp hh.1, hh.2⟩))
              clear HTK
              go_wp2_with (first
                | (go_at_call 23; refine HREM.out.mono ?_; rintro e w2 ⟨⟨rfl, h2⟩, o2⟩; have hb2 := o2.below hb (by have := hb.size; omega) (by intro i hi; simp at hi; omega))
                | (go_at_call 24; refine (HT2.out _ h2 hb2).mono ?_; rintro e w3 ⟨⟨k3, n3, A3, m3, c3, tx3, p3, rfl⟩, o3⟩; have hb3 := o3.below hb2 (by have := hb2.size; omega) (by intro i hi; simp at hi; omega)))
              go_ret3
              subst hf
              exact ⟨_, rfl, Kd.S_nil _ _ _ _ _, hb3.alloc hb3.size _⟩
            · obtain rfl : er = 0 := by omega
              rw [if_neg (by simp)] at hf
              have htl2 := htl rfl
              have HT2 : Hid (∀ W, CutAt cb (l0.length : Int) (q :: t0) W → Below w.heap.size w W → Calls Tryz.prog 24 #[.pointer (some ⟨cb, 0, none⟩)] W fun e w' => (∃ (A : Option Addr) (m c : Nat) (q : Int), e = .returned (.tuple #[.agg #[.int .u8 tk.kind, .string ⟨tk.name.toArray⟩, .slice A m c, .string ⟨tk.text.toArray⟩, .int .i64 tk.at_], .int .i64 q, .int .i64 0]) ∧ CutAt cb (l0.length : Int) rest w' ∧ w'.ownsRow W.heap.size 38 2 (.slice A m c) tk.attrs.length (attrCells tk.attrs)) ∧ Off [cb] W w') := Lib.hid (fun W h1 h2 => (HTK.out W h1 h2).mono (fun e w' hh => ⟨(if_neg (by simp)).mp hh.1, hh.2⟩))
              clear HTK
              go_wp2_with (first
                | (go_at_call 23; refine HREM.out.mono ?_; rintro e w2 ⟨⟨rfl, h2⟩, o2⟩; have hb2 := o2.below hb (by have := hb.size; omega) (by intro i hi; simp at hi; omega))
                | (go_at_call 24; refine (HT2.out _ h2 hb2).mono ?_; rintro e w3 ⟨⟨A3, m3, c3, q3, rfl, h3, own3⟩, o3⟩; have hb3 := o3.below hb2 (by have := hb2.size; omega) (by intro i hi; simp at hi; omega))
                | (at_builtin
                   have own4 := attr_R ((own_weaken own3 (show w.heap.size ≤ w2.heap.size from hb2.size)).alloc (.cells #[.int .u8 tk.kind, .string ⟨tk.name.toArray⟩, .slice A3 m3 c3, .string ⟨tk.text.toArray⟩, .int .i64 tk.at_] 33)) (fun k => (Value.slice A3 m3 c3).ownBlock = some k) (fun k hk => hk)
                   have hpA := k33_mkM _ _ _ (tokS tk) own4
                   have hsA := Kd.S_alloc (Kd.S_mono (ok' := fun k => k ≠ cb ∧ ¬ (Value.slice A3 m3 c3).ownBlock = some k) (Kd.S_step (Kd.S_bound (Kd.S_step hs (fun i hi hlt => o2.block i hlt (by simpa using hi)))) (fun i hi hlt => o3.block i hlt (by simpa using hi.1))) (fun i hi => ⟨hi.1, fun e => by have := (own3.lt i e).1; have := hi.2.2.1; omega⟩)) (.cells #[.int .u8 tk.kind, .string ⟨tk.name.toArray⟩, .slice A3 m3 c3, .string ⟨tk.text.toArray⟩, .int .i64 tk.at_] 33)
                   refine Kd.S_append k33 (w0 := w) w.heap.size rfl _ _ 27 33 (.agg #[.int .u8 0, .string ⟨#[]⟩, .slice none 0 0, .string ⟨#[]⟩, .int .i64 0]) 72 rfl Tryz.underlying27 (by kernel_rfl) rfl (by decide) (by decide) u7 (acc.map tokS) (tokS tk) _ (fun k => k ≠ cb) (fun k => (Value.slice A3 m3 c3).ownBlock = some k) (by first | rfl | (go_simp; done) | (go_simp; rfl)) (by first | rfl | (go_simp; done) | (go_simp; rfl)) hpA ?c1 ?c2 hsA ?c3 ?c4 ?c5 ?_))
              case c1 => exact fun k hk => ⟨fun e => by have := (own3.lt k hk).1; have := h2.lt; omega, fun e => (S_ok hsA k e.symm).2 hk⟩
              case c2 => exact fun k hk e => by have := h3.lt; simp at hk; omega
              case c3 => exact hb3.alloc hb3.size _
              case c4 => have := hb3.size; simp; omega
              case c5 => simp at hla ⊢; omega
              intro v6 w6 hs6 hb6 hg6 _
              have h6 : CutAt cb (l0.length : Int) rest w6 := (hg6.block cb (by have := h3.lt; simp; omega) (fun e => (S_ok hsA cb e.symm).1 rfl)).trans (blk_alloc h3 _)
              have hl6 := leftOf_cut h6
              go_wp2
              go_roundw
              case measure => rw [hl6, hlo]; exact htl2
              case rel => exact ⟨rest, acc ++ [tk], k, h6, hb6, by rw [List.map_append]; exact hs6, by simp at hk htl2; omega, by simp at hla htl2 ⊢; omega, hf⟩
end Go.Proofs.YtpknhgejnfmijaaGreatDoor.X
