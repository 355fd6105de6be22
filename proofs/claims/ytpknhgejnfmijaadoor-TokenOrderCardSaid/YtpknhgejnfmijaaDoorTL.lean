/- A text of the claim, with what no other text of it needs taken out. -/
import Derived.Test.YtpknhgejnfmijaaDoorTK
import Derived.Test.YtpknhgejnfmijaaDoorPT2
namespace Go.Proofs.YtpknhgejnfmijaaDoor.X
open Go.RowKit Go.Proofs.YtpknhgejnfmijaaDoorW.PrintWords Go.Proofs.YtpknhgejnfmijaaDoorW.PrintLast Go.Proofs.YtpknhgejnfmijaaDoorW.PrintMore Go.Proofs.YtpknhgejnfmijaaDoor Go.Proofs.YtpknhgejnfmijaaDoor.K
set_option linter.unusedVariables false
set_option linter.unusedSimpArgs false
set_option maxRecDepth 100000 in
theorem works_true : PT.hopscotchlaw04_works.f 2 = some true := by decide +kernel
theorem works_calls (w : World) (hG : Glob w) : Calls Tryd.prog 4 #[] w fun e w' => e = .returned (.bool true) ∧ Below w.heap.size w w' := PT.hopscotchlaw04_works.calls 2 true w hG works_true
theorem rd_tok (toks : List T.Tok) (j : Nat) (t : T.Tok) (h : toks[j]? = some t) : rd_T29 (toks.map tokS) (j : Int) = tokS t := by
  unfold rd_T29
  rw [List.getD_eq_getElem?_getD, List.getElem?_map, Int.toNat_natCast, h]
  rfl
theorem index_tok (s : List UInt8) (i : Nat) (c : UInt8) (h : s[i]? = some c) (W : World) : (Instr.index 9 (.string ⟨s.toArray⟩) (.int .i64 (i : Int))).run Tryd.prog W = .ok (.int .u8 (c.toNat : Int)) W := by
  have := run_index_string (P := Tryd.prog) W 9 ⟨s.toArray⟩ .i64 (i : Int) Tryd.underlying9
  have hz := mk_sz s
  obtain ⟨hi, he⟩ := List.getElem?_eq_some_iff.1 h
  rw [this, dif_pos ⟨by omega, by omega⟩]
  subst he
  rfl
set_option maxHeartbeats 4000000 in
set_option maxRecDepth 100000 in
theorem order_calls (a0 : ByteArray) (w : World) (hG : Glob w) :
    Calls Tryd.prog 3 #[.string a0] w fun e w' => e = .returned (.bool true) ∧ Below w.heap.size w w' := by
  obtain ⟨s, rfl⟩ : ∃ l, a0 = ⟨l.toArray⟩ := ⟨a0.data.toList, (ba_eq _ _).mpr rfl⟩
  have HW := Lib.hid works_calls
  by_cases hbig : 800 < s.length
  · have hd : decide ((800 : Int) < (s.length : Int)) = true := decide_eq_true (by omega)
    go_enter Tryd.func3, Tryd.ntmps3
    go_wp2_with (go_at_call 4; refine (HW.out _ hG).mono ?_; rintro e w2 ⟨rfl, hb2⟩)
    go_ret
    exact ⟨rfl, hb2⟩
  have hd : decide ((800 : Int) < (s.length : Int)) = false := decide_eq_false (by omega)
  obtain ⟨hpl, her, hri, hok⟩ := T.tokensL_ok s (by omega)
  have HTK := Lib.hid (fun W hg => token_Tokens.calls ⟨s.toArray⟩ ((T.tokensL s).1.map tokS) ((T.tokensL s).2.1 : Int) ((T.tokensL s).2.2 : Int) W hg rfl)
  generalize T.tokensL s = X at HTK hpl her hri hok
  obtain ⟨toks, pl, er⟩ := X
  simp only at HTK hpl her hri hok
  by_cases he : er ≠ 0
  · obtain rfl := her he
    have hne : ((er : Int) != 0) = true := by simpa using he
    have h1 : decide ((0 : Int) ≤ (pl : Int)) = true := decide_eq_true (by omega)
    have h2 : decide ((pl : Int) ≤ (s.length : Int)) = true := decide_eq_true (by omega)
    go_enter Tryd.func3, Tryd.ntmps3
    go_wp2_with (first
      | (go_at_call 5; refine (HTK.out _ hG).mono ?_; rintro e w2 ⟨v, rfl, hs2, hb2⟩; obtain ⟨A2, c2, rfl⟩ := Kd.S_slice hs2)
      | (go_at_call 4; refine (HW.out _ (hG.of_below hb2)).mono ?_; rintro e w3 ⟨rfl, hb3⟩))
    go_ret
    exact ⟨rfl, below_step hb2 hb3⟩
  · obtain rfl : er = 0 := by omega
    clear her he
    go_enter Tryd.func3, Tryd.ntmps3
    go_wp2_with (go_at_call 5; refine (HTK.out _ hG).mono ?_; rintro e w2 ⟨v, rfl, hs2, hb2⟩; obtain ⟨A2, c2, rfl⟩ := Kd.S_slice hs2)
    obtain ⟨_, hc2, hC2⟩ := Kd.S_reads' hs2
    rw [List.length_map] at hC2
    have hlen : ((toks.map tokS).length : Int) = toks.length := by rw [List.length_map]
    obtain ⟨xs, hxs⟩ : ∃ xs, xs = toks.map tokS := ⟨_, rfl⟩
    have HC := Lib.hid hC2
    have HRI := Lib.hid hri
    have HOK := Lib.hid hok
    clear hri hok hC2 hs2 hlen
    go_loopw [6, 7] (fun vl vi wr => ∃ (j : Nat) (L : Int), vl = .int .i64 L ∧ vi = .int .i64 (j : Int) ∧ j ≤ toks.length ∧ (j : Int) ≤ L + 1 ∧ (∃ n, wr = w2.drewN n) ∧ Hid (T.Rising L (toks.drop j)))
      (fun _ vi _ => toks.length - (intOf vi).toNat)
    case atStart => exact ⟨0, -1, rfl, rfl, by omega, by omega, ⟨0, rfl⟩, HRI.out⟩
    case round =>
      obtain ⟨j, L, rfl, rfl, hj, hjL, ⟨nn, rfl⟩, hR⟩ := hrel
      by_cases hjm : j < toks.length
      · obtain ⟨t, ht⟩ : ∃ t, toks[j]? = some t := ⟨toks[j], List.getElem?_eq_getElem hjm⟩
        obtain ⟨h1, h2⟩ := hR.out.drop ht
        have ok := HOK.out t (List.mem_of_getElem? ht)
        obtain ⟨ad, A3, c3, e3, x0, x1, x2, x3, x4, _, _⟩ := at_T29 HC.out (j : Int) (by omega) (by omega)
        rw [rd_tok toks j t ht] at x0 x1 x2 x3 x4
        rw [Int.toNat_natCast] at x0 x1 x2 x3 x4
        subst e3
        have p0 := eq_true (show (0 : Int) ≤ (j : Int) by omega)
        have q0 := eq_true (show (j : Int) < (toks.length : Int) by omega)
        have q1 : decide ((j : Int) < (toks.length : Int)) = true := decide_eq_true (by omega)
        obtain ⟨c, hc⟩ : ∃ c, s[t.at_]? = some c := ⟨s[t.at_]'ok.lt, List.getElem?_eq_getElem ok.lt⟩
        have hix := index_tok s t.at_ c hc
        have d1 : decide ((t.at_ : Int) ≤ L) = false := decide_eq_false (by omega)
        have d2 : decide ((s.length : Int) ≤ (t.at_ : Int)) = false := decide_eq_false (by have := ok.lt; omega)
        have d3 : decide ((t.kind : Int) < 1) = false := decide_eq_false (by have := ok.lo; omega)
        have d4 : decide ((4 : Int) < (t.kind : Int)) = false := decide_eq_false (by have := ok.hi; omega)
        have hlt := ok.lt
        have htag := ok.tag
        rw [hc] at htag
        have hnm := ok.nm
        have hmost := ok.most
        have hnone := ok.none2
        clear ok HC HOK hR ht hc
        obtain ⟨kd, nm, at_, tx, pt⟩ := t
        simp only [tokS, List.length_map] at x0 x1 x2 x3 x4 hlt hix d1 d2 d3 d4 htag hnm hmost hnone h1 h2
        have d5 : decide ((32 : Int) < (at_.length : Int)) = false := decide_eq_false (by omega)
        have hw : IntKind.i64.wrap ((j : Int) + 1) = (j : Int) + 1 := IntWalk.i64_in _ (by have := hlt; omega)
        have y0 : (w2.drewN nn).cell? _ = _ := x0
        have y1 : (w2.drewN nn).cell? _ = _ := x1
        have y2 : (w2.drewN nn).cell? _ = _ := x2
        have y4 : (w2.drewN nn).cell? _ = _ := x4
        have z0 : (w2.drewN nn).drew.cell? _ = _ := x0
        have z1 : (w2.drewN nn).drew.cell? _ = _ := x1
        have z2 : (w2.drewN nn).drew.cell? _ = _ := x2
        have z4 : (w2.drewN nn).drew.cell? _ = _ := x4
        by_cases hk : kd = 4
        · subst hk
          obtain rfl := hnm.mpr rfl
          have c60 : ((c.toNat : Int) == 60) = false := by
            simp only [beq_eq_false_iff_ne, ne_eq]
            intro e
            exact (htag.mp (by rw [show c = 60 from UInt8.toNat_inj.mp (by have : (60 : UInt8).toNat = 60 := rfl; omega)])) rfl
          have hat : at_ = [] := Classical.byContradiction fun e => (hnone e).2 rfl
          subst hat
          go_wp2
          repeat (go_quiet (fail); try go_wp2)
          all_goals (refine ⟨⟨j + 1, pt, rfl, by push_cast; rfl, by omega, by omega, ⟨_, rfl⟩, h2⟩, by simp [intOf]; omega⟩)
        · have c60 : ((c.toNat : Int) == 60) = true := by
            have e := htag.mpr hk
            rw [show c = 60 from Option.some.inj e]
            rfl
          obtain ⟨n0, nt, rfl⟩ : ∃ n0 nt, nm = n0 :: nt := by
            cases nm with
            | nil => exact absurd (hnm.mp rfl) hk
            | cons a l => exact ⟨a, l, rfl⟩
          have k4 : ((kd : Int) != 4) = true := by simp only [bne_iff_ne, ne_eq]; omega
          have k4b : ((kd : Int) == 4) = false := by simp only [beq_eq_false_iff_ne, ne_eq]; omega
          by_cases hat : at_ = []
          · subst hat
            go_wp2
            repeat (go_quiet (fail); try go_wp2)
            all_goals (refine ⟨⟨j + 1, pt, rfl, by push_cast; rfl, by omega, by omega, ⟨_, rfl⟩, h2⟩, by simp [intOf]; omega⟩)
          · have k2 : ((kd : Int) == 2) = false := by have := (hnone hat).1; simp only [beq_eq_false_iff_ne, ne_eq]; omega
            have d6 : decide ((0 : Int) < (at_.length : Int)) = true := decide_eq_true (by have := List.length_pos_iff.mpr hat; omega)
            go_wp2
            repeat (go_quiet (fail); try go_wp2)
            all_goals (refine ⟨⟨j + 1, pt, rfl, by push_cast; rfl, by omega, by omega, ⟨_, rfl⟩, h2⟩, by simp [intOf]; omega⟩)
      · have q1 : decide ((j : Int) < (toks.length : Int)) = false := decide_eq_false (by omega)
        have hb3 : Below w.heap.size w (w2.drewN nn) := pw_below_drewN hb2 nn
        go_wp2_with (go_at_call 4; refine (HW.out _ (hG.of_below hb3)).mono ?_; rintro e w3 ⟨rfl, hb4⟩)
        go_ret
        exact ⟨rfl, below_step hb3 hb4⟩
end Go.Proofs.YtpknhgejnfmijaaDoor.X
