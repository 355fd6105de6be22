/- The statements of the stage name, in plain Lean: each printed law tells true, with enough rounds. -/
import Derived.Test.YtpldpnkjmdlcdaaND
import Derived.Test.YtpldpnkjmdlcdaaPN4
namespace Go.Proofs.Ytpldpnkjmdlcdaa.M
open Go Go.RowKit Go.Proofs.YtpldpnkjmdlcdaaW.PrintWords Go.Proofs.YtpldpnkjmdlcdaaW.PrintMore Go.Proofs.Ytpldpnkjmdlcdaa.PN
set_option linter.unusedVariables false
set_option linter.unusedSimpArgs false

theorem works200 : hopscotchlaw02_works.f 200 = some true := by decide +kernel
theorem works_ev : Ev (fun k => hopscotchlaw02_works.f k) true := Ev.of (fun k => hopscotchlaw02_works.mono k) works200
theorem works_bind : Ev (fun k => (hopscotchlaw02_works.f k).bind fun t => (some t)) true := Ev.bind (f := fun _ t => some t) works_ev (Ev.now true)

theorem begin_f (s : ByteArray) (h : s.size ≤ 140737488351232) : X.name_Begin.f s = some (beginL (bl s) : Int) := by
  unfold X.name_Begin.f
  rw [if_pos h]

theorem law_NameBegins (s : ByteArray) : Ev (fun k => hopscotchlaw02_NameBegins.f k s) true := by
  by_cases h : s.size > 300
  · refine Ev.congr (fun k => ?_) works_bind
    unfold hopscotchlaw02_NameBegins.f
    rw [if_pos (by omega)]
  · refine Ev.congr (f := fun k => (hopscotchref02_Begin.f k s).bind fun t140 => (if (beginL (bl s) : Int) = t140 then ((hopscotchlaw02_works.f k).bind fun t141 => (some t141)) else (some false))) (fun k => ?_) ?_
    · unfold hopscotchlaw02_NameBegins.f
      rw [if_neg (by omega), begin_f s (by omega), Option.bind_some]
    · refine Ev.bind (rBegin_ev s (by omega)) (Ev.congr (fun k => ?_) works_bind)
      rw [if_pos rfl]

theorem law_NameSplits (s : ByteArray) : Ev (fun k => hopscotchlaw02_NameSplits.f k s) true := by
  by_cases h : s.size > 300
  · refine Ev.congr (fun k => ?_) works_bind
    unfold hopscotchlaw02_NameSplits.f
    rw [if_pos (by omega)]
  · have hz : s.size ≤ 140737488351232 := by omega
    refine Ev.congr (f := fun k => (name_Split.f k s).bind fun bt147 => ((hopscotchref02_Split.f k s).bind fun bt150 => (if bt147.1.toList = bt150.1.toList then (if bt147.2.1.toList = bt150.2.1.toList then (if (bt147.2.2 == bt150.2.2) = true then ((name_Is.f k s).bind fun t153 => (if (t153 == bt150.2.2) = true then ((name_Plain.f k s).bind fun t154 => ((hopscotchref02_Plain.f k s).bind fun t155 => (if (t154 == t155) = true then ((hopscotchlaw02_works.f k).bind fun t156 => (some t156)) else (some false)))) else (some false))) else (some false)) else (some false)) else (some false)))) (fun k => ?_) ?_
    · unfold hopscotchlaw02_NameSplits.f
      rw [if_neg (by omega)]
    · refine Ev.bind (nSplit_ev s hz) ?_
      refine Ev.bind (rSplit_ev s hz) ?_
      refine Ev.congr (f := fun k => (name_Is.f k s).bind fun t153 => (if (t153 == okL (bl s)) = true then ((name_Plain.f k s).bind fun t154 => ((hopscotchref02_Plain.f k s).bind fun t155 => (if (t154 == t155) = true then ((hopscotchlaw02_works.f k).bind fun t156 => (some t156)) else (some false)))) else (some false))) (fun k => ?_) ?_
      · rw [if_pos rfl, if_pos rfl, if_pos (by simp)]
        rfl
      · refine Ev.bind (nIs_ev s hz) ?_
        refine Ev.congr (f := fun k => (name_Plain.f k s).bind fun t154 => ((hopscotchref02_Plain.f k s).bind fun t155 => (if (t154 == t155) = true then ((hopscotchlaw02_works.f k).bind fun t156 => (some t156)) else (some false)))) (fun k => by rw [if_pos (by simp)]) ?_
        refine Ev.bind (nPlain_ev s hz) ?_
        refine Ev.bind (Plain_ev s hz) ?_
        refine Ev.congr (fun k => ?_) works_bind
        rw [if_pos (by simp)]

theorem T_mk (p q : List UInt8) (b : Bool) : T (p, q, b) = (mk p, mk q, b) := rfl

/-! ### the stage's theorem -/
theorem back_j4_skip (s t : ByteArray) (c : Int) : Ev (fun k => hopscotchlaw02_NameBack.j4 k s t c true) true := by
  refine Ev.step (fun k => ?_) works_bind
  simp only [hopscotchlaw02_NameBack.j4]
  rw [if_pos trivial]
theorem back_j4 (s t : ByteArray) (c : UInt8) (hs : s.size ≤ 200) (ht : t.size ≤ 200) (h1 : beginL (bl s ++ c :: bl t) = s.size) (h2 : beginL (bl s) = s.size) : Ev (fun k => hopscotchlaw02_NameBack.j4 k s t (c.toNat : Int) false) true := by
  have e : strOfNums ([(c.toNat : Int)] : List Int) = mk [c] := by simp [strOfNums]
  have hsz : (mk [c]).size = 1 := rfl
  have hsz2 : (s ++ mk [c]).size = s.size + 1 := by rw [ByteArray.size_append, hsz]
  refine Ev.step (fun k => ?_) works_bind
  simp only [hopscotchlaw02_NameBack.j4]
  rw [if_neg (by simp), Option.bind_some, e, if_pos (by omega), if_pos (by omega), begin_f _ (by rw [ByteArray.size_append, hsz2]; omega), Option.bind_some, bl_append, bl_append, bl_mk, List.append_assoc, List.singleton_append, h1, if_pos rfl, begin_f s (by omega), Option.bind_some, h2, if_pos rfl]
theorem back_j3 (s t : ByteArray) (c : UInt8) (hs : s.size ≤ 200) (ht : t.size ≤ 200) (hok : okL (bl s) = true) : Ev (fun k => hopscotchlaw02_NameBack.j3 k s t (c.toNat : Int) false) true := by
  refine Ev.step (f := fun k => (if isM c = true then (hopscotchlaw02_NameBack.j4 k s t (c.toNat : Int) true) else (hopscotchlaw02_NameBack.j4 k s t (c.toNat : Int) ((c.toNat : Int) == 58)))) (fun k => ?_) ?_
  · simp only [hopscotchlaw02_NameBack.j3]
    rw [if_neg (by simp), may_eq, Option.bind_some]
  · by_cases hM : isM c = true
    · exact Ev.congr (fun k => by rw [if_pos hM]) (back_j4_skip s t _)
    · by_cases h58 : c = 58
      · subst h58
        refine Ev.congr (f := fun k => hopscotchlaw02_NameBack.j4 k s t ((58 : UInt8).toNat : Int) true) (fun k => ?_) (back_j4_skip s t _)
        rw [if_neg hM]
        rfl
      · have hb : ((c.toNat : Int) == 58) = false := by
          rw [beq_eq_false_iff_ne]
          intro e
          apply h58
          apply UInt8.toNat_inj.mp
          exact Int.ofNat.inj e
        have n1 := begin_name (bl s) (c :: bl t) hok (fun c' r e => by
          obtain ⟨rfl, _⟩ := List.cons.inj e
          exact ⟨Bool.eq_false_iff.mpr hM, h58⟩)
        have n2 := begin_name (bl s) [] hok (fun c' r e => by cases e)
        rw [List.append_nil] at n2
        rw [bl_length] at n1 n2
        refine Ev.congr (fun k => ?_) (back_j4 s t c hs ht n1 n2)
        rw [if_neg hM, hb]

theorem back_j2 (s t : ByteArray) (c : UInt8) (hs : s.size ≤ 200) (ht : t.size ≤ 200) : Ev (fun k => hopscotchlaw02_NameBack.j2 k s t (c.toNat : Int)) true := by
  have hl := bl_length s
  refine Ev.step (fun k => by simp only [hopscotchlaw02_NameBack.j2]; rfl) ?_
  refine Ev.bind (nSplit_ev s (by omega)) ?_
  by_cases hok : okL (bl s) = true
  · obtain ⟨h64, hc⟩ := ok_cases _ hok
    rcases hc with ⟨hp, hcol, hsp⟩ | ⟨p, q, hpq, hp, hq, hcol, hsp⟩
    · rw [hsp, T_mk, mk_bl]
      refine Ev.congr (f := fun k => (name_Plain.f k s).bind fun t168 => (hopscotchlaw02_NameBack.j3 k s t (c.toNat : Int) (!t168))) (fun k => ?_) ?_
      · dsimp only
        rw [if_pos rfl, if_pos (by rw [toList_bl]), if_pos rfl]
      · refine Ev.bind (nPlain_ev s (by omega)) ?_
        rw [hp, decide_eq_true (by omega)]
        exact back_j3 s t c hs ht hok
    · have hlen : p.length + 1 + q.length = s.size := by
        rw [← hl, hpq, List.length_append, List.length_cons]
        omega
      have hpn : ¬ (mk p).toList = ([] : List UInt8) := by
        rw [toList_bl, bl_mk]
        exact plain_ne p hp
      have hcat : ((mk p ++ (⟨#[58]⟩ : ByteArray)) ++ mk q).toList = s.toList := by
        rw [toList_bl, toList_bl, bl_append, bl_append, bl_mk, bl_mk, hpq]
        show p ++ [58] ++ q = _
        rw [List.append_assoc, List.singleton_append]
      have hs1 : (mk p).size = p.length := mk_size p
      have hs2 : (mk q).size = q.length := mk_size q
      have hs3 : (mk p ++ (⟨#[58]⟩ : ByteArray)).size = p.length + 1 := by rw [ByteArray.size_append, hs1]; rfl
      rw [hsp, T_mk]
      refine Ev.congr (f := fun k => (name_Plain.f k (mk p)).bind fun t169 => (if t169 = true then ((name_Plain.f k (mk q)).bind fun t170 => (hopscotchlaw02_NameBack.j3 k s t (c.toNat : Int) (!t170))) else (hopscotchlaw02_NameBack.j3 k s t (c.toNat : Int) true))) (fun k => ?_) ?_
      · dsimp only
        rw [if_pos rfl, if_neg hpn, if_pos (by omega), if_pos (by omega), if_pos hcat]
      · refine Ev.bind (nPlain_ev (mk p) (by omega)) ?_
        rw [bl_mk, hp, decide_eq_true (by omega)]
        refine Ev.congr (f := fun k => (name_Plain.f k (mk q)).bind fun t170 => (hopscotchlaw02_NameBack.j3 k s t (c.toNat : Int) (!t170))) (fun k => by rw [if_pos (by simp)]) ?_
        refine Ev.bind (nPlain_ev (mk q) (by omega)) ?_
        rw [bl_mk, hq, decide_eq_true (by omega)]
        exact back_j3 s t c hs ht hok
  · have hf : okL (bl s) = false := Bool.eq_false_iff.mpr hok
    rw [ok_false _ hf, T_mk]
    refine Ev.congr (f := fun k => (name_Is.f k s).bind fun t166 => (if t166 = true then (some false) else ((hopscotchlaw02_works.f k).bind fun t167 => (some t167)))) (fun k => ?_) ?_
    · have e : (mk []).toList = ([] : List UInt8) := by rw [toList_bl]
      dsimp only
      rw [if_neg (by simp), if_pos e, if_pos e]
    · refine Ev.bind (nIs_ev s (by omega)) ?_
      rw [hf]
      exact Ev.congr (fun k => by rw [if_neg (by simp)]) works_bind

theorem back_j1_true (s t : ByteArray) (c : UInt8) (hs : s.size ≤ 64) (ht : t.size ≤ 64) (h1 : plainL (bl s) = true) (h2 : plainL (bl t) = true) : Ev (fun k => hopscotchlaw02_NameBack.j1 k s t (c.toNat : Int) true) true := by
  have hsz : (s ++ (⟨#[58]⟩ : ByteArray)).size = s.size + 1 := by rw [ByteArray.size_append]; rfl
  have hsz2 : (s ++ (⟨#[58]⟩ : ByteArray) ++ t).size = s.size + 1 + t.size := by rw [ByteArray.size_append, hsz]
  have hbl : bl (s ++ (⟨#[58]⟩ : ByteArray) ++ t) = bl s ++ 58 :: bl t := by
    rw [bl_append, bl_append]
    show bl s ++ [58] ++ bl t = _
    rw [List.append_assoc, List.singleton_append]
  have hw : wrap64 ((wrap64 ((s.size : Int) + 1)) + (t.size : Int)) = (s.size : Int) + 1 + (t.size : Int) := by
    rw [wrap_id (n := (s.size : Int) + 1) (by omega) (by omega), wrap_id (by omega) (by omega)]
  have hl := bl_length s
  have hlt := bl_length t
  refine Ev.step (f := fun k => (name_Split.f k ((s ++ (⟨#[58]⟩ : ByteArray)) ++ t)).bind fun bt160 => (if (bt160.2.2 != (decide ((s.size : Int) + 1 + (t.size : Int) ≤ 64))) = true then (some false) else (if bt160.2.2 = true then (if bt160.1.toList = s.toList then (if bt160.2.1.toList = t.toList then (hopscotchlaw02_NameBack.j2 k s t (c.toNat : Int)) else (some false)) else (some false)) else (hopscotchlaw02_NameBack.j2 k s t (c.toNat : Int))))) (fun k => ?_) ?_
  · simp only [hopscotchlaw02_NameBack.j1]
    rw [if_pos trivial, if_pos (by omega), if_pos (by omega), hw]
  · refine Ev.bind (nSplit_ev _ (by omega)) ?_
    rw [hbl]
    by_cases h64 : s.size + 1 + t.size ≤ 64
    · rw [ok_pair _ _ (by omega) h1 h2, T_mk, mk_bl, mk_bl]
      refine Ev.congr (fun k => ?_) (back_j2 s t c (by omega) (by omega))
      dsimp only
      rw [decide_eq_true (by omega), if_neg (by simp), if_pos rfl, if_pos rfl, if_pos rfl]
    · rw [split_long _ (by rw [List.length_append, List.length_cons]; omega), T_mk]
      refine Ev.congr (fun k => ?_) (back_j2 s t c (by omega) (by omega))
      dsimp only
      rw [decide_eq_false (by omega), if_neg (by simp), if_neg (by simp)]
theorem back_j1_false (s t : ByteArray) (c : UInt8) (hs : s.size ≤ 200) (ht : t.size ≤ 200) : Ev (fun k => hopscotchlaw02_NameBack.j1 k s t (c.toNat : Int) false) true := by
  refine Ev.step (fun k => ?_) (back_j2 s t c hs ht)
  simp only [hopscotchlaw02_NameBack.j1]
  rw [if_neg (by simp)]
theorem back_skip (s t : ByteArray) (c : Int) (b : Bool) (hb : b = true) : Ev (fun k => hopscotchlaw02_NameBack.j0 k s t c b) true := by
  subst hb
  refine Ev.step (fun k => ?_) works_bind
  simp only [hopscotchlaw02_NameBack.j0]
  rw [if_pos trivial]

theorem law_NameBack_byte (s t : ByteArray) (c : UInt8) : Ev (fun k => hopscotchlaw02_NameBack.f k s t (c.toNat : Int)) true := by
  by_cases h : s.size > 200
  · refine Ev.congr (fun k => ?_) (back_skip s t (c.toNat : Int) true rfl)
    unfold hopscotchlaw02_NameBack.f
    rw [if_pos (by omega)]
  · by_cases h2 : t.size > 200
    · refine Ev.congr (fun k => ?_) (back_skip s t (c.toNat : Int) (decide ((t.size : Int) > 200)) (decide_eq_true (by omega)))
      unfold hopscotchlaw02_NameBack.f
      rw [if_neg (by omega)]
    · refine Ev.congr (f := fun k => hopscotchlaw02_NameBack.j0 k s t (c.toNat : Int) false) (fun k => ?_) ?_
      · unfold hopscotchlaw02_NameBack.f
        rw [if_neg (by omega), decide_eq_false (by omega)]
      · refine Ev.step (f := fun k => (name_Plain.f k s).bind fun t158 => (if t158 = true then ((name_Plain.f k t).bind fun t159 => (hopscotchlaw02_NameBack.j1 k s t (c.toNat : Int) t159)) else (hopscotchlaw02_NameBack.j1 k s t (c.toNat : Int) false))) (fun k => ?_) ?_
        · simp only [hopscotchlaw02_NameBack.j0]
          rw [if_neg (by simp)]
        · refine Ev.bind (nPlain_ev s (by omega)) ?_
          by_cases h1 : (decide (s.size ≤ 64) && plainL (bl s)) = true
          · rw [h1]
            refine Ev.congr (f := fun k => (name_Plain.f k t).bind fun t159 => (hopscotchlaw02_NameBack.j1 k s t (c.toNat : Int) t159)) (fun k => by rw [if_pos rfl]) ?_
            refine Ev.bind (nPlain_ev t (by omega)) ?_
            by_cases h3 : (decide (t.size ≤ 64) && plainL (bl t)) = true
            · rw [h3]
              rw [Bool.and_eq_true, decide_eq_true_eq] at h1 h3
              exact back_j1_true s t c h1.1 h3.1 h1.2 h3.2
            · rw [Bool.eq_false_iff.mpr h3]
              exact back_j1_false s t c (by omega) (by omega)
          · rw [Bool.eq_false_iff.mpr h1]
            refine Ev.congr (fun k => ?_) (back_j1_false s t c (by omega) (by omega))
            rw [if_neg (by simp)]

theorem law_NameBack (s t : ByteArray) (c : Int) (hc : 0 ≤ c ∧ c ≤ 255) : Ev (fun k => hopscotchlaw02_NameBack.f k s t c) true := by
  obtain ⟨b, rfl⟩ : ∃ b : UInt8, c = (b.toNat : Int) := ⟨UInt8.ofNat c.toNat, by simp; omega⟩
  exact law_NameBack_byte s t b

/-! ### the closed statement -/
theorem known_l1_go (k : Nat) (x : Int) (l : List ByteArray) (n i : Int) (u : ByteArray) (h : i < n) (h0 : 0 ≤ i) (hl : i < (l.length : Int)) (hu : rdOf ByteArray.empty l i = u)
    (a : hopscotchlaw02_NameSplits.f k u = some true) (b : hopscotchlaw02_NameBegins.f k u = some true) (c : hopscotchlaw02_NameBack.f k u (⟨#[122]⟩ : ByteArray) (x % 256) = some true) (d : hopscotchlaw02_NameBack.f k (⟨#[120, 109, 105, 58, 105, 100]⟩ : ByteArray) u (x % 256) = some true) :
    hopscotchlaw02_NameKnown.l1 (k + 1) x l n i = hopscotchlaw02_NameKnown.l1 k x l n (wrap64 (i + 1)) := by
  simp only [hopscotchlaw02_NameKnown.l1]
  rw [if_pos h, if_pos h0, if_pos hl, hu, a, Option.bind_some, if_pos rfl, b, Option.bind_some, if_pos rfl, c, Option.bind_some, if_pos rfl, d, Option.bind_some, if_pos rfl]

theorem known_l1 (x : Nat) (hx : x ≤ 255) (l : List ByteArray) (hl : l.length ≤ 1000) (next : Ev (fun k => hopscotchlaw02_NameKnown.l0 k ((x + 1 : Nat) : Int)) true) : ∀ (d i : Nat), i + d = l.length → Ev (fun k => hopscotchlaw02_NameKnown.l1 k x l (l.length : Int) i) true := by
  intro d
  induction d with
  | zero =>
    intro i hi
    refine Ev.step (fun k => ?_) next
    simp only [hopscotchlaw02_NameKnown.l1]
    rw [if_neg (by omega), wrap_id (by omega) (by omega)]
    rfl
  | succ d ih =>
    intro i hi
    obtain ⟨K1, h1⟩ := law_NameSplits (rdOf ByteArray.empty l i)
    obtain ⟨K2, h2⟩ := law_NameBegins (rdOf ByteArray.empty l i)
    obtain ⟨K3, h3⟩ := law_NameBack (rdOf ByteArray.empty l i) (⟨#[122]⟩ : ByteArray) ((x : Int) % 256) (by omega)
    obtain ⟨K4, h4⟩ := law_NameBack (⟨#[120, 109, 105, 58, 105, 100]⟩ : ByteArray) (rdOf ByteArray.empty l i) ((x : Int) % 256) (by omega)
    obtain ⟨K5, h5⟩ := ih (i + 1) (by omega)
    refine ⟨max K1 (max K2 (max K3 (max K4 K5))) + 1, fun k hk => ?_⟩
    obtain ⟨k, rfl⟩ : ∃ m, k = m + 1 := ⟨k - 1, by omega⟩
    refine (known_l1_go k x l _ i _ (by omega) (by omega) (by omega) rfl (h1 k (by omega)) (h2 k (by omega)) (h3 k (by omega)) (h4 k (by omega))).trans ?_
    rw [wrap_id (by omega) (by omega)]
    exact h5 k (by omega)

theorem known_l2_go (k : Nat) (s : ByteArray) (n : Int) (h : n < 70) (hs : s.size ≤ 100) (a : hopscotchlaw02_NameSplits.f k s = some true) (b : hopscotchlaw02_NameSplits.f k ((⟨#[97, 58]⟩ : ByteArray) ++ s) = some true) (c : hopscotchlaw02_NameSplits.f k (s ++ (⟨#[58, 98]⟩ : ByteArray)) = some true)
    (d : hopscotchlaw02_NameBegins.f k s = some true) (e : hopscotchlaw02_NameBegins.f k (s ++ (⟨#[58, 98, 58, 99]⟩ : ByteArray)) = some true) (f : hopscotchlaw02_NameBack.f k s (⟨#[97, 98]⟩ : ByteArray) 32 = some true) (g : hopscotchlaw02_NameBack.f k s s 61 = some true) :
    hopscotchlaw02_NameKnown.l2 (k + 1) s n = hopscotchlaw02_NameKnown.l2 k (s ++ (⟨#[120]⟩ : ByteArray)) (wrap64 (n + 1)) := by
  simp only [hopscotchlaw02_NameKnown.l2]
  rw [if_pos h, a, Option.bind_some, if_pos rfl, if_pos (by omega), b, Option.bind_some, if_pos rfl, if_pos (by omega), c, Option.bind_some, if_pos rfl, d, Option.bind_some, if_pos rfl, if_pos (by omega), e, Option.bind_some, if_pos rfl, f, Option.bind_some, if_pos rfl, g, Option.bind_some, if_pos rfl, if_pos (by omega)]

theorem known_l2 : ∀ (d n : Nat) (s : ByteArray), n + d = 70 → s.size ≤ n → Ev (fun k => hopscotchlaw02_NameKnown.l2 k s n) true := by
  intro d
  induction d with
  | zero =>
    intro n s hn _
    refine Ev.step (fun k => ?_) works_bind
    simp only [hopscotchlaw02_NameKnown.l2]
    rw [if_neg (by omega)]
  | succ d ih =>
    intro n s hn hs
    obtain ⟨K1, h1⟩ := law_NameSplits s
    obtain ⟨K2, h2⟩ := law_NameSplits ((⟨#[97, 58]⟩ : ByteArray) ++ s)
    obtain ⟨K3, h3⟩ := law_NameSplits (s ++ (⟨#[58, 98]⟩ : ByteArray))
    obtain ⟨K4, h4⟩ := law_NameBegins s
    obtain ⟨K5, h5⟩ := law_NameBegins (s ++ (⟨#[58, 98, 58, 99]⟩ : ByteArray))
    obtain ⟨K6, h6⟩ := law_NameBack s (⟨#[97, 98]⟩ : ByteArray) 32 (by omega)
    obtain ⟨K7, h7⟩ := law_NameBack s s 61 (by omega)
    obtain ⟨K8, h8⟩ := ih (n + 1) (s ++ (⟨#[120]⟩ : ByteArray)) (by omega) (by
      have : (s ++ (⟨#[120]⟩ : ByteArray)).size = s.size + 1 := by rw [ByteArray.size_append]; rfl
      omega)
    refine ⟨max K1 (max K2 (max K3 (max K4 (max K5 (max K6 (max K7 K8)))))) + 1, fun k hk => ?_⟩
    obtain ⟨k, rfl⟩ : ∃ m, k = m + 1 := ⟨k - 1, by omega⟩
    refine (known_l2_go k s n (by omega) (by omega) (h1 k (by omega)) (h2 k (by omega)) (h3 k (by omega)) (h4 k (by omega)) (h5 k (by omega)) (h6 k (by omega)) (h7 k (by omega))).trans ?_
    rw [wrap_id (by omega) (by omega)]
    exact h8 k (by omega)

theorem known_l0 : ∀ (d a : Nat), a + d = 256 → Ev (fun k => hopscotchlaw02_NameKnown.l0 k a) true := by
  intro d
  induction d with
  | zero =>
    intro a ha
    refine Ev.step (fun k => ?_) (known_l2 70 0 (⟨#[]⟩ : ByteArray) rfl (Nat.le_refl _))
    simp only [hopscotchlaw02_NameKnown.l0]
    rw [if_neg (by omega)]
    rfl
  | succ d ih =>
    intro a ha
    have hz : (strOfNums ([(a : Int) % 256] : List Int)).size = 1 := rfl
    have hy : ∀ x y : ByteArray, (x ++ y).size = x.size + y.size := fun x y => by rw [ByteArray.size_append]
    have h1 : (⟨#[97]⟩ : ByteArray).size = 1 := rfl
    have h3 : (⟨#[97, 58, 98]⟩ : ByteArray).size = 3 := rfl
    refine Ev.step (fun k => ?_) (known_l1 a (by omega) [strOfNums ([(a : Int) % 256] : List Int), strOfNums ([(a : Int) % 256] : List Int) ++ (⟨#[97]⟩ : ByteArray), (⟨#[97]⟩ : ByteArray) ++ strOfNums ([(a : Int) % 256] : List Int), ((⟨#[97]⟩ : ByteArray) ++ strOfNums ([(a : Int) % 256] : List Int)) ++ (⟨#[98]⟩ : ByteArray), (⟨#[97, 58]⟩ : ByteArray) ++ strOfNums ([(a : Int) % 256] : List Int), strOfNums ([(a : Int) % 256] : List Int) ++ (⟨#[58, 97]⟩ : ByteArray), (⟨#[97, 58, 98]⟩ : ByteArray) ++ strOfNums ([(a : Int) % 256] : List Int), ((⟨#[97, 58, 98]⟩ : ByteArray) ++ strOfNums ([(a : Int) % 256] : List Int)) ++ (⟨#[99]⟩ : ByteArray), strOfNums ([(a : Int) % 256] : List Int) ++ strOfNums ([(a : Int) % 256] : List Int)] (by simp only [List.length_cons, List.length_nil]; omega) (ih (a + 1) (by omega)) 9 0 rfl)
    simp only [hopscotchlaw02_NameKnown.l0]
    rw [if_pos (by omega), Option.bind_some, hz, hy, hy, hz, h1, h3, if_pos (by omega), if_pos (by omega), if_pos (by omega), if_pos (by omega), if_pos (by omega), if_pos (by omega), if_pos (by omega), if_pos (by omega), Option.bind_some]
    rfl

theorem law_NameKnown : Ev (fun k => hopscotchlaw02_NameKnown.f k) true :=
  Ev.congr (fun k => rfl) (known_l0 256 0 rfl)
end Go.Proofs.Ytpldpnkjmdlcdaa.M
