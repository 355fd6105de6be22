/- A text of the claim, with what no other text of it needs taken out. -/
import Derived.Test.YtpknhgejnfmijaaGreatDoorNC
import Derived.Test.YtpknhgejnfmijaaGreatDoorPC7
namespace Go.Proofs.YtpknhgejnfmijaaGreatDoor.M
open Go Go.RowKit Go.Proofs.YtpknhgejnfmijaaGreatDoorW.PrintWords Go.Proofs.YtpknhgejnfmijaaGreatDoorW.PrintMore Go.Proofs.YtpknhgejnfmijaaGreatDoor.PC
set_option linter.unusedVariables false
set_option linter.unusedSimpArgs false
theorem letter_all : ∀ b : Fin 256, r2_letter.f (b.val : Int) = some (isF (UInt8.ofNat b.val)) := by decide +kernel
theorem may_all : ∀ b : Fin 256, r2_May.f (b.val : Int) = some (isM (UInt8.ofNat b.val)) := by decide +kernel
theorem letter_eq (b : UInt8) : r2_letter.f (b.toNat : Int) = some (isF b) := by
  have h := letter_all ⟨b.toNat, b.toNat_lt⟩
  simpa only [UInt8.ofNat_toNat] using h
theorem may_eq (b : UInt8) : r2_May.f (b.toNat : Int) = some (isM b) := by
  have h := may_all ⟨b.toNat, b.toNat_lt⟩
  simpa only [UInt8.ofNat_toNat] using h
abbrev mk (l : List UInt8) : ByteArray := ⟨l.toArray⟩
theorem mk_bl (s : ByteArray) : mk (bl s) = s := bl_inj rfl
def T (x : List UInt8 × List UInt8 × Bool) : ByteArray × ByteArray × Bool := (mk x.1, mk x.2.1, x.2.2)
theorem ex_to (s : ByteArray) (n : Nat) : s.extract 0 n = mk ((bl s).take n) := bl_inj (by rw [bl_to])
theorem ex_from (s : ByteArray) (n : Nat) : s.extract n s.size = mk ((bl s).drop n) := bl_inj (by rw [bl_from])
theorem mk_size (l : List UInt8) : (mk l).size = l.length := by rw [← bl_length]
theorem Plain_l0_ev (s : ByteArray) (hz : s.size ≤ 140737488351232) : ∀ (d i : Nat), i + d = s.size → Ev (fun k => r2_Plain.l0 k s i) (((bl s).drop i).all isM) := by
  intro d
  have hl := bl_length s
  induction d with
  | zero =>
    intro i hi
    rw [List.drop_of_length_le (by omega)]
    refine Ev.step (f := fun _ => some true) (fun k => ?_) (Ev.now _)
    simp only [r2_Plain.l0]
    rw [if_neg (by omega)]
  | succ d ih =>
    intro i hi
    have hlt : i < (bl s).length := by omega
    rw [List.drop_eq_getElem_cons hlt, List.all_cons]
    refine Ev.step (f := fun k => if isM ((bl s)[i]) = true then r2_Plain.l0 k s ((i + 1 : Nat) : Int) else some false) (fun k => ?_) ?_
    · simp only [r2_Plain.l0]
      rw [if_pos (by omega), if_pos (by omega), bt_at s i hlt, may_eq, Option.bind_some, wrap_id (by omega) (by omega)]
      rfl
    · by_cases h : isM ((bl s)[i]) = true
      · rw [h, Bool.true_and]
        refine Ev.congr (fun k => ?_) (ih (i + 1) (by omega))
        rw [if_pos rfl]
      · rw [Bool.eq_false_iff.mpr h, Bool.false_and]
        exact ⟨0, fun k _ => by simp⟩
theorem Plain_ev (s : ByteArray) (hz : s.size ≤ 140737488351232) : Ev (fun k => r2_Plain.f k s) (decide (s.size ≤ 64) && plainL (bl s)) := by
  have hl := bl_length s
  have no : ∀ b : Bool, b = true → Ev (fun k => r2_Plain.j0 k s b) false := by
    rintro b rfl
    refine Ev.step (f := fun _ => some false) (fun k => ?_) (Ev.now _)
    simp only [r2_Plain.j0]
    rw [if_pos trivial]
  cases hb : bl s with
  | nil =>
    rw [plain_nil, Bool.and_false]
    refine Ev.congr (fun k => ?_) (no true rfl)
    unfold r2_Plain.f
    have : s.size = 0 := bl_nil.mp hb
    rw [if_pos (by omega)]
  | cons b t =>
    have h0 : 0 < (bl s).length := by rw [hb]; simp
    have e0 : (bl s)[0] = b := by simp [hb]
    have hbt : bt s 0 = (b.toNat : Int) := by have := bt_at s 0 h0; rw [e0] at this; exact this
    by_cases h64 : s.size ≤ 64
    · rw [decide_eq_true h64, Bool.true_and, plain_cons]
      refine Ev.congr (f := fun k => r2_Plain.j0 k s (!(isF b))) (fun k => ?_) ?_
      · unfold r2_Plain.f
        rw [if_neg (by omega), if_neg (by omega), if_pos (by omega), hbt, letter_eq, Option.bind_some]
      · by_cases hF : isF b = true
        · rw [hF]
          refine Ev.step (f := fun k => r2_Plain.l0 k s 0) (fun k => ?_) ?_
          · simp only [r2_Plain.j0]
            rw [if_neg (by simp)]
          · have := Plain_l0_ev s hz s.size 0 (by omega)
            rw [List.drop_zero, hb, List.all_cons, isF_isM b hF] at this
            exact this
        · rw [Bool.eq_false_iff.mpr hF, Bool.false_and]
          exact no _ rfl
    · rw [decide_eq_false h64, Bool.false_and]
      refine Ev.congr (fun k => ?_) (no true rfl)
      unfold r2_Plain.f
      rw [if_neg (by omega), if_pos (by omega)]
theorem rSplit_end (s : ByteArray) (hz : s.size ≤ 64) : Ev (fun k => r2_Split.l0 k s (s.size : Int)) (T ([], [], false)) := by
  refine Ev.step (f := fun _ => some ((⟨#[]⟩ : ByteArray), (⟨#[]⟩ : ByteArray), false)) (fun k => ?_) (Ev.now _)
  simp only [r2_Split.l0]
  rw [if_neg (by omega)]
theorem rSplit_pass (s : ByteArray) (i : Nat) (hz : s.size ≤ 64) (h : i < (bl s).length) (hno : (bl s)[i] ≠ 58 ∨ plainL ((bl s).take i) = false ∨ plainL ((bl s).drop (i + 1)) = false) (r : ByteArray × ByteArray × Bool)
    (hr : Ev (fun k => r2_Split.l0 k s ((i + 1 : Nat) : Int)) r) : Ev (fun k => r2_Split.l0 k s i) r := by
  have hl := bl_length s
  have hw : wrap64 ((i : Int) + 1) = ((i + 1 : Nat) : Int) := by rw [wrap_id (by omega) (by omega)]; rfl
  by_cases hb : (bl s)[i] = 58
  · have hb' : bt s (i : Int) = 58 := by rw [bt_at s i h, hb]; rfl
    refine Ev.step (f := fun k => (r2_Plain.f k (mk ((bl s).take i))).bind fun t105 => (if t105 = true then ((r2_Plain.f k (mk ((bl s).drop (i + 1)))).bind fun t106 => (if t106 = true then (some (mk ((bl s).take i), mk ((bl s).drop (i + 1)), true)) else (r2_Split.l0 k s ((i + 1 : Nat) : Int)))) else (r2_Split.l0 k s ((i + 1 : Nat) : Int)))) (fun k => ?_) ?_
    · simp only [r2_Split.l0]
      rw [if_pos (by omega), if_pos (by omega), if_pos hb', if_pos (by omega), hw, Int.toNat_natCast, Int.toNat_natCast, if_pos (by omega), if_pos (by omega), ex_to, ex_from]
    · refine Ev.bind (Plain_ev _ (by rw [mk_size, List.length_take]; omega)) ?_
      by_cases h1 : plainL ((bl s).take i) = true
      · have h2 : plainL ((bl s).drop (i + 1)) = false := by
          rcases hno with h2 | h2 | h2
          · exact absurd hb h2
          · rw [h1] at h2
            cases h2
          · exact h2
        have e1 : (decide ((mk ((bl s).take i)).size ≤ 64) && plainL (bl (mk ((bl s).take i)))) = true := by
          rw [bl_mk, h1, decide_eq_true (by rw [mk_size, List.length_take]; omega)]
          rfl
        rw [e1]
        refine Ev.congr (f := fun k => (r2_Plain.f k (mk ((bl s).drop (i + 1)))).bind fun t106 => (if t106 = true then (some (mk ((bl s).take i), mk ((bl s).drop (i + 1)), true)) else (r2_Split.l0 k s ((i + 1 : Nat) : Int)))) (fun k => by rw [if_pos rfl]) ?_
        refine Ev.bind (Plain_ev _ (by rw [mk_size, List.length_drop]; omega)) ?_
        rw [bl_mk, h2, Bool.and_false]
        exact Ev.congr (fun k => by rw [if_neg (by simp)]) hr
      · rw [bl_mk, Bool.eq_false_iff.mpr h1, Bool.and_false]
        exact Ev.congr (fun k => by rw [if_neg (by simp)]) hr
  · have hb' : ¬ bt s (i : Int) = 58 := by
      rw [bt_at s i h]
      intro e
      apply hb
      apply UInt8.toNat_inj.mp
      exact Int.ofNat.inj e
    refine Ev.step (fun k => ?_) hr
    simp only [r2_Split.l0]
    rw [if_pos (by omega), if_pos (by omega), if_neg hb', hw]
theorem rSplit_hit (s : ByteArray) (i : Nat) (hz : s.size ≤ 64) (h : i < (bl s).length) (hb : (bl s)[i] = 58) (h1 : plainL ((bl s).take i) = true) (h2 : plainL ((bl s).drop (i + 1)) = true) :
    Ev (fun k => r2_Split.l0 k s i) (mk ((bl s).take i), mk ((bl s).drop (i + 1)), true) := by
  have hl := bl_length s
  have hw : wrap64 ((i : Int) + 1) = ((i + 1 : Nat) : Int) := by rw [wrap_id (by omega) (by omega)]; rfl
  have hb' : bt s (i : Int) = 58 := by rw [bt_at s i h, hb]; rfl
  refine Ev.step (f := fun k => (r2_Plain.f k (mk ((bl s).take i))).bind fun t105 => (if t105 = true then ((r2_Plain.f k (mk ((bl s).drop (i + 1)))).bind fun t106 => (if t106 = true then (some (mk ((bl s).take i), mk ((bl s).drop (i + 1)), true)) else (r2_Split.l0 k s ((i + 1 : Nat) : Int)))) else (r2_Split.l0 k s ((i + 1 : Nat) : Int)))) (fun k => ?_) ?_
  · simp only [r2_Split.l0]
    rw [if_pos (by omega), if_pos (by omega), if_pos hb', if_pos (by omega), hw, Int.toNat_natCast, Int.toNat_natCast, if_pos (by omega), if_pos (by omega), ex_to, ex_from]
  · refine Ev.bind (Plain_ev _ (by rw [mk_size, List.length_take]; omega)) ?_
    have e1 : (decide ((mk ((bl s).take i)).size ≤ 64) && plainL (bl (mk ((bl s).take i)))) = true := by
      rw [bl_mk, h1, decide_eq_true (by rw [mk_size, List.length_take]; omega)]
      rfl
    rw [e1]
    refine Ev.congr (f := fun k => (r2_Plain.f k (mk ((bl s).drop (i + 1)))).bind fun t106 => (if t106 = true then (some (mk ((bl s).take i), mk ((bl s).drop (i + 1)), true)) else (r2_Split.l0 k s ((i + 1 : Nat) : Int)))) (fun k => by rw [if_pos rfl]) ?_
    refine Ev.bind (Plain_ev _ (by rw [mk_size, List.length_drop]; omega)) ?_
    have e2 : (decide ((mk ((bl s).drop (i + 1))).size ≤ 64) && plainL (bl (mk ((bl s).drop (i + 1))))) = true := by
      rw [bl_mk, h2, decide_eq_true (by rw [mk_size, List.length_drop, hl]; omega)]
      rfl
    rw [e2]
    exact ⟨0, fun k _ => by simp⟩
theorem rSplit_rest (s : ByteArray) (hz : s.size ≤ 64) : ∀ (d i : Nat), i + d = s.size → (∀ j (h : j < (bl s).length), i ≤ j → (bl s)[j] = 58 → plainL ((bl s).take j) = false ∨ plainL ((bl s).drop (j + 1)) = false) → Ev (fun k => r2_Split.l0 k s i) (T ([], [], false)) := by
  intro d
  have hl := bl_length s
  induction d with
  | zero =>
    intro i hi _
    obtain rfl : i = s.size := by omega
    exact rSplit_end s hz
  | succ d ih =>
    intro i hi hno
    have hlt : i < (bl s).length := by omega
    refine rSplit_pass s i hz hlt ?_ _ (ih (i + 1) (by omega) (fun j h hij => hno j h (by omega)))
    by_cases hb : (bl s)[i] = 58
    · exact .inr (hno i hlt (Nat.le_refl _) hb)
    · exact .inl hb
theorem rSplit_to (s : ByteArray) (hz : s.size ≤ 64) (m : Nat) (hm : m ≤ (bl s).length) (r : ByteArray × ByteArray × Bool) (hr : Ev (fun k => r2_Split.l0 k s m) r) : ∀ (d i : Nat), i + d = m → (∀ j (h : j < (bl s).length), j < m → (bl s)[j] ≠ 58) → Ev (fun k => r2_Split.l0 k s i) r := by
  intro d
  induction d with
  | zero =>
    intro i hi _
    obtain rfl : i = m := by omega
    exact hr
  | succ d ih =>
    intro i hi hno
    exact rSplit_pass s i hz (by omega) (.inl (hno i (by omega) (by omega))) _ (ih (i + 1) (by omega) hno)
theorem rSplit_ev (s : ByteArray) (hz : s.size ≤ 140737488351232) : Ev (fun k => r2_Split.f k s) (T (splitS (bl s))) := by
  have hl := bl_length s
  refine Ev.bind (f := fun k t104 => (if t104 = true then (some ((⟨#[]⟩ : ByteArray), s, true)) else (if (s.size : Int) > 64 then (some ((⟨#[]⟩ : ByteArray), (⟨#[]⟩ : ByteArray), false)) else (r2_Split.l0 k s 0)))) (Plain_ev s hz) ?_
  by_cases h64 : 64 < s.size
  · rw [split_long _ (by omega), decide_eq_false (by omega), Bool.false_and]
    refine ⟨0, fun k _ => ?_⟩
    simp only
    rw [if_neg (by simp), if_pos (by omega)]
    rfl
  · rw [decide_eq_true (by omega), Bool.true_and]
    by_cases hp : plainL (bl s) = true
    · rw [hp, split_none _ (by omega) (all_no_colon _ (plain_all _ hp)), if_pos hp]
      refine ⟨0, fun k _ => ?_⟩
      simp only
      rw [if_pos trivial]
      simp only [T, mk_bl]
    · rw [Bool.eq_false_iff.mpr hp]
      refine Ev.congr (f := fun k => r2_Split.l0 k s ((0 : Nat) : Int)) (fun k => by rw [if_neg (by simp), if_neg (by omega)]; rfl) ?_
      rcases idx_cases 58 (bl s) with ⟨_, hc⟩ | ⟨p, q, hpq, hc, _⟩
      · rw [split_none _ (by omega) hc, if_neg hp]
        refine rSplit_rest s (by omega) s.size 0 (by omega) (fun j h _ hb => absurd (hb ▸ List.getElem_mem h) hc)
      · have hlen : (bl s).length = p.length + 1 + q.length := by rw [hpq, List.length_append, List.length_cons]; omega
        have hlt : p.length < (bl s).length := by omega
        have hat : (bl s)[p.length]'hlt = 58 := by simp [hpq]
        have htk : (bl s).take p.length = p := by rw [hpq]; simp
        have hdr : (bl s).drop (p.length + 1) = q := by rw [hpq, List.drop_append]; simp
        have hspl : splitS (bl s) = if (plainL p && plainL q) = true then (p, q, true) else ([], [], false) := by
          rw [hpq, split_at p q (by omega) hc]
        have hbefore : ∀ j (h : j < (bl s).length), j < p.length → (bl s)[j] ≠ 58 := by
          intro j h hj e
          apply hc
          have : (bl s)[j] = p[j] := by simp [hpq, List.getElem_append, hj]
          rw [← e, this]
          exact List.getElem_mem hj
        refine rSplit_to s (by omega) p.length (by omega) _ ?_ p.length 0 (by omega) hbefore
        rw [hspl]
        by_cases hpp : (plainL p && plainL q) = true
        · rw [if_pos hpp]
          rw [Bool.and_eq_true] at hpp
          have := rSplit_hit s p.length (by omega) hlt hat (by rw [htk]; exact hpp.1) (by rw [hdr]; exact hpp.2)
          rw [htk, hdr] at this
          exact this
        · rw [if_neg hpp]
          refine rSplit_rest s (by omega) (s.size - p.length) p.length (by omega) (fun j h hj hb => ?_)
          by_cases he : j = p.length
          · subst he
            rw [htk, hdr]
            by_cases h1 : plainL p = true
            · right
              by_cases h2 : plainL q = true
              · exact absurd (by rw [h1, h2]; rfl) hpp
              · exact Bool.eq_false_iff.mpr h2
            · exact .inl (Bool.eq_false_iff.mpr h1)
          · left
            refine Bool.eq_false_iff.mpr (fun hpl => ?_)
            have h1 := all_no_colon _ (plain_all _ hpl)
            apply h1
            have h2 : ((bl s).take j)[p.length]'(by rw [List.length_take]; omega) = 58 := by
              rw [List.getElem_take]
              exact hat
            rw [← h2]
            exact List.getElem_mem _
theorem rBegin_ev (s : ByteArray) (hz : s.size ≤ 140737488351232) : Ev (fun k => r2_Begin.f k s) (beginL (bl s) : Int) := by
  have hl := bl_length s
  obtain ⟨h1, h2, h3, h4⟩ := begin_max (bl s)
  have from_ : ∀ (d n : Nat), n = beginL (bl s) + d → n ≤ s.size → n ≤ 64 → Ev (fun k => r2_Begin.l0 k s n) (beginL (bl s) : Int) := by
    intro d
    generalize beginL (bl s) = b at *
    induction d with
    | zero =>
      intro n hn hns hn6
      obtain rfl : n = b := by omega
      by_cases h0 : n = 0
      · subst h0
        refine Ev.step (f := fun _ => some 0) (fun k => ?_) (Ev.now _)
        simp only [r2_Begin.l0]
        rw [if_neg (by omega)]
      · refine Ev.step (f := fun k => (r2_Split.f k (mk ((bl s).take n))).bind fun bt107 => (if bt107.2.2 = true then (some (n : Int)) else (r2_Begin.l0 k s (wrap64 ((n : Int) - 1))))) (fun k => ?_) ?_
        · simp only [r2_Begin.l0]
          rw [if_pos (by omega), if_pos (by omega), if_pos (by omega), Int.toNat_natCast, ex_to]
        · refine Ev.bind (rSplit_ev _ (by rw [mk_size, List.length_take]; omega)) ⟨0, fun k _ => ?_⟩
          have := h3 (by omega)
          unfold okL at this
          simp only [bl_mk, T, this, if_true]
    | succ d ih =>
      intro n hn hns hn6
      refine Ev.step (f := fun k => (r2_Split.f k (mk ((bl s).take n))).bind fun bt107 => (if bt107.2.2 = true then (some (n : Int)) else (r2_Begin.l0 k s ((n - 1 : Nat) : Int)))) (fun k => ?_) ?_
      · simp only [r2_Begin.l0]
        rw [if_pos (by omega), if_pos (by omega), if_pos (by omega), Int.toNat_natCast, ex_to, wrap_id (by omega) (by omega), show (n : Int) - 1 = ((n - 1 : Nat) : Int) by omega]
      · refine Ev.bind (rSplit_ev _ (by rw [mk_size, List.length_take]; omega)) ?_
        have := h4 n (by omega) (by omega) hn6
        unfold okL at this
        refine Ev.congr (fun k => ?_) (ih (n - 1) (by omega) (by omega) (by omega))
        simp only [bl_mk, T, this]
        rfl
  have hm : ∃ m : Nat, mn (s.size : Int) 64 = (m : Int) ∧ m ≤ 64 ∧ m ≤ s.size ∧ (m = 64 ∨ m = s.size) := by
    unfold mn
    split
    · exact ⟨64, rfl, by omega, by omega, .inl rfl⟩
    · exact ⟨s.size, rfl, by omega, by omega, .inr rfl⟩
  obtain ⟨m, hm, hm1, hm2, hm3⟩ := hm
  refine Ev.congr (f := fun k => r2_Begin.l0 k s (m : Int)) (fun k => ?_) (from_ (m - beginL (bl s)) m (by omega) hm2 hm1)
  unfold r2_Begin.f
  rw [hm]
end Go.Proofs.YtpknhgejnfmijaaGreatDoor.M
