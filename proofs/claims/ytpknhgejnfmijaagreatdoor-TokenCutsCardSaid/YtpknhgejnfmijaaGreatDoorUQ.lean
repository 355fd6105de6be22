/- A text of the claim, with what no other text of it needs taken out. -/
import Derived.Test.YtpknhgejnfmijaaGreatDoorUP
import Derived.Test.YtpknhgejnfmijaaGreatDoorPC4
namespace Go.Proofs.YtpknhgejnfmijaaGreatDoor.U
open Go Go.RowKit Go.Proofs.YtpknhgejnfmijaaGreatDoorW.PrintWords Go.Proofs.YtpknhgejnfmijaaGreatDoor.PU Go.Proofs.YtpknhgejnfmijaaGreatDoor.PC
set_option linter.unusedVariables false
set_option linter.unusedSimpArgs false
theorem ref_Is_eq (c : Int) : r1_Is.f c = some (X.isI c) := by
  have h : ∀ b : Bool, (b = true ↔ X.isI c = true) → some b = some (X.isI c) := fun b hb => by rw [Bool.eq_iff_iff.mpr hb]
  have hi : X.isI c = true ↔ ((9 ≤ c ∧ c ≤ 10) ∨ c = 13 ∨ (32 ≤ c ∧ c ≤ 55295) ∨ (57344 ≤ c ∧ c ≤ 65533) ∨ (65536 ≤ c ∧ c ≤ 1114111)) := by
    simp [X.isI, or_assoc]
  unfold r1_Is.f
  repeat' split
  all_goals apply h; rw [hi]; simp; omega
theorem ofNat_mod (n : Nat) : UInt8.ofNat (n % 256) = UInt8.ofNat n := by
  apply UInt8.toNat_inj.mp
  simp
theorem ref_Put_eq (c : Int) : r1_Put.f c = some (if X.isI c = true then ⟨(enc c.toNat).toArray⟩ else ⟨#[]⟩) := by
  unfold r1_Put.f
  rw [ref_Is_eq]
  simp only [Option.bind_some]
  by_cases h : X.isI c = true
  · rw [if_pos h, if_pos h]
    have h0 : 0 ≤ c ∧ c ≤ 1114111 := by
      simp only [X.isI, Bool.or_eq_true, decide_eq_true_eq] at h
      omega
    obtain ⟨n, rfl⟩ : ∃ n : Nat, c = n := ⟨c.toNat, by omega⟩
    have hn : n ≤ 1114111 := by omega
    have w1 : ∀ z : Int, 0 ≤ z → z ≤ 4000000 → wrap64 z = z := fun z a b => wrap_id (by omega) (by omega)
    have d1 : ∀ k : Nat, Int.tdiv (n : Int) (k : Int) = ((n / k : Nat) : Int) := fun k => by rw [Int.tdiv_eq_ediv_of_nonneg (by omega)]; rfl
    have m1 : ∀ a k : Nat, Int.tmod (a : Int) (k : Int) = ((a % k : Nat) : Int) := fun a k => by rw [Int.tmod_eq_emod_of_nonneg (by omega)]; rfl
    have d64 := d1 64
    have d4096 := d1 4096
    have d262144 := d1 262144
    have m64 := m1 n 64
    have m64b := m1 (n / 64) 64
    have m64c := m1 (n / 4096) 64
    simp only [Int.cast_ofNat_Int] at d64 d4096 d262144 m64 m64b m64c
    have q64 : ((n / 64 : Nat) : Int) ≤ 4000000 := by omega
    have q4096 : ((n / 4096 : Nat) : Int) ≤ 4000000 := by omega
    have q262144 : ((n / 262144 : Nat) : Int) ≤ 4000000 := by omega
    have key : ∀ a : Nat, ((((a : Int)) % 256).toNat) = a % 256 := fun a => by omega
    simp only [Int.toNat_natCast, enc]
    by_cases h1 : n < 128
    · rw [if_pos (by omega), if_pos h1]
      simp only [strOfNums, List.map_cons, List.map_nil, key, ofNat_mod]
    · rw [if_neg (by omega), if_neg h1]
      by_cases h2 : n < 2048
      · rw [if_pos (by omega), if_pos h2, d64, m64, w1 _ (by omega) q64, w1 _ (by omega) (by omega), w1 _ (by omega) (by omega)]
        simp only [strOfNums, List.map_cons, List.map_nil]
        rw [show ((192 : Int) + ((n / 64 : Nat) : Int)) = ((192 + n / 64 : Nat) : Int) by omega, show ((128 : Int) + ((n % 64 : Nat) : Int)) = ((128 + n % 64 : Nat) : Int) by omega, key, key, ofNat_mod, ofNat_mod]
      · rw [if_neg (by omega), if_neg h2]
        by_cases h3 : n < 65536
        · rw [if_pos (by omega), if_pos h3, d64, d4096, w1 _ (by omega) q64, w1 _ (by omega) q4096, m64, m64b, w1 _ (by omega) (by omega), w1 _ (by omega) (by omega), w1 _ (by omega) (by omega)]
          simp only [strOfNums, List.map_cons, List.map_nil]
          rw [show ((224 : Int) + ((n / 4096 : Nat) : Int)) = ((224 + n / 4096 : Nat) : Int) by omega, show ((128 : Int) + ((n / 64 % 64 : Nat) : Int)) = ((128 + n / 64 % 64 : Nat) : Int) by omega, show ((128 : Int) + ((n % 64 : Nat) : Int)) = ((128 + n % 64 : Nat) : Int) by omega, key, key, key, ofNat_mod, ofNat_mod, ofNat_mod]
        · rw [if_neg (by omega), if_neg h3, d64, d4096, d262144, w1 _ (by omega) q64, w1 _ (by omega) q4096, w1 _ (by omega) q262144, m64, m64b, m64c, w1 _ (by omega) (by omega), w1 _ (by omega) (by omega), w1 _ (by omega) (by omega), w1 _ (by omega) (by omega)]
          simp only [strOfNums, List.map_cons, List.map_nil]
          rw [show ((240 : Int) + ((n / 262144 : Nat) : Int)) = ((240 + n / 262144 : Nat) : Int) by omega, show ((128 : Int) + ((n / 4096 % 64 : Nat) : Int)) = ((128 + n / 4096 % 64 : Nat) : Int) by omega, show ((128 : Int) + ((n / 64 % 64 : Nat) : Int)) = ((128 + n / 64 % 64 : Nat) : Int) by omega, show ((128 : Int) + ((n % 64 : Nat) : Int)) = ((128 + n % 64 : Nat) : Int) by omega, key, key, key, key, ofNat_mod, ofNat_mod, ofNat_mod, ofNat_mod]
  · rw [if_neg h, if_neg h]
theorem bl_mk (l : List UInt8) : bl ⟨l.toArray⟩ = l := rfl
theorem wrap_step (c b : Int) (h1 : -100000000 ≤ c) (h2 : c ≤ 100000000) (h3 : 0 ≤ b) (h4 : b ≤ 255) : wrap64 ((wrap64 ((wrap64 (c * 64)) + (wrap64 b))) - 128) = c * 64 + b - 128 := by
  rw [wrap_id (n := c * 64) (by omega) (by omega), wrap_id (n := b) (by omega) (by omega), wrap_id (n := c * 64 + b) (by omega) (by omega), wrap_id (by omega) (by omega)]
theorem number_l0_step (k : Nat) (s : ByteArray) (n : Int) (i : Nat) (c : Int) (h1 : (i : Int) < n) (h2 : i < s.size) (hi : i ≤ 4) (c1 : -100000000 ≤ c) (c2 : c ≤ 100000000) :
    r1_number.l0 (k + 1) s n c i = r1_number.l0 k s n (c * 64 + ((bl s).getD i 0).toNat - 128) ((i + 1 : Nat) : Int) := by
  have g := getD_lt (bl s) i
  simp only [r1_number.l0]
  rw [if_pos h1, if_pos (by omega), if_pos (by omega), bt_bl, wrap_step _ _ c1 c2 (by omega) (by omega), wrap_id (by omega) (by omega)]
  rfl
theorem number_l0_end (k : Nat) (s : ByteArray) (n i c : Int) (h1 : ¬ i < n) : r1_number.l0 (k + 1) s n c i = some c := by
  simp only [r1_number.l0]
  rw [if_neg h1]
theorem number_f (k : Nat) (s : ByteArray) (n : Nat) (f : Int) (h1 : 1 < n) (h4 : n ≤ 4) (hs : n ≤ s.size) (hf : rd ([0, 256, 192, 224, 240] : List Int) n = f) (f0 : 0 ≤ f) (f1 : f ≤ 256) :
    r1_number.f k s n = r1_number.l0 k s n (((bl s).getD 0 0).toNat - f) ((1 : Nat) : Int) := by
  have g0 := getD_lt (bl s) 0
  have e0 : bt s 0 = _ := bt_bl s 0
  unfold r1_number.f
  simp only [Option.bind_some]
  rw [if_neg (by omega), if_pos (by omega), if_pos (by omega), if_pos (by simp only [List.length_cons, List.length_nil]; omega), e0, hf, wrap_id (n := (((bl s).getD 0 0).toNat : Int)) (by omega) (by omega), wrap_id (by omega) (by omega)]
  rfl
theorem ref_number_ev (s : ByteArray) (n : Nat) (h1 : 1 ≤ n) (h4 : n ≤ 4) (hs : n ≤ s.size) (hz : s.size ≤ 140737488351232) : Ev (fun k => r1_number.f k s n) (number (bl s) n) := by
  refine ⟨5, fun k hk => ?_⟩
  obtain ⟨k, rfl⟩ : ∃ m, k = m + 5 := ⟨k - 5, by omega⟩
  have g0 := getD_lt (bl s) 0
  have g1 := getD_lt (bl s) 1
  have g2 := getD_lt (bl s) 2
  have g3 := getD_lt (bl s) 3
  rcases (by omega : n = 1 ∨ n = 2 ∨ n = 3 ∨ n = 4) with rfl | rfl | rfl | rfl
  · have e0 : bt s 0 = _ := bt_bl s 0
    unfold r1_number.f
    simp only [Option.bind_some]
    rw [if_pos (by omega), if_pos (by omega), e0, wrap_id (by omega) (by omega), number_one]
  · show r1_number.f (k + 5) s ((2 : Nat) : Int) = _
    rw [number_f _ s 2 192 (by omega) (by omega) hs rfl (by omega) (by omega), number_l0_step _ _ _ 1 _ (by omega) (by omega) (by omega) (by omega) (by omega), number_l0_end _ _ _ _ _ (by omega), number_two]
  · show r1_number.f (k + 5) s ((3 : Nat) : Int) = _
    rw [number_f _ s 3 224 (by omega) (by omega) hs rfl (by omega) (by omega), number_l0_step _ _ _ 1 _ (by omega) (by omega) (by omega) (by omega) (by omega), number_l0_step _ _ _ (1 + 1) _ (by omega) (by omega) (by omega) (by omega) (by omega), number_l0_end _ _ _ _ _ (by omega), number_three]
  · show r1_number.f (k + 5) s ((4 : Nat) : Int) = _
    rw [number_f _ s 4 240 (by omega) (by omega) hs rfl (by omega) (by omega), number_l0_step _ _ _ 1 _ (by omega) (by omega) (by omega) (by omega) (by omega), number_l0_step _ _ _ (1 + 1) _ (by omega) (by omega) (by omega) (by omega) (by omega), number_l0_step _ _ _ (1 + 1 + 1) _ (by omega) (by omega) (by omega) (by have g22 := getD_lt (bl s) (1 + 1); omega) (by have g22 := getD_lt (bl s) (1 + 1); omega), number_l0_end _ _ _ _ _ (by omega), number_four]
def P (l : List UInt8) (n : Nat) : Prop := X.isI (number l n) = true ∧ enc (number l n).toNat = l.take n
theorem P_nx (l : List UInt8) (n : Nat) (hn : n ≤ l.length) (h : P l n) : nx l = ((number l n).toNat, n) := by
  obtain ⟨h1, h2⟩ := h
  have h0 : 0 ≤ number l n := by
    simp only [X.isI, Bool.or_eq_true, decide_eq_true_eq] at h1
    omega
  have h3 : U.isx (number l n).toNat = true := by
    rw [← X.isI_nat, Int.toNat_of_nonneg h0]
    exact h1
  have h4 : (enc (number l n).toNat).length = n := by rw [h2, List.length_take]; omega
  have := nx_of_take _ h3 l (by rw [h4, h2])
  rw [this, h4]
theorem nx_P (l : List UInt8) (h : (nx l).2 ≠ 0) : P l (nx l).2 := by
  obtain ⟨_, _, hx, he, _, _, _, _, hn⟩ := nx_good l h
  refine ⟨?_, ?_⟩
  · rw [hn, X.isI_nat]
    exact hx
  · rw [hn, Int.toNat_natCast]
    exact he
instance (l : List UInt8) (n : Nat) : Decidable (P l n) := by unfold P; infer_instance
theorem ref_Next_step (s : ByteArray) (n : Nat) (h1 : 1 ≤ n) (h4 : n ≤ 4) (hs : n ≤ s.size) (hz : s.size ≤ 140737488351232) (r : Int × Int × Int)
    (hr : if P (bl s) n then r = (number (bl s) n, (n : Int), 0) else Ev (fun k => r1_Next.l0 k s ((n + 1 : Nat) : Int)) r) :
    Ev (fun k => r1_Next.l0 k s n) r := by
  have hw : wrap64 ((n : Int) + 1) = ((n + 1 : Nat) : Int) := by rw [wrap_id (by omega) (by omega)]; omega
  refine Ev.step (f := fun k => r1_Next.j1 k s n (decide ((n : Int) ≤ (s.size : Int)))) (fun k => by simp only [r1_Next.l0]; rw [if_pos (by omega)]) ?_
  rw [decide_eq_true (by omega : (n : Int) ≤ (s.size : Int))]
  refine Ev.step (fun k => by simp only [r1_Next.j1]; rw [if_pos trivial]) ?_
  refine Ev.bind (f := fun k t142 => (r1_Is.f t142).bind fun t143 => (if t143 = true then ((r1_Put.f t142).bind fun t144 => (if 0 ≤ (n : Int) then (if (n : Int) ≤ (s.size : Int) then (if t144.toList = (s.extract 0 (n : Int).toNat).toList then (some (t142, (n : Int), 0)) else (r1_Next.l0 k s (wrap64 ((n : Int) + 1)))) else (none)) else (none))) else (r1_Next.l0 k s (wrap64 ((n : Int) + 1))))) (ref_number_ev s n h1 h4 hs hz) ?_
  refine Ev.congr (f := fun k => if X.isI (number (bl s) n) = true then (if enc (number (bl s) n).toNat = (bl s).take n then some (number (bl s) n, (n : Int), 0) else r1_Next.l0 k s ((n + 1 : Nat) : Int)) else r1_Next.l0 k s ((n + 1 : Nat) : Int)) (fun k => ?_) ?_
  · rw [ref_Is_eq]
    simp only [Option.bind_some]
    by_cases hi : X.isI (number (bl s) n) = true
    · rw [if_pos hi, if_pos hi, ref_Put_eq, if_pos hi]
      simp only [Option.bind_some]
      rw [if_pos (by omega), if_pos (by omega), hw, toList_bl, toList_bl, bl_extract, bl_mk]
      simp
    · rw [if_neg hi, if_neg hi, hw]
  · by_cases hp : P (bl s) n
    · rw [if_pos hp] at hr
      subst hr
      refine ⟨0, fun k _ => ?_⟩
      simp only
      rw [if_pos hp.1, if_pos hp.2]
    · rw [if_neg hp] at hr
      refine Ev.congr (fun k => ?_) hr
      by_cases hi : X.isI (number (bl s) n) = true
      · rw [if_pos hi, if_neg (fun he => hp ⟨hi, he⟩)]
      · rw [if_neg hi]
theorem ref_Next_stop (s : ByteArray) (n : Nat) (h : 4 < n ∨ s.size < n) (hz : s.size ≤ 140737488351232) : Ev (fun k => r1_Next.l0 k s n) (0, 0, 10) := by
  refine Ev.step (f := fun k => r1_Next.j1 k s n false) (fun k => ?_) (Ev.step (f := fun _ => some (0, 0, 10)) (fun k => by simp only [r1_Next.j1]; rw [if_neg (by simp)]) (Ev.now _))
  simp only [r1_Next.l0]
  by_cases h4 : (n : Int) ≤ 4
  · rw [if_pos h4, decide_eq_false (by omega)]
  · rw [if_neg h4]
theorem ref_Next_from (s : ByteArray) (hz : s.size ≤ 140737488351232) (h0 : bl s ≠ []) : ∀ (d n : Nat), n + d = 5 → 1 ≤ n → (∀ m, 1 ≤ m → m < n → m ≤ s.size → ¬ P (bl s) m) → Ev (fun k => r1_Next.l0 k s n) (nextR (bl s)) := by
  intro d
  induction d with
  | zero =>
    intro n hn h1 hno
    have e : nextR (bl s) = (0, 0, 10) := by
      unfold nextR
      rw [if_neg h0]
      by_cases h : (nx (bl s)).2 = 0
      · rw [if_pos h]
      · obtain ⟨_, _, _, _, _, h6, h7, h8, _⟩ := nx_good _ h
        rw [bl_length] at h6
        exact absurd (nx_P _ h) (hno _ h7 (by omega) h6)
    rw [e]
    exact ref_Next_stop s n (.inl (by omega)) hz
  | succ d ih =>
    intro n hn h1 hno
    by_cases hs : n ≤ s.size
    · refine ref_Next_step s n h1 (by omega) hs hz _ ?_
      by_cases hp : P (bl s) n
      · rw [if_pos hp]
        have := P_nx _ n (by rw [bl_length]; exact hs) hp
        have hx : 0 ≤ number (bl s) n := by
          have := hp.1
          simp only [X.isI, Bool.or_eq_true, decide_eq_true_eq] at this
          omega
        unfold nextR
        rw [if_neg h0, this]
        simp only
        rw [if_neg (by omega), Int.toNat_of_nonneg hx]
      · rw [if_neg hp]
        refine ih (n + 1) (by omega) (by omega) (fun m a b c => ?_)
        by_cases hm : m = n
        · subst hm
          exact hp
        · exact hno m a (by omega) c
    · have e : nextR (bl s) = (0, 0, 10) := by
        unfold nextR
        rw [if_neg h0]
        by_cases h : (nx (bl s)).2 = 0
        · rw [if_pos h]
        · obtain ⟨_, _, _, _, _, h6, h7, h8, _⟩ := nx_good _ h
          rw [bl_length] at h6
          exact absurd (nx_P _ h) (hno _ h7 (by omega) h6)
      rw [e]
      exact ref_Next_stop s n (.inr (by omega)) hz
theorem ref_Next_ev (s : ByteArray) (hz : s.size ≤ 140737488351232) : Ev (fun k => r1_Next.f k s) (nextR (bl s)) := by
  by_cases h0 : bl s = []
  · refine ⟨0, fun k _ => ?_⟩
    show r1_Next.f k s = _
    unfold r1_Next.f
    rw [toList_bl, if_pos h0]
    simp [nextR, h0]
  · refine Ev.congr (f := fun k => r1_Next.l0 k s ((1 : Nat) : Int)) (fun k => ?_) (ref_Next_from s hz h0 4 1 rfl (Nat.le_refl _) (fun m a b => by omega))
    unfold r1_Next.f
    rw [toList_bl, if_neg h0]
    rfl
theorem ref_Valid_from (s : ByteArray) (hz : s.size ≤ 140737488351232) : ∀ (d p : Nat), p + d = s.size → Ev (fun k => r1_Valid.l0 k s p) (if p + (R ((bl s).drop p)).2 < s.size then (((p + (R ((bl s).drop p)).2 : Nat) : Int), 10) else (0, 0)) := by
  intro d
  induction d using Nat.strongRecOn with
  | _ d ih =>
    intro p hp
    have hl := bl_length s
    by_cases hps : p < s.size
    · have hne : (bl s).drop p ≠ [] := by
        intro e
        have := congrArg List.length e
        rw [List.length_drop, hl] at this
        simp at this
        omega
      refine Ev.step (f := fun k => (r1_Next.f k (s.extract p s.size)).bind fun bt162 => (if bt162.2.2 = 0 then (r1_Valid.l0 k s (wrap64 ((p : Int) + bt162.2.1))) else (some ((p : Int), bt162.2.2)))) (fun k => ?_) ?_
      · simp only [r1_Valid.l0]
        rw [if_pos (by omega), if_pos (by omega), if_pos (by omega)]
        rfl
      · have hsz : (s.extract p s.size).size ≤ 140737488351232 := by
          rw [← bl_length, bl_from, List.length_drop, hl]
          omega
        refine Ev.bind (ref_Next_ev _ hsz) ?_
        rw [bl_from]
        by_cases h : (nx ((bl s).drop p)).2 = 0
        · rw [nextR_err _ hne h, R_stop _ h]
          refine ⟨0, fun k _ => ?_⟩
          simp only
          rw [if_neg (by decide), if_pos (by omega)]
          simp
        · rw [nextR_ok _ h, R_go _ h]
          obtain ⟨_, _, _, _, _, h6, h7, h8, _⟩ := nx_good _ h
          rw [List.length_drop, hl] at h6
          have := ih (s.size - (p + (nx ((bl s).drop p)).2)) (by omega) (p + (nx ((bl s).drop p)).2) (by omega)
          rw [List.drop_drop]
          refine Ev.congr (f := fun k => r1_Valid.l0 k s ((p + (nx ((bl s).drop p)).2 : Nat) : Int)) (fun k => ?_) ?_
          · simp only
            rw [if_pos trivial, wrap_id (by omega) (by omega)]
            rfl
          · have e : p + (nx ((bl s).drop p)).2 + (R ((bl s).drop (p + (nx ((bl s).drop p)).2))).2 = p + ((R ((bl s).drop (p + (nx ((bl s).drop p)).2))).2 + (nx ((bl s).drop p)).2) := by omega
            rw [e] at this
            exact this
    · have he : (bl s).drop p = [] := List.drop_of_length_le (by omega)
      rw [he, R_nil, if_neg (by simp only; omega)]
      refine Ev.step (f := fun _ => some (0, 0)) (fun k => ?_) (Ev.now _)
      simp only [r1_Valid.l0]
      rw [if_neg (by omega)]
theorem ref_Valid_ev (s : ByteArray) (hz : s.size ≤ 140737488351232) : Ev (fun k => r1_Valid.f k s) (validR (bl s)) := by
  have := ref_Valid_from s hz s.size 0 (by omega)
  rw [List.drop_zero, Nat.zero_add] at this
  unfold validR
  rw [bl_length]
  exact this
end Go.Proofs.YtpknhgejnfmijaaGreatDoor.U
