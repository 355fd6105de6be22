/- A text of the claim, with what no other text of it needs taken out. -/
import Derived.Test.YtebekjenmoijhaaDoorM8
namespace Go.Proofs.YtebekjenmoijhaaDoor.M
open Go Go.RowKit Go.Proofs.YtebekjenmoijhaaDoorW.PrintWords Go.Proofs.YtebekjenmoijhaaDoorW.PrintMore Go.Proofs.YtebekjenmoijhaaDoor.PM Go.Proofs.YtebekjenmoijhaaDoor.PL
set_option linter.unusedVariables false
set_option linter.unusedSimpArgs false
def dz (c : UInt8) : Int := (dn c : Int)
theorem val_rev (m : List UInt8) : val (m.map dz) = (vN 0 m.reverse : Int) := by
  induction m with
  | nil => rfl
  | cons c m ih =>
    rw [List.reverse_cons, vN_append, List.map_cons]
    simp only [val, ih, dz]
    omega
theorem dz_D {m : List UInt8} (h : m.all isD = true) : D (m.map dz) := fun x hx => by
  obtain ⟨c, hc, rfl⟩ := List.mem_map.mp hx
  have := List.all_eq_true.mp h c hc
  rw [isD_iff] at this
  unfold dz
  rw [dn_eq]
  omega
theorem refParse_loop (t : ByteArray) (b : Bool) (hz : t.size ≤ 900) : ∀ (i : Nat), i ≤ (bl t).length → ((bl t).drop i).all isD = true →
    Ev (fun k => hopscotchref06_Parse.l0 k t b (((bl t).drop i).reverse.map dz) ((i : Int) - 1)) (if (bl t).all isD = true then toldR (sg (vN 0 (bl t) : Int) b) else (0, 2)) := by
  have hs := bl_length t
  intro i
  induction i with
  | zero =>
    intro _ ha
    rw [List.drop_zero] at *
    have hD : D ((bl t).reverse.map dz) := dz_D (by rw [List.all_reverse]; exact ha)
    have hv : val ((bl t).reverse.map dz) = (vN 0 (bl t) : Int) := by rw [val_rev, List.reverse_reverse]
    have h1 := trim_dg (l := (bl t).reverse.map dz) (by rw [List.length_map, List.length_reverse]; omega) hD
    rw [hv, Int.toNat_natCast] at h1
    have hlen : (dg (vN 0 (bl t))).length ≤ 1000 := by
      refine Nat.le_trans (dg_length_le (bl t).length _ ?_) (by omega)
      have := val_lt hD
      rw [hv, List.length_map, List.length_reverse] at this
      exact_mod_cast this
    have h2 := told_ev (dg_D (vN 0 (bl t))) hlen b
    rw [dg_val] at h2
    rw [if_pos ha]
    refine Ev.step (f := fun k => (hopscotchref06_trim.f k ((bl t).reverse.map dz)).bind fun x => (hopscotchref06_told.f k x b).bind fun y => some (y.1, y.2)) (fun k => ?_) (Ev.bind h1 (Ev.bind h2 (Ev.now _)))
    simp only [hopscotchref06_Parse.l0]
    rw [if_neg (by omega)]
  | succ i ih =>
    intro hi ha
    have hlt : i < (bl t).length := by omega
    have hb := bt_at t i hlt
    have e := List.drop_eq_getElem_cons hlt
    have hlt2 := ((bl t)[i]).toNat_lt
    by_cases h : isD ((bl t)[i]) = true
    · have ha' : ((bl t).drop i).all isD = true := by rw [e, List.all_cons, h, ha]; rfl
      refine Ev.step (fun k => ?_) (ih (by omega) ha')
      have h' := (isD_iff _).mp h
      simp only [hopscotchref06_Parse.l0]
      rw [if_pos (by omega), if_pos (by omega), if_pos (by omega), show ((i + 1 : Nat) : Int) - 1 = (i : Int) by omega, hb, if_neg (by omega), if_neg (by omega)]
      rw [if_pos (by rw [List.length_map, List.length_reverse, List.length_drop]; omega), wrap_id (n := ((bl t)[i].toNat : Int)) (by omega) (by omega), wrap_id (n := ((bl t)[i].toNat : Int) - 48) (by omega) (by omega), wrap_id (n := (i : Int) - 1) (by omega) (by omega)]
      rw [e, List.reverse_cons, List.map_append]
      congr 2
      simp only [List.map_cons, List.map_nil, dz, dn_eq]
      congr 1
      omega
    · have hall : ¬ (bl t).all isD = true := by
        intro hc
        exact h (List.all_eq_true.mp hc _ (List.getElem_mem hlt))
      rw [if_neg hall]
      rw [isD_iff] at h
      refine Ev.step (f := fun _ => some (0, 2)) (fun k => ?_) (Ev.now _)
      simp only [hopscotchref06_Parse.l0]
      rw [if_pos (by omega), if_pos (by omega), if_pos (by omega), show ((i + 1 : Nat) : Int) - 1 = (i : Int) by omega, hb]
      by_cases h1 : (bl t)[i].toNat < 48
      · rw [if_pos (by omega)]
      · rw [if_neg (by omega), if_pos (by omega)]
def rf (t : List UInt8) (n : Bool) : Bool :=
  match t with
  | [] => true
  | c :: r => if c = 48 then (if r = [] then n else true) else false
theorem refParse_j1 (t : ByteArray) (b : Bool) (hz : t.size ≤ 900) : Ev (fun k => hopscotchref06_Parse.j1 k t b) (if rf (bl t) b = true then (0, 2) else if (bl t).all isD = true then toldR (sg (vN 0 (bl t) : Int) b) else (0, 2)) := by
  have hs := bl_length t
  have j2t : Ev (fun k => hopscotchref06_Parse.j2 k t b true) (0, 2) := Ev.step (f := fun _ => some (0, 2)) (fun k => by simp only [hopscotchref06_Parse.j2, if_true]) (Ev.now _)
  have j2f : Ev (fun k => hopscotchref06_Parse.j2 k t b false) (if (bl t).all isD = true then toldR (sg (vN 0 (bl t) : Int) b) else (0, 2)) := by
    have := refParse_loop t b hz (bl t).length (Nat.le_refl _) (by rw [List.drop_of_length_le (Nat.le_refl _)]; rfl)
    rw [List.drop_of_length_le (Nat.le_refl _)] at this
    refine Ev.step (fun k => ?_) this
    simp only [hopscotchref06_Parse.j2, Bool.false_eq_true, if_false]
    rw [wrap_id (by omega) (by omega), hs]
    rfl
  cases hl : bl t with
  | nil =>
    rw [hl] at j2f hs
    rw [show rf [] b = true from rfl, if_pos rfl]
    refine Ev.step (fun k => ?_) j2t
    simp only [hopscotchref06_Parse.j1]
    rw [if_pos (by rw [toList_bl, hl])]
  | cons c r =>
    rw [hl] at j2f hs
    have hb := bt_at t 0 (by rw [hl]; simp)
    simp only [hl, List.getElem_cons_zero] at hb
    rw [List.length_cons] at hs
    have h48 : ((c.toNat : Nat) : Int) = 48 ↔ c = 48 := by
      rw [← UInt8.toNat_inj]
      show _ ↔ c.toNat = 48
      omega
    have step : ∀ k, hopscotchref06_Parse.j1 (k + 1) t b = if c = 48 then (if r ≠ [] then hopscotchref06_Parse.j2 k t b true else hopscotchref06_Parse.j2 k t b b) else hopscotchref06_Parse.j2 k t b false := by
      intro k
      simp only [hopscotchref06_Parse.j1]
      rw [if_neg (by rw [toList_bl, hl]; simp), if_pos (by omega), show (0 : Int) = ((0 : Nat) : Int) from rfl, hb]
      by_cases hc : c = 48
      · rw [if_pos (h48.mpr hc), if_pos hc]
        by_cases hr : r = []
        · subst hr
          rw [if_neg (by simp at hs; omega), if_neg (by simp)]
        · have : 0 < r.length := List.length_pos_iff.mpr hr
          rw [if_pos (by omega), if_pos hr]
      · rw [if_neg (fun h => hc (h48.mp h)), if_neg hc]
    refine Ev.step step ?_
    simp only [rf]
    by_cases hc : c = 48
    · simp only [if_pos hc]
      by_cases hr : r = []
      · simp only [if_pos hr, if_neg (show ¬ r ≠ [] from fun h => h hr)]
        cases b
        · exact j2f
        · exact j2t
      · simp only [if_neg hr, if_pos (show r ≠ [] from hr)]
        exact j2t
    · simp only [if_neg hc]
      exact j2f
theorem rf_lead (l : List UInt8) : (decide (l = [48]) || lead (body l)) = !rf (body l) (neg l) := by
  cases l with
  | nil => rfl
  | cons c r =>
    by_cases hc : c = 45
    · subst hc
      have hb : body (45 :: r) = r := rfl
      rw [hb, show neg (45 :: r) = true from rfl, show decide ((45 :: r : List UInt8) = [48]) = false from by simp, Bool.false_or]
      cases r with
      | nil => rfl
      | cons d r => by_cases hd : d = 48 <;> simp [lead, rf, hd]
    · have hn : neg (c :: r) = false := by simpa [neg] using hc
      have hb : body (c :: r) = c :: r := by unfold body; rw [hn]; rfl
      rw [hb, hn]
      by_cases hd : c = 48
      · by_cases hr : r = [] <;> simp [lead, rf, hd, hr]
      · simp [lead, rf, hd]
theorem refParse_ev (s : ByteArray) (hz : s.size ≤ 900) : Ev (fun k => hopscotchref06_Parse.f k s) (pR (bl s)) := by
  have hs := bl_length s
  have fin : ∀ t : ByteArray, bl t = body (bl s) → t.size ≤ 900 → Ev (fun k => hopscotchref06_Parse.j1 k t (neg (bl s))) (pR (bl s)) := by
    intro t ht htz
    have h := refParse_j1 t (neg (bl s)) htz
    rw [ht] at h
    have : (if rf (body (bl s)) (neg (bl s)) = true then ((0, 2) : Int × Int) else if (body (bl s)).all isD = true then toldR (sg (vN 0 (body (bl s)) : Int) (neg (bl s))) else (0, 2)) = pR (bl s) := by
      unfold pR wr
      rw [rf_lead]
      cases rf (body (bl s)) (neg (bl s)) <;> cases (body (bl s)).all isD <;> rfl
    rw [← this]
    exact h
  unfold hopscotchref06_Parse.f
  rw [toList_bl]
  cases hl : bl s with
  | nil =>
    rw [hl] at fin
    simp only [if_true]
    refine Ev.step (fun k => ?_) (fin s hl hz)
    simp only [hopscotchref06_Parse.j0, Bool.false_eq_true, if_false]
    rfl
  | cons c r =>
    have hlen : s.size = r.length + 1 := by rw [← hs, hl]; rfl
    have hb := bt_at s 0 (by rw [hl]; simp)
    simp only [hl, List.getElem_cons_zero] at hb
    rw [hl] at fin
    simp only [if_neg (show ¬ (c :: r : List UInt8) = [] by simp), if_pos (show (0 : Int) < (s.size : Int) by omega)]
    rw [show (0 : Int) = ((0 : Nat) : Int) from rfl, hb]
    have hn : ((c.toNat : Int) == 45) = neg (c :: r) := by
      rw [Bool.eq_iff_iff, beq_iff_eq]
      show (c.toNat : Int) = 45 ↔ (c == 45) = true
      rw [beq_iff_eq, ← UInt8.toNat_inj]
      show _ ↔ c.toNat = 45
      omega
    rw [hn]
    by_cases h : neg (c :: r) = true
    · have := fin (s.extract 1 s.size) (by rw [bl_from, hl]; unfold body; rw [h]; rfl) (by
        rw [← bl_length, bl_from, List.length_drop]; omega)
      refine Ev.step (fun k => ?_) this
      simp only [hopscotchref06_Parse.j0]
      rw [if_pos h, if_pos (by omega)]
    · have := fin s (by rw [hl]; unfold body; rw [if_neg h]) hz
      refine Ev.step (fun k => ?_) this
      simp only [hopscotchref06_Parse.j0]
      rw [if_neg h]
def ch (d : Int) : UInt8 := UInt8.ofNat (48 + d.toNat)
def putR (l : List Int) (b : Bool) : List UInt8 := if l = [] then [48] else if b = true then 45 :: (l.map ch).reverse else (l.map ch).reverse
theorem refPut_loop (l : List Int) (b : Bool) (hl : D l) (zl : l.length ≤ 1000) : ∀ (j i : Nat) (x : ByteArray), i + j = l.length → bl x = ((l.take i).map ch).reverse →
    ∃ r, bl r = putR l b ∧ Ev (fun k => hopscotchref06_Put.l0 k x (i : Int) l b) r := by
  intro j
  induction j with
  | zero =>
    intro i x hi hx
    have hxl := bl_length x
    rw [List.take_of_length_le (by omega)] at hx
    have hxz : x.size = l.length := by rw [← hxl, hx, List.length_reverse, List.length_map]
    have step : ∀ k, hopscotchref06_Put.l0 (k + 1) x (i : Int) l b = if l = [] then some (⟨#[48]⟩ : ByteArray) else if b = true then some ((⟨#[45]⟩ : ByteArray) ++ x) else some x := by
      intro k
      simp only [hopscotchref06_Put.l0]
      rw [if_neg (by omega), toList_bl, hx]
      by_cases h : l = []
      · rw [if_pos h, if_pos (by rw [h]; rfl)]
      · rw [if_neg h, if_neg (by simpa using h)]
        by_cases hb : b = true
        · rw [if_pos hb, if_pos hb, if_pos (by omega)]
        · rw [if_neg hb, if_neg hb]
    unfold putR
    by_cases h : l = []
    · refine ⟨⟨#[48]⟩, by rw [if_pos h], Ev.step step ?_⟩
      simp only [if_pos h]; exact Ev.now _
    · by_cases hb : b = true
      · refine ⟨(⟨#[45]⟩ : ByteArray) ++ x, by rw [if_neg h, if_pos hb, bl_append, hx]; rfl, Ev.step step ?_⟩
        simp only [if_neg h, if_pos hb]; exact Ev.now _
      · refine ⟨x, by rw [if_neg h, if_neg hb, hx], Ev.step step ?_⟩
        simp only [if_neg h, if_neg hb]; exact Ev.now _
  | succ j ih =>
    intro i x hi hx
    have hlt : i < l.length := by omega
    have hd := hl.rd (i : Int)
    have hxl := bl_length x
    have hxz : x.size = i := by rw [← hxl, hx, List.length_reverse, List.length_map, List.length_take]; omega
    have hs : bl (strOfNums [wrap64 (48 + rd l (i : Int)) % 256]) = [ch (rd l (i : Int))] := by
      rw [wrap_id (by omega) (by omega)]
      show [UInt8.ofNat ((48 + rd l (i : Int)) % 256).toNat] = _
      unfold ch
      congr 2
      omega
    have hsz : (strOfNums [wrap64 (48 + rd l (i : Int)) % 256]).size = 1 := by rw [← bl_length, hs]; rfl
    obtain ⟨r, hr, hev⟩ := ih (i + 1) (strOfNums [wrap64 (48 + rd l (i : Int)) % 256] ++ x) (by omega) (by
      rw [bl_append, hs, hx, List.take_succ_eq_append_getElem hlt, List.map_append, List.reverse_append, rd_lt hlt]
      rfl)
    refine ⟨r, hr, Ev.step (fun k => ?_) hev⟩
    simp only [hopscotchref06_Put.l0]
    rw [if_pos (by omega), if_pos (by omega), Option.bind_some, if_pos (by omega), wrap_id (n := (i : Int) + 1) (by omega) (by omega)]
    rfl
theorem dec_dg (u : Nat) (h : u ≠ 0) : Lib.decDigits u = ((dg u).map ch).reverse := by
  induction u using Nat.strongRecOn with
  | _ u ih =>
    by_cases h1 : u < 10
    · rw [Lib.decDigits, dif_pos h1, dg_pos h, show u / 10 = 0 by omega, dg_zero, Nat.mod_eq_of_lt h1]
      simp [ch]
    · rw [Lib.decDigits, dif_neg h1, dg_pos h, ih _ (by omega) (by omega), List.map_cons, List.reverse_cons]
      congr 1
theorem itoa_put (a : Int) : Lib.itoa a = putR (dg a.natAbs) (decide (a < 0)) := by
  unfold Lib.itoa putR
  by_cases h0 : a = 0
  · subst h0
    rw [if_neg (by decide), if_pos (by rw [show (0 : Int).natAbs = 0 from rfl, dg_zero])]
    rw [show (0 : Int).toNat = 0 from rfl, Lib.decDigits, dif_pos (by decide)]
    rfl
  · have hn : a.natAbs ≠ 0 := by omega
    rw [if_neg (show ¬ dg a.natAbs = [] by rw [dg_pos hn]; simp)]
    by_cases h : a < 0
    · rw [if_pos h, decide_eq_true h, if_pos rfl, dec_dg _ hn]
    · rw [if_neg h, decide_eq_false h, if_neg (by decide), show a.toNat = a.natAbs by omega, dec_dg _ hn]
theorem Put_eq {a : Int} (ha : I a) : num_Put.f a = some ⟨(Lib.itoa a).toArray⟩ := by
  unfold I at ha
  unfold num_Put.f X.strconv_FormatInt.f
  rw [if_pos ⟨ha.1, ha.2, rfl⟩]
  rfl
theorem refPut_ev {a : Int} (ha : I a) : Ev (fun k => hopscotchref06_Put.f k a) ⟨(Lib.itoa a).toArray⟩ := by
  have hz : (dg a.natAbs).length ≤ 20 := dg_length_le 20 _ (by unfold I at ha; omega)
  obtain ⟨r, hr, hev⟩ := refPut_loop (dg a.natAbs) (decide (a < 0)) (dg_D _) (by omega) (dg a.natAbs).length 0 ⟨#[]⟩ (by omega) rfl
  have e : r = ⟨(Lib.itoa a).toArray⟩ := bl_inj (by rw [hr, bl_mk, itoa_put])
  rw [← e]
  exact Ev.bind (of_ev ha.1 ha.2) hev
theorem law_NumTexts (s : ByteArray) (n : Int) (hn : I n) : Ev (fun k => hopscotchlaw06_NumTexts.f k s n) true := by
  unfold hopscotchlaw06_NumTexts.f
  by_cases h : (s.size : Int) > 60
  · simp only [if_pos h]; exact works_some
  · simp only [if_neg h, Put_eq hn, Option.bind_some]
    refine Ev.bind (Parse_ev s (by omega)) (Ev.bind (refParse_ev s (by omega)) ?_)
    simp only [if_true]
    refine Ev.bind (refPut_ev hn) ?_
    simp only [if_true]
    exact works_some
end Go.Proofs.YtebekjenmoijhaaDoor.M
