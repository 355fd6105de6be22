/- A text of the claim, with what no other text of it needs taken out. -/
import Derived.Test.YtjciehecedepeaaDoorED
import Derived.Test.YtjciehecedepeaaDoorEV
namespace Go.Proofs.YtjciehecedepeaaDoor.E
open Go Go.RowKit Go.Proofs.YtjciehecedepeaaDoorW.PrintWords Go.Proofs.YtjciehecedepeaaDoor.U Go.Proofs.YtjciehecedepeaaDoor.PU Go.Proofs.YtjciehecedepeaaDoor.PE
set_option linter.unusedVariables false
set_option linter.unusedSimpArgs false
def nextI (k : Nat) (s out : ByteArray) (pos : Nat) : Option (ByteArray × Int × Int) :=
  (hopscotchref01_Next.f k (s.extract pos s.size)).bind fun bt137 => (if bt137.2.2 = 0 then (if (pos : Int) ≤ (wrap64 ((pos : Int) + bt137.2.1)) then (if (wrap64 ((pos : Int) + bt137.2.1)) ≤ (s.size : Int) then (if out.size + (s.extract pos ((wrap64 ((pos : Int) + bt137.2.1)) : Int).toNat).size ≤ 9223372036854775807 then (hopscotchref03_Decode.l0 k s (out ++ (s.extract pos ((wrap64 ((pos : Int) + bt137.2.1)) : Int).toNat)) (wrap64 ((pos : Int) + bt137.2.1))) else (none)) else (none)) else (none)) else (some ((⟨#[]⟩ : ByteArray), (pos : Int), bt137.2.2)))
def bodyI (k : Nat) (s out : ByteArray) (pos : Nat) : Option (ByteArray × Int × Int) :=
  (hopscotchref03_Reference.f k (s.extract pos s.size)).bind fun bt135 => (if bt135.2 > 0 then (if out.size + bt135.1.size ≤ 9223372036854775807 then (hopscotchref03_Decode.l0 k s (out ++ bt135.1) (wrap64 ((pos : Int) + bt135.2))) else (none)) else (if (bt s (pos : Int)) = 38 then (some ((⟨#[]⟩ : ByteArray), (pos : Int), 30)) else nextI k s out pos))
theorem dec_body (k : Nat) (s out : ByteArray) (pos : Nat) (h : pos < s.size) : hopscotchref03_Decode.l0 (k + 1) s out pos = bodyI k s out pos := by
  simp only [hopscotchref03_Decode.l0]
  rw [if_pos (by omega), if_pos (by omega), if_pos (by omega), Int.toNat_natCast]
  rfl
theorem dec_stop (k : Nat) (s out : ByteArray) (pos : Nat) (h : ¬ pos < s.size) : hopscotchref03_Decode.l0 (k + 1) s out pos = some (out, 0, 0) := by
  simp only [hopscotchref03_Decode.l0]
  rw [if_neg (by omega)]
theorem pos_add (pos n : Nat) (h : pos + n ≤ 1000000000) : wrap64 ((pos : Int) + (n : Int)) = ((pos + n : Nat) : Int) := by
  rw [wrap_id (by omega) (by omega)]
  push_cast
  rfl
theorem size_mk (l : List UInt8) : (⟨l.toArray⟩ : ByteArray).size = l.length := by rw [← bl_length]
variable {s out : ByteArray} {pos : Nat} {rest : List UInt8} {r : ByteArray × Int × Int}
theorem body_ref (hz : s.size ≤ 1000000000) (hp : pos ≤ s.size) (ho : out.size ≤ 4000000000) (hrest : rest = (bl s).drop pos) (hr : (refR rest).2 ≠ 0)
    (h : Ev (fun k => hopscotchref03_Decode.l0 k s (out ++ ⟨(refR rest).1.toArray⟩) ((pos + (refR rest).2 : Nat) : Int)) r) : Ev (fun k => bodyI k s out pos) r := by
  have hbl : bl (s.extract pos s.size) = rest := by rw [bl_from, hrest]
  have hrl : rest.length = s.size - pos := by rw [hrest, List.length_drop, bl_length]
  have hxz : (s.extract pos s.size).size ≤ 140737488351232 := by rw [← bl_length, hbl, hrl]; omega
  have h1 := refR_le rest
  have h4 := X.refR_out_le rest
  have hE := ref_Reference_ev _ hxz
  rw [hbl] at hE
  unfold bodyI
  refine Ev.bind hE ?_
  refine Ev.congr (fun k => ?_) h
  simp only
  rw [if_pos (by omega), if_pos (by have := size_mk (refR rest).1; omega), pos_add pos _ (by omega)]
theorem body_other (hz : s.size ≤ 1000000000) (hp : pos ≤ s.size) (hrest : rest = (bl s).drop pos) (hr : (refR rest).2 = 0)
    (h : Ev (fun k => if (bt s (pos : Int)) = 38 then (some ((⟨#[]⟩ : ByteArray), (pos : Int), 30)) else nextI k s out pos) r) : Ev (fun k => bodyI k s out pos) r := by
  have hbl : bl (s.extract pos s.size) = rest := by rw [bl_from, hrest]
  have hrl : rest.length = s.size - pos := by rw [hrest, List.length_drop, bl_length]
  have hxz : (s.extract pos s.size).size ≤ 140737488351232 := by rw [← bl_length, hbl, hrl]; omega
  have hE := ref_Reference_ev _ hxz
  rw [hbl, hr] at hE
  unfold bodyI
  refine Ev.bind hE ?_
  refine Ev.congr (fun k => ?_) h
  exact if_neg (by show ¬ ((0 : Nat) : Int) > 0; omega)
theorem next_bad (hz : s.size ≤ 1000000000) (hp : pos ≤ s.size) (hrest : rest = (bl s).drop pos) (hne : rest ≠ []) (hx : (nx rest).2 = 0) : Ev (fun k => nextI k s out pos) ((⟨#[]⟩ : ByteArray), (pos : Int), 10) := by
  have hbl : bl (s.extract pos s.size) = rest := by rw [bl_from, hrest]
  have hrl : rest.length = s.size - pos := by rw [hrest, List.length_drop, bl_length]
  have hxz : (s.extract pos s.size).size ≤ 140737488351232 := by rw [← bl_length, hbl, hrl]; omega
  have hE := ref_Next_ev _ hxz
  rw [hbl, nextR_err rest hne hx] at hE
  unfold nextI
  refine Ev.bind hE ?_
  exact ⟨0, fun k _ => if_neg (by decide)⟩
theorem next_good (hz : s.size ≤ 1000000000) (hp : pos ≤ s.size) (ho : out.size ≤ 4000000000) (hrest : rest = (bl s).drop pos) (hx : (nx rest).2 ≠ 0)
    (h : Ev (fun k => hopscotchref03_Decode.l0 k s (out ++ ⟨(rest.take (nx rest).2).toArray⟩) ((pos + (nx rest).2 : Nat) : Int)) r) : Ev (fun k => nextI k s out pos) r := by
  have hbl : bl (s.extract pos s.size) = rest := by rw [bl_from, hrest]
  have hrl : rest.length = s.size - pos := by rw [hrest, List.length_drop, bl_length]
  have hxz : (s.extract pos s.size).size ≤ 140737488351232 := by rw [← bl_length, hbl, hrl]; omega
  obtain ⟨_, _, _, _, _, h6, h7, h8, _⟩ := nx_good rest hx
  have hE := ref_Next_ev _ hxz
  rw [hbl, nextR_ok rest hx] at hE
  have hex : s.extract pos (pos + (nx rest).2) = ⟨(rest.take (nx rest).2).toArray⟩ := by
    apply bl_inj
    rw [bl_extract, ← hrest, Nat.add_sub_cancel_left]
  unfold nextI
  refine Ev.bind hE ?_
  refine Ev.congr (fun k => ?_) h
  simp only
  rw [if_pos trivial, pos_add pos _ (by omega), if_pos (by omega), if_pos (by omega), Int.toNat_natCast, hex, if_pos (by have := size_mk (rest.take (nx rest).2); rw [List.length_take] at this; omega)]
def told (s out : ByteArray) (pos : Nat) (rest : List UInt8) : ByteArray × Int × Int :=
  if (D rest).2.2 = 0 then (out ++ ⟨(D rest).1.toArray⟩, 0, 0) else ((⟨#[]⟩ : ByteArray), ((pos + (D rest).2.1 : Nat) : Int), ((D rest).2.2 : Int))
theorem told_go (s out : ByteArray) (pos : Nat) (hne : rest ≠ []) (o : List UInt8) (n : Nat) (hs : stepR rest = (o, n, 0)) : told s out pos rest = told s (out ++ ⟨o.toArray⟩) (pos + n) (rest.drop n) := by
  unfold told
  rw [D_go rest hne (by rw [hs]), hs]
  simp only
  have ea : out ++ (⟨o.toArray⟩ : ByteArray) ++ ⟨(D (rest.drop n)).1.toArray⟩ = out ++ ⟨(o ++ (D (rest.drop n)).1).toArray⟩ := by
    apply bl_inj
    rw [bl_append, bl_append, bl_append]
    simp
  rw [ea, Nat.add_assoc]
theorem told_bad (s out : ByteArray) (pos : Nat) (hne : rest ≠ []) (e : Nat) (he : e ≠ 0) (hs : (stepR rest).2.2 = e) : told s out pos rest = ((⟨#[]⟩ : ByteArray), (pos : Int), (e : Int)) := by
  unfold told
  rw [D_bad rest hne (by rw [hs]; exact he), hs, if_neg he]
  rfl
theorem ref_Decode_from (s : ByteArray) (hz : s.size ≤ 1000000000) : ∀ (d pos : Nat) (out : ByteArray), pos + d = s.size → out.size ≤ 4 * pos →
    Ev (fun k => hopscotchref03_Decode.l0 k s out pos) (told s out pos ((bl s).drop pos)) := by
  intro d
  induction d using Nat.strongRecOn with
  | _ d ih =>
    intro pos out hd ho
    by_cases h0 : d = 0
    · have he : (bl s).drop pos = [] := List.drop_of_length_le (by rw [bl_length]; omega)
      have et : told s out pos [] = (out, 0, 0) := by
        unfold told
        rw [D_nil, if_pos rfl]
        have e : out ++ (⟨([] : List UInt8).toArray⟩ : ByteArray) = out := by
          apply bl_inj
          rw [bl_append]
          simp
        rw [e]
      rw [he, et]
      exact Ev.step (f := fun _ => some (out, 0, 0)) (fun k => dec_stop k s out pos (by omega)) (Ev.now _)
    · obtain ⟨rest, hrest⟩ : ∃ rest, rest = (bl s).drop pos := ⟨_, rfl⟩
      have hrl : rest.length = s.size - pos := by rw [hrest, List.length_drop, bl_length]
      have hne : rest ≠ [] := by intro e; rw [e] at hrl; simp at hrl; omega
      have hle := stepR_le rest
      have hol := X.stepR_out_le rest
      have hdrop : ∀ n, rest.drop n = (bl s).drop (pos + n) := fun n => by rw [hrest, List.drop_drop]
      have goOn : ∀ (o : List UInt8) (n : Nat), stepR rest = (o, n, 0) → Ev (fun k => hopscotchref03_Decode.l0 k s (out ++ ⟨o.toArray⟩) ((pos + n : Nat) : Int)) (told s out pos rest) := by
        intro o n hs
        have hp := stepR_pos rest (by rw [hs])
        rw [hs] at hle hol hp
        simp only at hle hol hp
        rw [told_go s out pos hne o n hs, hdrop]
        exact ih (d - n) (by omega) (pos + n) (out ++ ⟨o.toArray⟩) (by omega) (by have := size_mk o; rw [ByteArray.size_append]; omega)
      rw [← hrest]
      refine Ev.step (fun k => dec_body k s out pos (by omega)) ?_
      by_cases hr : (refR rest).2 = 0
      · refine body_other hz (by omega) hrest hr ?_
        obtain ⟨c, rt, hc⟩ : ∃ c rt, rest = c :: rt := by
          cases rest with
          | nil => exact absurd rfl hne
          | cons c rt => exact ⟨c, rt, rfl⟩
        have hbt := bt_at s pos c (by
          have : ((bl s).drop pos)[0]? = some c := by rw [← hrest, hc]; rfl
          rwa [List.getElem?_drop, Nat.add_zero] at this)
        rw [hbt]
        by_cases h38 : c = 38
        · subst h38
          rw [told_bad s out pos hne 30 (by decide) (by unfold stepR; rw [if_neg (by rw [hr]; decide), if_pos (by rw [hc]; rfl)])]
          exact ⟨0, fun k _ => if_pos rfl⟩
        · have hh : rest.head? ≠ some 38 := by rw [hc]; intro e; exact h38 (by simpa using e)
          have hst : stepR rest = if (nx rest).2 = 0 then ([], 0, 10) else (rest.take (nx rest).2, (nx rest).2, 0) := by
            unfold stepR
            rw [if_neg (by rw [hr]; decide), if_neg hh]
          refine Ev.congr (f := fun k => nextI k s out pos) (fun k => if_neg (by intro e; exact h38 (UInt8.toNat_inj.mp (by have : (38 : UInt8).toNat = 38 := rfl; omega)))) ?_
          by_cases hx0 : (nx rest).2 = 0
          · rw [if_pos hx0] at hst
            rw [told_bad s out pos hne 10 (by decide) (by rw [hst])]
            exact next_bad hz (by omega) hrest hne hx0
          · rw [if_neg hx0] at hst
            exact next_good hz (by omega) (by omega) hrest hx0 (goOn _ _ hst)
      · have hs : stepR rest = ((refR rest).1, (refR rest).2, 0) := by unfold stepR; rw [if_pos hr]
        exact body_ref hz (by omega) (by omega) hrest hr (goOn _ _ hs)
theorem ref_Decode_ev (s : ByteArray) (hz : s.size ≤ 1000000000) : Ev (fun k => hopscotchref03_Decode.f k s) ((⟨(X.decR (bl s)).1.toArray⟩ : ByteArray), (X.decR (bl s)).2.1, (X.decR (bl s)).2.2) := by
  have h := ref_Decode_from s hz s.size 0 ⟨#[]⟩ (by omega) (by decide)
  rw [List.drop_zero] at h
  have e : told s ⟨#[]⟩ 0 (bl s) = ((⟨(X.decR (bl s)).1.toArray⟩ : ByteArray), (X.decR (bl s)).2.1, (X.decR (bl s)).2.2) := by
    unfold told X.decR
    by_cases h0 : (D (bl s)).2.2 = 0
    · rw [if_pos h0, if_pos h0]
      have e : (⟨#[]⟩ : ByteArray) ++ ⟨(D (bl s)).1.toArray⟩ = ⟨(D (bl s)).1.toArray⟩ := by
        apply bl_inj
        rw [bl_append]
        rfl
      rw [e]
    · rw [if_neg h0, if_neg h0, Nat.zero_add]
  rw [e] at h
  exact h
end Go.Proofs.YtjciehecedepeaaDoor.E
