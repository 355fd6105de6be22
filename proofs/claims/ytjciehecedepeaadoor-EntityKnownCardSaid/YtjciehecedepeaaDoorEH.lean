/- A text of the claim, with what no other text of it needs taken out. -/
import Derived.Test.YtjciehecedepeaaDoorEF
import Derived.Test.YtjciehecedepeaaDoorEZ
import Derived.Test.YtjciehecedepeaaDoorPE3
import Derived.Test.YtjciehecedepeaaDoorPE4
namespace Go.Proofs.YtjciehecedepeaaDoor.E
open Go Go.RowKit Go.Proofs.YtjciehecedepeaaDoorW.PrintWords Go.Proofs.YtjciehecedepeaaDoor.U Go.Proofs.YtjciehecedepeaaDoor.PU Go.Proofs.YtjciehecedepeaaDoor.PE
set_option linter.unusedVariables false
set_option linter.unusedSimpArgs false
theorem works : hopscotchlaw03_works.f = some true := by decide +kernel
theorem byte_ne (c v : UInt8) (n : Int) (hn : (v.toNat : Int) = n) (h : c ≠ v) : ¬ (c.toNat : Int) = n := by
  intro e
  exact h (UInt8.toNat_inj.mp (by omega))
theorem ref_Encode_from (s : ByteArray) (a : Bool) (hz : s.size ≤ 1000000000) : ∀ (d i : Nat) (out : ByteArray), i + d = s.size → out.size ≤ 6 * i →
    Ev (fun k => hopscotchref03_Encode.l0 k s a out i) (out ++ ⟨(enR a ((bl s).drop i)).toArray⟩, 0) := by
  intro d
  induction d with
  | zero =>
    intro i out hi ho
    have he : (bl s).drop i = [] := List.drop_of_length_le (by rw [bl_length]; omega)
    have e : out ++ (⟨(enR a []).toArray⟩ : ByteArray) = out := by
      apply bl_inj
      rw [bl_append]
      simp [enR]
    rw [he, e]
    refine Ev.step (f := fun _ => some (out, 0)) (fun k => ?_) (Ev.now _)
    simp only [hopscotchref03_Encode.l0]
    rw [if_neg (by omega)]
  | succ d ih =>
    intro i out hi ho
    have hil : i < (bl s).length := by rw [bl_length]; omega
    obtain ⟨c, hc⟩ : ∃ c, (bl s)[i]? = some c := ⟨_, List.getElem?_eq_getElem hil⟩
    have hdr : (bl s).drop i = c :: (bl s).drop (i + 1) := by
      rw [List.drop_eq_getElem_cons hil]
      congr 1
      have := List.getElem?_eq_getElem hil
      rw [hc] at this
      exact (Option.some.inj this).symm
    have hbt := bt_at s i c hc
    have hi1 := i_next i (by omega)
    have h0i : i < s.size := by omega
    have goOn : ∀ p : ByteArray, bl p = encC a c → Ev (fun k => hopscotchref03_Encode.l0 k s a (out ++ p) ((i + 1 : Nat) : Int)) (out ++ ⟨(enR a ((bl s).drop i)).toArray⟩, 0) := by
      intro p hp
      have hps : p.size ≤ 6 := by rw [← bl_length, hp]; exact X.encC_le a c
      have := ih (i + 1) (out ++ p) (by omega) (by rw [ByteArray.size_append]; omega)
      have e : out ++ p ++ ⟨(enR a ((bl s).drop (i + 1))).toArray⟩ = out ++ ⟨(enR a ((bl s).drop i)).toArray⟩ := by
        apply bl_inj
        rw [bl_append, bl_append, bl_append, hdr, enR_cons, hp]
        simp
      rw [e] at this
      exact this
    have hroom : ∀ n : Nat, n ≤ 6 → out.size + n ≤ 9223372036854775807 := fun n hn => by omega
    clear hdr ih
    by_cases c38 : c = 38
    · subst c38
      refine Ev.step (fun k => ?_) (goOn ⟨#[38, 97, 109, 112, 59]⟩ (by cases a <;> decide))
      simp only [hopscotchref03_Encode.l0]
      rw [if_pos (by omega), if_pos (by omega), hbt, if_pos (by decide), if_pos (hroom 5 (by decide)), hi1]
    by_cases c60 : c = 60
    · subst c60
      refine Ev.step (fun k => ?_) (goOn ⟨#[38, 108, 116, 59]⟩ (by cases a <;> decide))
      simp only [hopscotchref03_Encode.l0]
      rw [if_pos (by omega), if_pos (by omega), hbt, if_neg (by decide), if_pos (by decide), if_pos (hroom 4 (by decide)), hi1]
    by_cases c62 : c = 62
    · subst c62
      refine Ev.step (fun k => ?_) (goOn ⟨#[38, 103, 116, 59]⟩ (by cases a <;> decide))
      simp only [hopscotchref03_Encode.l0]
      rw [if_pos (by omega), if_pos (by omega), hbt, if_neg (by decide), if_neg (by decide), if_pos (by decide), if_pos (hroom 4 (by decide)), hi1]
    by_cases c13 : c = 13
    · subst c13
      refine Ev.step (fun k => ?_) (goOn ⟨#[38, 35, 49, 51, 59]⟩ (by cases a <;> decide))
      simp only [hopscotchref03_Encode.l0]
      rw [if_pos (by omega), if_pos (by omega), hbt, if_neg (by decide), if_neg (by decide), if_neg (by decide), if_pos (by decide), if_pos (hroom 5 (by decide)), hi1]
    refine Ev.step (f := fun k => hopscotchref03_Encode.j1 k s a out i (c.toNat : Int) (decide (c = 34) && a)) (fun k => ?_) ?_
    · simp only [hopscotchref03_Encode.l0]
      rw [if_pos (by omega), if_pos (by omega), hbt, if_neg (byte_ne c 38 38 rfl c38), if_neg (byte_ne c 60 60 rfl c60), if_neg (byte_ne c 62 62 rfl c62), if_neg (byte_ne c 13 13 rfl c13)]
      by_cases c34 : c = 34
      · subst c34; rw [if_pos (by decide)]; simp
      · rw [if_neg (byte_ne c 34 34 rfl c34)]; simp [c34]
    by_cases h34 : c = 34 ∧ a = true
    · obtain ⟨rfl, rfl⟩ := h34
      refine Ev.step (fun k => ?_) (goOn ⟨#[38, 113, 117, 111, 116, 59]⟩ (by decide))
      simp only [hopscotchref03_Encode.j1]
      rw [if_pos (by decide), if_pos (hroom 6 (by decide)), hi1]
    refine Ev.step (f := fun k => hopscotchref03_Encode.j2 k s a out i (c.toNat : Int) (decide (c = 9) && a)) (fun k => ?_) ?_
    · simp only [hopscotchref03_Encode.j1]
      rw [if_neg (by simpa using h34)]
      by_cases c9 : c = 9
      · subst c9; rw [if_pos (by decide)]; simp
      · rw [if_neg (byte_ne c 9 9 rfl c9)]; simp [c9]
    by_cases h9 : c = 9 ∧ a = true
    · obtain ⟨rfl, rfl⟩ := h9
      refine Ev.step (fun k => ?_) (goOn ⟨#[38, 35, 57, 59]⟩ (by decide))
      simp only [hopscotchref03_Encode.j2]
      rw [if_pos (by decide), if_pos (hroom 4 (by decide)), hi1]
    by_cases h10 : c = 10 ∧ a = true
    · obtain ⟨rfl, rfl⟩ := h10
      refine Ev.step (fun k => ?_) (goOn ⟨#[38, 35, 49, 48, 59]⟩ (by decide))
      simp only [hopscotchref03_Encode.j2]
      rw [if_neg (by decide), if_pos (by decide), if_pos trivial, if_pos (hroom 5 (by decide)), hi1]
    have hself : s.extract i (i + 1) = ⟨#[c]⟩ := by
      apply bl_inj
      rw [bl_extract, Nat.add_sub_cancel_left, List.take_one, List.head?_drop, hc]
      rfl
    have hE : encC a c = [c] := by
      unfold encC
      rw [if_neg c38, if_neg c60, if_neg c62, if_neg c13, if_neg h34, if_neg h9, if_neg h10]
    refine Ev.step (fun k => ?_) (goOn ⟨#[c]⟩ hE.symm)
    have h1s : (⟨#[c]⟩ : ByteArray).size = 1 := rfl
    simp only [hopscotchref03_Encode.j2]
    rw [if_neg (by simpa using h9)]
    by_cases c10 : c = 10
    · subst c10
      have ha : ¬ a = true := fun e => h10 ⟨rfl, e⟩
      rw [if_pos (by decide), if_neg ha, if_pos (by omega), hi1, if_pos (by omega), if_pos (by omega), Int.toNat_natCast, Int.toNat_natCast, hself, if_pos (by rw [h1s]; exact hroom 1 (by decide))]
    · rw [if_neg (byte_ne c 10 10 rfl c10), if_pos (by omega), hi1, if_pos (by omega), if_pos (by omega), Int.toNat_natCast, Int.toNat_natCast, hself, if_pos (by rw [h1s]; exact hroom 1 (by decide))]
def encR (a : Bool) (l : List UInt8) : ByteArray × Int := if (validR l).2 = 0 then (⟨(enR a l).toArray⟩, 0) else (⟨#[]⟩, (validR l).2)
theorem ref_Encode_ev (s : ByteArray) (a : Bool) (hz : s.size ≤ 1000000000) : Ev (fun k => hopscotchref03_Encode.f k s a) (encR a (bl s)) := by
  unfold hopscotchref03_Encode.f encR
  refine Ev.bind (ref_Valid_ev s (by omega)) ?_
  by_cases h : (validR (bl s)).2 = 0
  · rw [if_pos h]
    have := ref_Encode_from s a hz s.size 0 ⟨#[]⟩ (by omega) (by decide)
    rw [List.drop_zero] at this
    have e : (⟨#[]⟩ : ByteArray) ++ ⟨(enR a (bl s)).toArray⟩ = ⟨(enR a (bl s)).toArray⟩ := by
      apply bl_inj
      rw [bl_append]
      rfl
    rw [e] at this
    exact Ev.congr (fun k => if_pos h) this
  · rw [if_neg h]
    exact ⟨0, fun k _ => if_neg h⟩
theorem enc_eq (s : ByteArray) (a : Bool) (hz : s.size ≤ 1000000000) : X.entity_Encode.f s a = some (encR a (bl s)) := by
  unfold X.entity_Encode.f encR
  rw [if_pos hz]
theorem dec_eq (s : ByteArray) (hz : s.size ≤ 1000000000) : X.entity_Decode.f s = some ((⟨(X.decR (bl s)).1.toArray⟩ : ByteArray), (X.decR (bl s)).2.1, (X.decR (bl s)).2.2) := by
  unfold X.entity_Decode.f
  rw [if_pos hz]
theorem refer_eq (s : ByteArray) (hz : s.size ≤ 1000000000) : X.entity_Reference.f s = some ((⟨(refR (bl s)).1.toArray⟩ : ByteArray), ((refR (bl s)).2 : Int)) := by
  unfold X.entity_Reference.f
  rw [if_pos (by omega)]
theorem law_EntityEncode (s : ByteArray) (a : Bool) : Ev (fun k => hopscotchlaw03_EntityEncode.f k s a) true := by
  by_cases h : s.size > 500
  · refine ⟨0, fun k _ => ?_⟩
    show hopscotchlaw03_EntityEncode.f k s a = _
    unfold hopscotchlaw03_EntityEncode.f
    rw [if_pos (by omega), works]
    rfl
  · refine Ev.congr (f := fun k => (hopscotchref03_Encode.f k s a).bind fun bt157 => (if (encR a (bl s)).1.toList = bt157.1.toList then (if (encR a (bl s)).2 = bt157.2 then ((hopscotchlaw03_works.f).bind fun t159 => (some t159)) else (some false)) else (some false))) (fun k => ?_) ?_
    · unfold hopscotchlaw03_EntityEncode.f
      rw [if_neg (by omega), enc_eq s a (by omega)]
      rfl
    · refine Ev.bind (ref_Encode_ev s a (by omega)) ?_
      refine ⟨0, fun k _ => ?_⟩
      rw [if_pos rfl, if_pos rfl, works]
      rfl
theorem law_EntityDecode (s : ByteArray) : Ev (fun k => hopscotchlaw03_EntityDecode.f k s) true := by
  by_cases h : s.size > 500
  · refine ⟨0, fun k _ => ?_⟩
    show hopscotchlaw03_EntityDecode.f k s = _
    unfold hopscotchlaw03_EntityDecode.f
    rw [if_pos (by omega), works]
    rfl
  · have hd := dec_eq s (by omega)
    have hr := refer_eq s (by omega)
    have hdE := ref_Decode_ev s (by omega)
    have hrE := ref_Reference_ev s (by omega)
    generalize ((⟨(X.decR (bl s)).1.toArray⟩ : ByteArray), (X.decR (bl s)).2.1, (X.decR (bl s)).2.2) = x at hd hdE
    generalize ((⟨(refR (bl s)).1.toArray⟩ : ByteArray), ((refR (bl s)).2 : Int)) = y at hr hrE
    unfold hopscotchlaw03_EntityDecode.f
    refine Ev.congr (f := fun k => (hopscotchref03_Decode.f k s).bind fun bt144 => (hopscotchref03_Reference.f k s).bind fun bt149 => (if x.1.toList = bt144.1.toList then (if x.2.1 = bt144.2.1 then (if x.2.2 = bt144.2.2 then (if y.1.toList = bt149.1.toList then (if y.2 = bt149.2 then ((hopscotchlaw03_works.f).bind fun t151 => (some t151)) else (some false)) else (some false)) else (some false)) else (some false)) else (some false))) (fun k => ?_) ?_
    · rw [if_neg (by omega), hd, hr]
      rfl
    · refine Ev.bind hdE ?_
      refine Ev.bind hrE ?_
      refine ⟨0, fun k _ => ?_⟩
      rw [if_pos rfl, if_pos rfl, if_pos rfl, if_pos rfl, if_pos rfl, works]
      rfl
end Go.Proofs.YtjciehecedepeaaDoor.E
