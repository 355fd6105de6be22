/- A text of the claim, with what no other text of it needs taken out. -/
import Derived.Test.YtjciehecedepeaaDoorEF
import Derived.Test.YtjciehecedepeaaDoorEZ
import Derived.Test.YtjciehecedepeaaDoorPE3
import Derived.Test.YtjciehecedepeaaDoorPE4
namespace Go.Proofs.YtjciehecedepeaaDoor.E
open Go Go.RowKit Go.Proofs.YtjciehecedepeaaDoorW.PrintWords Go.Proofs.YtjciehecedepeaaDoor.U Go.Proofs.YtjciehecedepeaaDoor.PU Go.Proofs.YtjciehecedepeaaDoor.PE
set_option linter.unusedVariables false
set_option linter.unusedSimpArgs false
theorem works : hopscotchlaw03_works.f = some true := by decide +kernel
theorem dec_eq (s : ByteArray) (hz : s.size ≤ 1000000000) : X.entity_Decode.f s = some ((⟨(X.decR (bl s)).1.toArray⟩ : ByteArray), (X.decR (bl s)).2.1, (X.decR (bl s)).2.2) := by
  unfold X.entity_Decode.f
  rw [if_pos hz]
theorem refer_eq (s : ByteArray) (hz : s.size ≤ 1000000000) : X.entity_Reference.f s = some ((⟨(refR (bl s)).1.toArray⟩ : ByteArray), ((refR (bl s)).2 : Int)) := by
  unfold X.entity_Reference.f
  rw [if_pos (by omega)]
theorem law_EntityDecode (s : ByteArray) : Ev (fun k => hopscotchlaw03_EntityDecode.f k s) true := by
  by_cases h : s.size > 500
  · refine ⟨0, fun k _ => ?_⟩
    show hopscotchlaw03_EntityDecode.f k s = _
    unfold hopscotchlaw03_EntityDecode.f
    rw [if_pos (by omega), works]
    rfl
  · have hd := dec_eq s (by omega)
    have hr := refer_eq s (by omega)
    have hdE := ref_Decode_ev s (by omega)
    have hrE := ref_Reference_ev s (by omega)
    generalize ((⟨(X.decR (bl s)).1.toArray⟩ : ByteArray), (X.decR (bl s)).2.1, (X.decR (bl s)).2.2) = x at hd hdE
    generalize ((⟨(refR (bl s)).1.toArray⟩ : ByteArray), ((refR (bl s)).2 : Int)) = y at hr hrE
    unfold hopscotchlaw03_EntityDecode.f
    refine Ev.congr (f := fun k => (hopscotchref03_Decode.f k s).bind fun bt144 => (hopscotchref03_Reference.f k s).bind fun bt149 => (if x.1.toList = bt144.1.toList then (if x.2.1 = bt144.2.1 then (if x.2.2 = bt144.2.2 then (if y.1.toList = bt149.1.toList then (if y.2 = bt149.2 then ((hopscotchlaw03_works.f).bind fun t151 => (some t151)) else (some false)) else (some false)) else (some false)) else (some false)) else (some false))) (fun k => ?_) ?_
    · rw [if_neg (by omega), hd, hr]
      rfl
    · refine Ev.bind hdE ?_
      refine Ev.bind hrE ?_
      refine ⟨0, fun k _ => ?_⟩
      rw [if_pos rfl, if_pos rfl, if_pos rfl, if_pos rfl, if_pos rfl, works]
      rfl
end Go.Proofs.YtjciehecedepeaaDoor.E
