/- A text of the claim, with what no other text of it needs taken out. -/
import Derived.Test.YtpknhgejnfmijaaDoorShelf
import Derived.Test.YtpknhgejnfmijaaDoorWMore
import Derived.WalkKit
import Derived.KernelRfl
import Derived.OwnWalk
import Derived.RegionTactic
import Derived.ChangeAlike
import Derived.Lib.Hide
import Derived.Laws.Strings3
import Derived.Outline
import Derived.IntWalk
import Derived.Deep.QuietTactic
import Derived.BigQuiet
namespace Go.Proofs.YtpknhgejnfmijaaDoor.X
open Go.RowKit Go.Proofs.YtpknhgejnfmijaaDoorW.PrintWords
set_option linter.unusedVariables false
set_option linter.unusedSimpArgs false
def strings_Cut.f (a0 a1 : ByteArray) : Option (ByteArray × ByteArray × Bool) :=
  match a1.data.toList with
  | [c] => if 140737488351232 < a0.size then none else if Lib.indexByte a0.data.toList c < 0 then some (a0, ⟨#[]⟩, false) else some (a0.extract 0 (Lib.indexByte a0.data.toList c).toNat, a0.extract ((Lib.indexByte a0.data.toList c).toNat + 1) a0.size, true)
  | _ => none
theorem indexByte_lt (l : List UInt8) (c : UInt8) : Lib.indexByte l c < l.length := by
  induction l with
  | nil => simp [Lib.indexByte]
  | cons b l ih =>
    unfold Lib.indexByte
    split
    · simp
    · split
      · simp; omega
      · simp; omega
theorem one_byte (a : ByteArray) (c : UInt8) (h : a.data.toList = [c]) : a = ⟨#[c]⟩ := by
  obtain ⟨⟨l⟩⟩ := a
  simp at h
  subst h
  rfl
set_option maxHeartbeats 2000000 in
set_option maxRecDepth 100000 in
theorem slite_Cut (a0 : ByteArray) (c : UInt8) (w : World) (hz : a0.size ≤ 140737488351232) (i : Int) (hi : Lib.indexByte a0.data.toList c = i) :
    Calls Tryd.prog 28 #[.string a0, .string ⟨#[c]⟩] w fun e w' => e = .returned (.tuple #[.string (if i < 0 then a0 else a0.extract 0 i.toNat), .string (if i < 0 then ⟨#[]⟩ else a0.extract (i.toNat + 1) a0.size), .bool (decide (¬ i < 0))]) ∧ Drawn0 w w' := by
  have h1 := indexByte_lt a0.data.toList c
  have h2 := Lib.indexByte_ge a0.data.toList c
  rw [hi] at h1 h2
  have HI := Lib.hid (Tryd.stringslite_Index_one a0 c w)
  have HE := Lib.hid hi
  have hs : (i : Int) < (a0.size : Int) := by simpa using h1
  clear h1 hi
  by_cases h : i < 0
  · obtain rfl : i = -1 := by omega
    go_enter Tryd.func28, Tryd.ntmps28
    go_wp2_with (go_at_call 44; refine HI.out.mono ?_; rintro e w' ⟨rfl, rfl⟩; rw [HE.out])
    go_ret3
    exact ⟨rfl, Drawn0.refl _⟩
  · obtain ⟨n, rfl⟩ : ∃ n : Nat, i = n := ⟨i.toNat, by omega⟩
    have c1 : (0 : Int) ≤ (n : Int) := by omega
    have c2 : (n : Int) ≤ a0.size := by omega
    have c3 : (0 : Int) ≤ (n : Int) + 1 := by omega
    have c4 : (n : Int) + 1 ≤ a0.size := by omega
    have hw : IntKind.i64.wrap ((n : Int) + 1) = (n : Int) + 1 := IntWalk.i64_in _ (by omega)
    have hn : ((n : Int) + 1).toNat = n + 1 := by omega
    go_enter Tryd.func28, Tryd.ntmps28
    go_wp2_with (go_at_call 44; refine HI.out.mono ?_; rintro e w' ⟨rfl, rfl⟩; rw [HE.out])
    go_region
    all_goals
      go_wp2
      go_ret3
      refine ⟨?_, ⟨1, rfl⟩⟩
      simp [h]
theorem strings_Cut.calls (a0 a1 : ByteArray) (r1 r2 : ByteArray) (r3 : Bool) (w : World) (h : strings_Cut.f a0 a1 = some (r1, r2, r3)) :
    Calls Tryd.prog 13 #[.string a0, .string a1] w fun e w' => e = .returned (.tuple #[.string r1, .string r2, .bool r3]) ∧ Drawn0 w w' := by
  unfold strings_Cut.f at h
  split at h
  · rename_i c hc
    obtain rfl := one_byte a1 c hc
    by_cases hz : 140737488351232 < a0.size
    · rw [if_pos hz] at h
      cases h
    rw [if_neg hz] at h
    have HC := Lib.hid (slite_Cut a0 c w (by omega) _ rfl)
    have HR : Hid ((if Lib.indexByte a0.data.toList c < 0 then a0 else a0.extract 0 (Lib.indexByte a0.data.toList c).toNat) = r1 ∧ (if Lib.indexByte a0.data.toList c < 0 then ⟨#[]⟩ else a0.extract ((Lib.indexByte a0.data.toList c).toNat + 1) a0.size) = r2 ∧ decide (¬ Lib.indexByte a0.data.toList c < 0) = r3) := by
      show _ ∧ _ ∧ _
      split at h <;> rename_i hh <;> simp only [Option.some.injEq, Prod.mk.injEq] at h <;> obtain ⟨h1, h2, h3⟩ := h
      · rw [if_pos hh, if_pos hh, ← h3]
        exact ⟨h1, h2, by simp [hh]⟩
      · rw [if_neg hh, if_neg hh, ← h3]
        exact ⟨h1, h2, by simp [hh]⟩
    clear h hc
    generalize Lib.indexByte a0.data.toList c = i at HC HR
    obtain ⟨h1, h2, h3⟩ := HR.out
    have HC2 : Hid (Calls Tryd.prog 28 #[.string a0, .string ⟨#[c]⟩] w fun e w' => e = .returned (.tuple #[.string r1, .string r2, .bool r3]) ∧ Drawn0 w w') := by
      show Calls Tryd.prog 28 #[.string a0, .string ⟨#[c]⟩] w fun e w' => e = .returned (.tuple #[.string r1, .string r2, .bool r3]) ∧ Drawn0 w w'
      rw [← h1, ← h2, ← h3]
      exact HC.out
    clear h1 h2 h3 HR HC
    go_enter Tryd.func13, Tryd.ntmps13
    go_wp2_with (go_at_call 28; refine HC2.out.mono ?_; rintro e w' ⟨rfl, ⟨n, rfl⟩⟩)
    go_ret3
    exact ⟨rfl, ⟨n, rfl⟩⟩
  · cases h
end Go.Proofs.YtpknhgejnfmijaaDoor.X
