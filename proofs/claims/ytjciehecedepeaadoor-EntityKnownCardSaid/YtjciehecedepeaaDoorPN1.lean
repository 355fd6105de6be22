/- A text of the claim, with what no other text of it needs taken out. -/
import Derived.Test.YtjciehecedepeaaDoorPN0
namespace Go.Proofs.YtjciehecedepeaaDoor.PN
open Go.RowKit Go.Proofs.YtjciehecedepeaaDoorW.PrintWords Go.Proofs.YtjciehecedepeaaDoorW.PrintLast Go.Proofs.YtjciehecedepeaaDoorW.PrintMore
attribute [local go_sem] max2_int min2_int max_two min_two max_three min_three max_four min_four
set_option linter.unusedVariables false
set_option linter.unusedSimpArgs false
mutual
def hopscotchlaw03_EntityKnown.l0 : Nat → Int → Option (Bool)
  | 0, _ => none
  | k + 1, x1 => if x1 < 256 then ((some (([(x1) % 256] : List Int) : List Int)).bind fun y101 => (if 1 + (strOfNums y101).size ≤ 9223372036854775807 then ((Go.Proofs.YtjciehecedepeaaDoor.X.EntityEncode.f ((⟨#[97]⟩ : ByteArray) ++ (strOfNums y101)) ((Int.tmod x1 2) == 0)).bind fun t104 => (if t104 = true then ((Go.Proofs.YtjciehecedepeaaDoor.X.EntityEncode.f (strOfNums y101) ((Int.tmod x1 2) == 1)).bind fun t105 => (if t105 = true then (if ((⟨#[38]⟩ : ByteArray) ++ (strOfNums y101)).size + 2 ≤ 9223372036854775807 then ((Go.Proofs.YtjciehecedepeaaDoor.X.EntityDecode.f (((⟨#[38]⟩ : ByteArray) ++ (strOfNums y101)) ++ (⟨#[116, 59]⟩ : ByteArray))).bind fun t106 => (if t106 = true then (if 2 + (strOfNums y101).size ≤ 9223372036854775807 then (if ((⟨#[38, 35]⟩ : ByteArray) ++ (strOfNums y101)).size + 1 ≤ 9223372036854775807 then ((Go.Proofs.YtjciehecedepeaaDoor.X.EntityDecode.f (((⟨#[38, 35]⟩ : ByteArray) ++ (strOfNums y101)) ++ (⟨#[59]⟩ : ByteArray))).bind fun t107 => (if t107 = true then (if 4 + (strOfNums y101).size ≤ 9223372036854775807 then (if ((⟨#[38, 35, 120, 52]⟩ : ByteArray) ++ (strOfNums y101)).size + 1 ≤ 9223372036854775807 then ((Go.Proofs.YtjciehecedepeaaDoor.X.EntityDecode.f (((⟨#[38, 35, 120, 52]⟩ : ByteArray) ++ (strOfNums y101)) ++ (⟨#[59]⟩ : ByteArray))).bind fun t108 => (if t108 = true then (if 3 + (strOfNums y101).size ≤ 9223372036854775807 then (if ((⟨#[38, 35, 54]⟩ : ByteArray) ++ (strOfNums y101)).size + 2 ≤ 9223372036854775807 then ((Go.Proofs.YtjciehecedepeaaDoor.X.EntityDecode.f (((⟨#[38, 35, 54]⟩ : ByteArray) ++ (strOfNums y101)) ++ (⟨#[53, 59]⟩ : ByteArray))).bind fun t109 => (if t109 = true then ((Go.Proofs.YtjciehecedepeaaDoor.X.EntityDecode.f ((⟨#[38, 97, 109, 112]⟩ : ByteArray) ++ (strOfNums y101))).bind fun t110 => (if t110 = true then (if (strOfNums y101).size + 1 ≤ 9223372036854775807 then (if ((strOfNums y101) ++ (⟨#[38]⟩ : ByteArray)).size + (strOfNums y101).size ≤ 9223372036854775807 then ((Go.Proofs.YtjciehecedepeaaDoor.X.EntityBack.f (((strOfNums y101) ++ (⟨#[38]⟩ : ByteArray)) ++ (strOfNums y101)) true).bind fun t111 => (if t111 = true then (hopscotchlaw03_EntityKnown.l0 k (wrap64 (x1 + 1))) else (some false))) else (none)) else (none)) else (some false))) else (some false))) else (none)) else (none)) else (some false))) else (none)) else (none)) else (some false))) else (none)) else (none)) else (some false))) else (none)) else (some false))) else (some false))) else (none))) else ((some (([(⟨#[38, 35, 48, 48, 48, 48, 48, 54, 53, 59]⟩ : ByteArray), (⟨#[38, 35, 48, 48, 48, 48, 48, 48, 54, 53, 59]⟩ : ByteArray), (⟨#[38, 35, 120, 48, 48, 48, 52, 49, 59]⟩ : ByteArray), (⟨#[38, 35, 120, 48, 48, 48, 48, 52, 49, 59]⟩ : ByteArray), (⟨#[38, 35, 120, 48, 48, 48, 48, 48, 52, 49, 59]⟩ : ByteArray), (⟨#[38, 35, 49, 49, 49, 52, 49, 49, 49, 59]⟩ : ByteArray), (⟨#[38, 35, 49, 49, 49, 52, 49, 49, 50, 59]⟩ : ByteArray), (⟨#[38, 35, 120, 49, 48, 70, 70, 70, 70, 59]⟩ : ByteArray), (⟨#[38, 35, 120, 49, 49, 48, 48, 48, 48, 59]⟩ : ByteArray), (⟨#[38, 35, 120, 100, 56, 48, 48, 59]⟩ : ByteArray), (⟨#[38, 35, 59]⟩ : ByteArray), (⟨#[38, 35, 120, 59]⟩ : ByteArray), (⟨#[38, 59]⟩ : ByteArray), (⟨#[38, 35, 43, 53, 59]⟩ : ByteArray), (⟨#[38, 35, 43, 54, 53, 59]⟩ : ByteArray), (⟨#[38, 35, 120, 43, 52, 49, 59]⟩ : ByteArray), (⟨#[38, 35, 120, 95, 49, 59]⟩ : ByteArray), (⟨#[38, 35, 49, 95, 48, 59]⟩ : ByteArray), (⟨#[38, 65, 77, 80, 59]⟩ : ByteArray), (⟨#[38, 97, 109, 112]⟩ : ByteArray), (⟨#[38, 35, 54, 53]⟩ : ByteArray), (⟨#[38, 97, 112, 111, 115, 59, 38, 113, 117, 111, 116, 59, 38, 103, 116, 59]⟩ : ByteArray), (⟨#[38, 38, 108, 116, 59]⟩ : ByteArray), (⟨#[]⟩ : ByteArray), (⟨#[97, 59, 98, 38, 99]⟩ : ByteArray), (⟨#[38, 35, 88, 52, 49, 59]⟩ : ByteArray), (⟨#[38, 32, 108, 116, 59]⟩ : ByteArray)] : List ByteArray) : List ByteArray)).bind fun y112 => (hopscotchlaw03_EntityKnown.l1 k y112 (y112.length : Int) 0))
def hopscotchlaw03_EntityKnown.l1 : Nat → List ByteArray → Int → Int → Option (Bool)
  | 0, _, _, _ => none
  | k + 1, x70, x71, x72 => if x72 < x71 then (if 0 ≤ x72 then (if x72 < (x70.length : Int) then ((Go.Proofs.YtjciehecedepeaaDoor.X.EntityDecode.f (rdOf ByteArray.empty x70 x72)).bind fun t117 => (if t117 = true then (if (rdOf ByteArray.empty x70 x72).size + 2 ≤ 9223372036854775807 then ((Go.Proofs.YtjciehecedepeaaDoor.X.EntityDecode.f ((rdOf ByteArray.empty x70 x72) ++ (⟨#[120, 59]⟩ : ByteArray))).bind fun t118 => (if t118 = true then ((Go.Proofs.YtjciehecedepeaaDoor.X.EntityBack.f (rdOf ByteArray.empty x70 x72) true).bind fun t119 => (if t119 = true then ((Go.Proofs.YtjciehecedepeaaDoor.X.EntityBack.f (rdOf ByteArray.empty x70 x72) false).bind fun t120 => (if t120 = true then ((Go.Proofs.YtjciehecedepeaaDoor.X.EntityPieces.f (rdOf ByteArray.empty x70 x72) (rdOf ByteArray.empty x70 x72) true).bind fun t121 => (if t121 = true then ((Go.Proofs.YtjciehecedepeaaDoor.X.EntityPieces.f (⟨#[97]⟩ : ByteArray) (rdOf ByteArray.empty x70 x72) false).bind fun t122 => (if t122 = true then (hopscotchlaw03_EntityKnown.l1 k x70 x71 (wrap64 (x72 + 1))) else (some false))) else (some false))) else (some false))) else (some false))) else (some false))) else (none)) else (some false))) else (none)) else (none)) else ((Go.Proofs.YtjciehecedepeaaDoor.PE.hopscotchlaw03_works.f).bind fun t115 => (some t115))
end
def hopscotchlaw03_EntityKnown.f (k : Nat)  : Option (Bool) := hopscotchlaw03_EntityKnown.l0 k 0
set_option maxHeartbeats 8000000 in
set_option maxRecDepth 100000 in
theorem hopscotchlaw03_EntityKnown.calls (k : Nat)  (r : Bool) (w : World) (hG : Glob w) (h : hopscotchlaw03_EntityKnown.f k  = some r) :
    Calls Tryd.prog 7 #[] w fun e w' => e = .returned (.bool r) ∧ Below w.heap.size w w' := by
  have HB := Aside0.mk (Below.refl w.heap.size w)
  have H : (hopscotchlaw03_EntityKnown.l0 k 0) = some r := h
  clear h
  have H' := Aside0.mk H
  clear H
  go_enter Tryd.func7, Tryd.ntmps7
  go_wp2
  go_loopg [1] k (fun kq v1 w' => ∃ (x1_1 : Int), v1 = .int .i64 x1_1 ∧ Aside0 (hopscotchlaw03_EntityKnown.l0 kq x1_1 = some r) ∧ Aside0 (kq ≤ k) ∧ Aside0 (Below w.heap.size w w'))
  case atStart => exact ⟨(0), (by first | rfl | (simp; done) | (simp [*]; done) | (simp [bne, show ∀ l_ : List UInt8, (l_ == []) = l_.isEmpty from fun l_ => by cases l_ <;> rfl]; done)), H', ⟨Nat.le_refl _⟩, ⟨by repeat (first | (with_reducible first | exact HB.out | apply below_alloc | apply pw_below_drewN | apply below_drew1) | exact HB.out)⟩⟩
  case round =>
    clear H'
    obtain ⟨x1_1, rfl, HA, HK1, HB⟩ := hrel
    cases gk with
    | zero => exact absurd HA.out (by simp [hopscotchlaw03_EntityKnown.l0])
    | succ k1 =>
      have H := HA.out
      clear HA
      simp only [hopscotchlaw03_EntityKnown.l0] at H
      by_cases c1 : x1_1 < 256
      · rw [if_pos c1] at H
        have c1b0 : decide (x1_1 < 256) = true := decide_eq_true c1
        clear c1
        obtain ⟨y101, hy101⟩ : ∃ y_ : List Int, y_ = (([(x1_1) % 256] : List Int)) := ⟨_, rfl⟩
        replace H : (if 1 + (strOfNums y101).size ≤ 9223372036854775807 then ((Go.Proofs.YtjciehecedepeaaDoor.X.EntityEncode.f ((⟨#[97]⟩ : ByteArray) ++ (strOfNums y101)) ((Int.tmod x1_1 2) == 0)).bind fun t104 => (if t104 = true then ((Go.Proofs.YtjciehecedepeaaDoor.X.EntityEncode.f (strOfNums y101) ((Int.tmod x1_1 2) == 1)).bind fun t105 => (if t105 = true then (if ((⟨#[38]⟩ : ByteArray) ++ (strOfNums y101)).size + 2 ≤ 9223372036854775807 then ((Go.Proofs.YtjciehecedepeaaDoor.X.EntityDecode.f (((⟨#[38]⟩ : ByteArray) ++ (strOfNums y101)) ++ (⟨#[116, 59]⟩ : ByteArray))).bind fun t106 => (if t106 = true then (if 2 + (strOfNums y101).size ≤ 9223372036854775807 then (if ((⟨#[38, 35]⟩ : ByteArray) ++ (strOfNums y101)).size + 1 ≤ 9223372036854775807 then ((Go.Proofs.YtjciehecedepeaaDoor.X.EntityDecode.f (((⟨#[38, 35]⟩ : ByteArray) ++ (strOfNums y101)) ++ (⟨#[59]⟩ : ByteArray))).bind fun t107 => (if t107 = true then (if 4 + (strOfNums y101).size ≤ 9223372036854775807 then (if ((⟨#[38, 35, 120, 52]⟩ : ByteArray) ++ (strOfNums y101)).size + 1 ≤ 9223372036854775807 then ((Go.Proofs.YtjciehecedepeaaDoor.X.EntityDecode.f (((⟨#[38, 35, 120, 52]⟩ : ByteArray) ++ (strOfNums y101)) ++ (⟨#[59]⟩ : ByteArray))).bind fun t108 => (if t108 = true then (if 3 + (strOfNums y101).size ≤ 9223372036854775807 then (if ((⟨#[38, 35, 54]⟩ : ByteArray) ++ (strOfNums y101)).size + 2 ≤ 9223372036854775807 then ((Go.Proofs.YtjciehecedepeaaDoor.X.EntityDecode.f (((⟨#[38, 35, 54]⟩ : ByteArray) ++ (strOfNums y101)) ++ (⟨#[53, 59]⟩ : ByteArray))).bind fun t109 => (if t109 = true then ((Go.Proofs.YtjciehecedepeaaDoor.X.EntityDecode.f ((⟨#[38, 97, 109, 112]⟩ : ByteArray) ++ (strOfNums y101))).bind fun t110 => (if t110 = true then (if (strOfNums y101).size + 1 ≤ 9223372036854775807 then (if ((strOfNums y101) ++ (⟨#[38]⟩ : ByteArray)).size + (strOfNums y101).size ≤ 9223372036854775807 then ((Go.Proofs.YtjciehecedepeaaDoor.X.EntityBack.f (((strOfNums y101) ++ (⟨#[38]⟩ : ByteArray)) ++ (strOfNums y101)) true).bind fun t111 => (if t111 = true then (hopscotchlaw03_EntityKnown.l0 k1 (wrap64 (x1_1 + 1))) else (some false))) else (none)) else (none)) else (some false))) else (some false))) else (none)) else (none)) else (some false))) else (none)) else (none)) else (some false))) else (none)) else (none)) else (some false))) else (none)) else (some false))) else (some false))) else (none)) = some r := by first | (rw [hy101]; with_reducible exact H) | (have H2_ := (Option.bind_some _ _).symm.trans H; rw [hy101]; with_reducible exact H2_) | (have H2_ := (Option.bind_some _ _).symm.trans H; with_reducible exact H2_) | with_reducible exact H | (rw [hy101]; exact H) | exact H
        have Ny101 := Aside0.mk hy101
        have ysz_ : (strOfNums y101).size = 1 := by rw [Ny101.out]; rfl
        clear hy101
        by_cases c2 : 1 + (strOfNums y101).size ≤ 9223372036854775807
        · rw [if_pos c2] at H
          have c2b0 := eq_true c2
          have c2b1 : decide (1 + (strOfNums y101).size ≤ 9223372036854775807) = true := decide_eq_true c2
          try have c2b2 : (9223372036854775807 < 1 + (strOfNums y101).size) = False := eq_false (Nat.not_lt.2 c2)
          replace H := Option.bind_eq_some_iff.mp H
          obtain ⟨t104, A30, H⟩ := H
          replace H : (if t104 = true then ((Go.Proofs.YtjciehecedepeaaDoor.X.EntityEncode.f (strOfNums y101) ((Int.tmod x1_1 2) == 1)).bind fun t105 => (if t105 = true then (if ((⟨#[38]⟩ : ByteArray) ++ (strOfNums y101)).size + 2 ≤ 9223372036854775807 then ((Go.Proofs.YtjciehecedepeaaDoor.X.EntityDecode.f (((⟨#[38]⟩ : ByteArray) ++ (strOfNums y101)) ++ (⟨#[116, 59]⟩ : ByteArray))).bind fun t106 => (if t106 = true then (if 2 + (strOfNums y101).size ≤ 9223372036854775807 then (if ((⟨#[38, 35]⟩ : ByteArray) ++ (strOfNums y101)).size + 1 ≤ 9223372036854775807 then ((Go.Proofs.YtjciehecedepeaaDoor.X.EntityDecode.f (((⟨#[38, 35]⟩ : ByteArray) ++ (strOfNums y101)) ++ (⟨#[59]⟩ : ByteArray))).bind fun t107 => (if t107 = true then (if 4 + (strOfNums y101).size ≤ 9223372036854775807 then (if ((⟨#[38, 35, 120, 52]⟩ : ByteArray) ++ (strOfNums y101)).size + 1 ≤ 9223372036854775807 then ((Go.Proofs.YtjciehecedepeaaDoor.X.EntityDecode.f (((⟨#[38, 35, 120, 52]⟩ : ByteArray) ++ (strOfNums y101)) ++ (⟨#[59]⟩ : ByteArray))).bind fun t108 => (if t108 = true then (if 3 + (strOfNums y101).size ≤ 9223372036854775807 then (if ((⟨#[38, 35, 54]⟩ : ByteArray) ++ (strOfNums y101)).size + 2 ≤ 9223372036854775807 then ((Go.Proofs.YtjciehecedepeaaDoor.X.EntityDecode.f (((⟨#[38, 35, 54]⟩ : ByteArray) ++ (strOfNums y101)) ++ (⟨#[53, 59]⟩ : ByteArray))).bind fun t109 => (if t109 = true then ((Go.Proofs.YtjciehecedepeaaDoor.X.EntityDecode.f ((⟨#[38, 97, 109, 112]⟩ : ByteArray) ++ (strOfNums y101))).bind fun t110 => (if t110 = true then (if (strOfNums y101).size + 1 ≤ 9223372036854775807 then (if ((strOfNums y101) ++ (⟨#[38]⟩ : ByteArray)).size + (strOfNums y101).size ≤ 9223372036854775807 then ((Go.Proofs.YtjciehecedepeaaDoor.X.EntityBack.f (((strOfNums y101) ++ (⟨#[38]⟩ : ByteArray)) ++ (strOfNums y101)) true).bind fun t111 => (if t111 = true then (hopscotchlaw03_EntityKnown.l0 k1 (wrap64 (x1_1 + 1))) else (some false))) else (none)) else (none)) else (some false))) else (some false))) else (none)) else (none)) else (some false))) else (none)) else (none)) else (some false))) else (none)) else (none)) else (some false))) else (none)) else (some false))) else (some false)) = some r := H
          have A3 := Aside0.mk A30
          clear A30
          by_cases c4 : t104 = true
          · subst c4
            have H1 : ((Go.Proofs.YtjciehecedepeaaDoor.X.EntityEncode.f (strOfNums y101) ((Int.tmod x1_1 2) == 1)).bind fun t105 => (if t105 = true then (if ((⟨#[38]⟩ : ByteArray) ++ (strOfNums y101)).size + 2 ≤ 9223372036854775807 then ((Go.Proofs.YtjciehecedepeaaDoor.X.EntityDecode.f (((⟨#[38]⟩ : ByteArray) ++ (strOfNums y101)) ++ (⟨#[116, 59]⟩ : ByteArray))).bind fun t106 => (if t106 = true then (if 2 + (strOfNums y101).size ≤ 9223372036854775807 then (if ((⟨#[38, 35]⟩ : ByteArray) ++ (strOfNums y101)).size + 1 ≤ 9223372036854775807 then ((Go.Proofs.YtjciehecedepeaaDoor.X.EntityDecode.f (((⟨#[38, 35]⟩ : ByteArray) ++ (strOfNums y101)) ++ (⟨#[59]⟩ : ByteArray))).bind fun t107 => (if t107 = true then (if 4 + (strOfNums y101).size ≤ 9223372036854775807 then (if ((⟨#[38, 35, 120, 52]⟩ : ByteArray) ++ (strOfNums y101)).size + 1 ≤ 9223372036854775807 then ((Go.Proofs.YtjciehecedepeaaDoor.X.EntityDecode.f (((⟨#[38, 35, 120, 52]⟩ : ByteArray) ++ (strOfNums y101)) ++ (⟨#[59]⟩ : ByteArray))).bind fun t108 => (if t108 = true then (if 3 + (strOfNums y101).size ≤ 9223372036854775807 then (if ((⟨#[38, 35, 54]⟩ : ByteArray) ++ (strOfNums y101)).size + 2 ≤ 9223372036854775807 then ((Go.Proofs.YtjciehecedepeaaDoor.X.EntityDecode.f (((⟨#[38, 35, 54]⟩ : ByteArray) ++ (strOfNums y101)) ++ (⟨#[53, 59]⟩ : ByteArray))).bind fun t109 => (if t109 = true then ((Go.Proofs.YtjciehecedepeaaDoor.X.EntityDecode.f ((⟨#[38, 97, 109, 112]⟩ : ByteArray) ++ (strOfNums y101))).bind fun t110 => (if t110 = true then (if (strOfNums y101).size + 1 ≤ 9223372036854775807 then (if ((strOfNums y101) ++ (⟨#[38]⟩ : ByteArray)).size + (strOfNums y101).size ≤ 9223372036854775807 then ((Go.Proofs.YtjciehecedepeaaDoor.X.EntityBack.f (((strOfNums y101) ++ (⟨#[38]⟩ : ByteArray)) ++ (strOfNums y101)) true).bind fun t111 => (if t111 = true then (hopscotchlaw03_EntityKnown.l0 k1 (wrap64 (x1_1 + 1))) else (some false))) else (none)) else (none)) else (some false))) else (some false))) else (none)) else (none)) else (some false))) else (none)) else (none)) else (some false))) else (none)) else (none)) else (some false))) else (none)) else (some false))) = some r := by rw [if_pos rfl] at H; exact H
            clear H
            have H := H1
            clear H1
            replace H := Option.bind_eq_some_iff.mp H
            obtain ⟨t105, A50, H⟩ := H
            replace H : (if t105 = true then (if ((⟨#[38]⟩ : ByteArray) ++ (strOfNums y101)).size + 2 ≤ 9223372036854775807 then ((Go.Proofs.YtjciehecedepeaaDoor.X.EntityDecode.f (((⟨#[38]⟩ : ByteArray) ++ (strOfNums y101)) ++ (⟨#[116, 59]⟩ : ByteArray))).bind fun t106 => (if t106 = true then (if 2 + (strOfNums y101).size ≤ 9223372036854775807 then (if ((⟨#[38, 35]⟩ : ByteArray) ++ (strOfNums y101)).size + 1 ≤ 9223372036854775807 then ((Go.Proofs.YtjciehecedepeaaDoor.X.EntityDecode.f (((⟨#[38, 35]⟩ : ByteArray) ++ (strOfNums y101)) ++ (⟨#[59]⟩ : ByteArray))).bind fun t107 => (if t107 = true then (if 4 + (strOfNums y101).size ≤ 9223372036854775807 then (if ((⟨#[38, 35, 120, 52]⟩ : ByteArray) ++ (strOfNums y101)).size + 1 ≤ 9223372036854775807 then ((Go.Proofs.YtjciehecedepeaaDoor.X.EntityDecode.f (((⟨#[38, 35, 120, 52]⟩ : ByteArray) ++ (strOfNums y101)) ++ (⟨#[59]⟩ : ByteArray))).bind fun t108 => (if t108 = true then (if 3 + (strOfNums y101).size ≤ 9223372036854775807 then (if ((⟨#[38, 35, 54]⟩ : ByteArray) ++ (strOfNums y101)).size + 2 ≤ 9223372036854775807 then ((Go.Proofs.YtjciehecedepeaaDoor.X.EntityDecode.f (((⟨#[38, 35, 54]⟩ : ByteArray) ++ (strOfNums y101)) ++ (⟨#[53, 59]⟩ : ByteArray))).bind fun t109 => (if t109 = true then ((Go.Proofs.YtjciehecedepeaaDoor.X.EntityDecode.f ((⟨#[38, 97, 109, 112]⟩ : ByteArray) ++ (strOfNums y101))).bind fun t110 => (if t110 = true then (if (strOfNums y101).size + 1 ≤ 9223372036854775807 then (if ((strOfNums y101) ++ (⟨#[38]⟩ : ByteArray)).size + (strOfNums y101).size ≤ 9223372036854775807 then ((Go.Proofs.YtjciehecedepeaaDoor.X.EntityBack.f (((strOfNums y101) ++ (⟨#[38]⟩ : ByteArray)) ++ (strOfNums y101)) true).bind fun t111 => (if t111 = true then (hopscotchlaw03_EntityKnown.l0 k1 (wrap64 (x1_1 + 1))) else (some false))) else (none)) else (none)) else (some false))) else (some false))) else (none)) else (none)) else (some false))) else (none)) else (none)) else (some false))) else (none)) else (none)) else (some false))) else (none)) else (some false)) = some r := H
            have A5 := Aside0.mk A50
            clear A50
            by_cases c6 : t105 = true
            · subst c6
              have H1 : (if ((⟨#[38]⟩ : ByteArray) ++ (strOfNums y101)).size + 2 ≤ 9223372036854775807 then ((Go.Proofs.YtjciehecedepeaaDoor.X.EntityDecode.f (((⟨#[38]⟩ : ByteArray) ++ (strOfNums y101)) ++ (⟨#[116, 59]⟩ : ByteArray))).bind fun t106 => (if t106 = true then (if 2 + (strOfNums y101).size ≤ 9223372036854775807 then (if ((⟨#[38, 35]⟩ : ByteArray) ++ (strOfNums y101)).size + 1 ≤ 9223372036854775807 then ((Go.Proofs.YtjciehecedepeaaDoor.X.EntityDecode.f (((⟨#[38, 35]⟩ : ByteArray) ++ (strOfNums y101)) ++ (⟨#[59]⟩ : ByteArray))).bind fun t107 => (if t107 = true then (if 4 + (strOfNums y101).size ≤ 9223372036854775807 then (if ((⟨#[38, 35, 120, 52]⟩ : ByteArray) ++ (strOfNums y101)).size + 1 ≤ 9223372036854775807 then ((Go.Proofs.YtjciehecedepeaaDoor.X.EntityDecode.f (((⟨#[38, 35, 120, 52]⟩ : ByteArray) ++ (strOfNums y101)) ++ (⟨#[59]⟩ : ByteArray))).bind fun t108 => (if t108 = true then (if 3 + (strOfNums y101).size ≤ 9223372036854775807 then (if ((⟨#[38, 35, 54]⟩ : ByteArray) ++ (strOfNums y101)).size + 2 ≤ 9223372036854775807 then ((Go.Proofs.YtjciehecedepeaaDoor.X.EntityDecode.f (((⟨#[38, 35, 54]⟩ : ByteArray) ++ (strOfNums y101)) ++ (⟨#[53, 59]⟩ : ByteArray))).bind fun t109 => (if t109 = true then ((Go.Proofs.YtjciehecedepeaaDoor.X.EntityDecode.f ((⟨#[38, 97, 109, 112]⟩ : ByteArray) ++ (strOfNums y101))).bind fun t110 => (if t110 = true then (if (strOfNums y101).size + 1 ≤ 9223372036854775807 then (if ((strOfNums y101) ++ (⟨#[38]⟩ : ByteArray)).size + (strOfNums y101).size ≤ 9223372036854775807 then ((Go.Proofs.YtjciehecedepeaaDoor.X.EntityBack.f (((strOfNums y101) ++ (⟨#[38]⟩ : ByteArray)) ++ (strOfNums y101)) true).bind fun t111 => (if t111 = true then (hopscotchlaw03_EntityKnown.l0 k1 (wrap64 (x1_1 + 1))) else (some false))) else (none)) else (none)) else (some false))) else (some false))) else (none)) else (none)) else (some false))) else (none)) else (none)) else (some false))) else (none)) else (none)) else (some false))) else (none)) = some r := by rw [if_pos rfl] at H; exact H
              clear H
              have H := H1
              clear H1
              by_cases c7 : ((⟨#[38]⟩ : ByteArray) ++ (strOfNums y101)).size + 2 ≤ 9223372036854775807
              · rw [if_pos c7] at H
                have c7b0 := eq_true c7
                have c7b1 : decide (((⟨#[38]⟩ : ByteArray) ++ (strOfNums y101)).size + 2 ≤ 9223372036854775807) = true := decide_eq_true c7
                try have c7b2 : (9223372036854775807 < ((⟨#[38]⟩ : ByteArray) ++ (strOfNums y101)).size + 2) = False := eq_false (Nat.not_lt.2 c7)
                replace H := Option.bind_eq_some_iff.mp H
                obtain ⟨t106, A80, H⟩ := H
                replace H : (if t106 = true then (if 2 + (strOfNums y101).size ≤ 9223372036854775807 then (if ((⟨#[38, 35]⟩ : ByteArray) ++ (strOfNums y101)).size + 1 ≤ 9223372036854775807 then ((Go.Proofs.YtjciehecedepeaaDoor.X.EntityDecode.f (((⟨#[38, 35]⟩ : ByteArray) ++ (strOfNums y101)) ++ (⟨#[59]⟩ : ByteArray))).bind fun t107 => (if t107 = true then (if 4 + (strOfNums y101).size ≤ 9223372036854775807 then (if ((⟨#[38, 35, 120, 52]⟩ : ByteArray) ++ (strOfNums y101)).size + 1 ≤ 9223372036854775807 then ((Go.Proofs.YtjciehecedepeaaDoor.X.EntityDecode.f (((⟨#[38, 35, 120, 52]⟩ : ByteArray) ++ (strOfNums y101)) ++ (⟨#[59]⟩ : ByteArray))).bind fun t108 => (if t108 = true then (if 3 + (strOfNums y101).size ≤ 9223372036854775807 then (if ((⟨#[38, 35, 54]⟩ : ByteArray) ++ (strOfNums y101)).size + 2 ≤ 9223372036854775807 then ((Go.Proofs.YtjciehecedepeaaDoor.X.EntityDecode.f (((⟨#[38, 35, 54]⟩ : ByteArray) ++ (strOfNums y101)) ++ (⟨#[53, 59]⟩ : ByteArray))).bind fun t109 => (if t109 = true then ((Go.Proofs.YtjciehecedepeaaDoor.X.EntityDecode.f ((⟨#[38, 97, 109, 112]⟩ : ByteArray) ++ (strOfNums y101))).bind fun t110 => (if t110 = true then (if (strOfNums y101).size + 1 ≤ 9223372036854775807 then (if ((strOfNums y101) ++ (⟨#[38]⟩ : ByteArray)).size + (strOfNums y101).size ≤ 9223372036854775807 then ((Go.Proofs.YtjciehecedepeaaDoor.X.EntityBack.f (((strOfNums y101) ++ (⟨#[38]⟩ : ByteArray)) ++ (strOfNums y101)) true).bind fun t111 => (if t111 = true then (hopscotchlaw03_EntityKnown.l0 k1 (wrap64 (x1_1 + 1))) else (some false))) else (none)) else (none)) else (some false))) else (some false))) else (none)) else (none)) else (some false))) else (none)) else (none)) else (some false))) else (none)) else (none)) else (some false)) = some r := H
                have A8 := Aside0.mk A80
                clear A80
                by_cases c9 : t106 = true
                · subst c9
                  have H1 : (if 2 + (strOfNums y101).size ≤ 9223372036854775807 then (if ((⟨#[38, 35]⟩ : ByteArray) ++ (strOfNums y101)).size + 1 ≤ 9223372036854775807 then ((Go.Proofs.YtjciehecedepeaaDoor.X.EntityDecode.f (((⟨#[38, 35]⟩ : ByteArray) ++ (strOfNums y101)) ++ (⟨#[59]⟩ : ByteArray))).bind fun t107 => (if t107 = true then (if 4 + (strOfNums y101).size ≤ 9223372036854775807 then (if ((⟨#[38, 35, 120, 52]⟩ : ByteArray) ++ (strOfNums y101)).size + 1 ≤ 9223372036854775807 then ((Go.Proofs.YtjciehecedepeaaDoor.X.EntityDecode.f (((⟨#[38, 35, 120, 52]⟩ : ByteArray) ++ (strOfNums y101)) ++ (⟨#[59]⟩ : ByteArray))).bind fun t108 => (if t108 = true then (if 3 + (strOfNums y101).size ≤ 9223372036854775807 then (if ((⟨#[38, 35, 54]⟩ : ByteArray) ++ (strOfNums y101)).size + 2 ≤ 9223372036854775807 then ((Go.Proofs.YtjciehecedepeaaDoor.X.EntityDecode.f (((⟨#[38, 35, 54]⟩ : ByteArray) ++ (strOfNums y101)) ++ (⟨#[53, 59]⟩ : ByteArray))).bind fun t109 => (if t109 = true then ((Go.Proofs.YtjciehecedepeaaDoor.X.EntityDecode.f ((⟨#[38, 97, 109, 112]⟩ : ByteArray) ++ (strOfNums y101))).bind fun t110 => (if t110 = true then (if (strOfNums y101).size + 1 ≤ 9223372036854775807 then (if ((strOfNums y101) ++ (⟨#[38]⟩ : ByteArray)).size + (strOfNums y101).size ≤ 9223372036854775807 then ((Go.Proofs.YtjciehecedepeaaDoor.X.EntityBack.f (((strOfNums y101) ++ (⟨#[38]⟩ : ByteArray)) ++ (strOfNums y101)) true).bind fun t111 => (if t111 = true then (hopscotchlaw03_EntityKnown.l0 k1 (wrap64 (x1_1 + 1))) else (some false))) else (none)) else (none)) else (some false))) else (some false))) else (none)) else (none)) else (some false))) else (none)) else (none)) else (some false))) else (none)) else (none)) = some r := by rw [if_pos rfl] at H; exact H
                  clear H
                  have H := H1
                  clear H1
                  by_cases c10 : 2 + (strOfNums y101).size ≤ 9223372036854775807
                  · rw [if_pos c10] at H
                    have c10b0 := eq_true c10
                    have c10b1 : decide (2 + (strOfNums y101).size ≤ 9223372036854775807) = true := decide_eq_true c10
                    try have c10b2 : (9223372036854775807 < 2 + (strOfNums y101).size) = False := eq_false (Nat.not_lt.2 c10)
                    by_cases c11 : ((⟨#[38, 35]⟩ : ByteArray) ++ (strOfNums y101)).size + 1 ≤ 9223372036854775807
                    · rw [if_pos c11] at H
                      have c11b0 := eq_true c11
                      have c11b1 : decide (((⟨#[38, 35]⟩ : ByteArray) ++ (strOfNums y101)).size + 1 ≤ 9223372036854775807) = true := decide_eq_true c11
                      try have c11b2 : (9223372036854775807 < ((⟨#[38, 35]⟩ : ByteArray) ++ (strOfNums y101)).size + 1) = False := eq_false (Nat.not_lt.2 c11)
                      replace H := Option.bind_eq_some_iff.mp H
                      obtain ⟨t107, A120, H⟩ := H
                      replace H : (if t107 = true then (if 4 + (strOfNums y101).size ≤ 9223372036854775807 then (if ((⟨#[38, 35, 120, 52]⟩ : ByteArray) ++ (strOfNums y101)).size + 1 ≤ 9223372036854775807 then ((Go.Proofs.YtjciehecedepeaaDoor.X.EntityDecode.f (((⟨#[38, 35, 120, 52]⟩ : ByteArray) ++ (strOfNums y101)) ++ (⟨#[59]⟩ : ByteArray))).bind fun t108 => (if t108 = true then (if 3 + (strOfNums y101).size ≤ 9223372036854775807 then (if ((⟨#[38, 35, 54]⟩ : ByteArray) ++ (strOfNums y101)).size + 2 ≤ 9223372036854775807 then ((Go.Proofs.YtjciehecedepeaaDoor.X.EntityDecode.f (((⟨#[38, 35, 54]⟩ : ByteArray) ++ (strOfNums y101)) ++ (⟨#[53, 59]⟩ : ByteArray))).bind fun t109 => (if t109 = true then ((Go.Proofs.YtjciehecedepeaaDoor.X.EntityDecode.f ((⟨#[38, 97, 109, 112]⟩ : ByteArray) ++ (strOfNums y101))).bind fun t110 => (if t110 = true then (if (strOfNums y101).size + 1 ≤ 9223372036854775807 then (if ((strOfNums y101) ++ (⟨#[38]⟩ : ByteArray)).size + (strOfNums y101).size ≤ 9223372036854775807 then ((Go.Proofs.YtjciehecedepeaaDoor.X.EntityBack.f (((strOfNums y101) ++ (⟨#[38]⟩ : ByteArray)) ++ (strOfNums y101)) true).bind fun t111 => (if t111 = true then (hopscotchlaw03_EntityKnown.l0 k1 (wrap64 (x1_1 + 1))) else (some false))) else (none)) else (none)) else (some false))) else (some false))) else (none)) else (none)) else (some false))) else (none)) else (none)) else (some false)) = some r := H
                      have A12 := Aside0.mk A120
                      clear A120
                      by_cases c13 : t107 = true
                      · subst c13
                        have H1 : (if 4 + (strOfNums y101).size ≤ 9223372036854775807 then (if ((⟨#[38, 35, 120, 52]⟩ : ByteArray) ++ (strOfNums y101)).size + 1 ≤ 9223372036854775807 then ((Go.Proofs.YtjciehecedepeaaDoor.X.EntityDecode.f (((⟨#[38, 35, 120, 52]⟩ : ByteArray) ++ (strOfNums y101)) ++ (⟨#[59]⟩ : ByteArray))).bind fun t108 => (if t108 = true then (if 3 + (strOfNums y101).size ≤ 9223372036854775807 then (if ((⟨#[38, 35, 54]⟩ : ByteArray) ++ (strOfNums y101)).size + 2 ≤ 9223372036854775807 then ((Go.Proofs.YtjciehecedepeaaDoor.X.EntityDecode.f (((⟨#[38, 35, 54]⟩ : ByteArray) ++ (strOfNums y101)) ++ (⟨#[53, 59]⟩ : ByteArray))).bind fun t109 => (if t109 = true then ((Go.Proofs.YtjciehecedepeaaDoor.X.EntityDecode.f ((⟨#[38, 97, 109, 112]⟩ : ByteArray) ++ (strOfNums y101))).bind fun t110 => (if t110 = true then (if (strOfNums y101).size + 1 ≤ 9223372036854775807 then (if ((strOfNums y101) ++ (⟨#[38]⟩ : ByteArray)).size + (strOfNums y101).size ≤ 9223372036854775807 then ((Go.Proofs.YtjciehecedepeaaDoor.X.EntityBack.f (((strOfNums y101) ++ (⟨#[38]⟩ : ByteArray)) ++ (strOfNums y101)) true).bind fun t111 => (if t111 = true then (hopscotchlaw03_EntityKnown.l0 k1 (wrap64 (x1_1 + 1))) else (some false))) else (none)) else (none)) else (some false))) else (some false))) else (none)) else (none)) else (some false))) else (none)) else (none)) = some r := by rw [if_pos rfl] at H; exact H
                        clear H
                        have H := H1
                        clear H1
                        by_cases c14 : 4 + (strOfNums y101).size ≤ 9223372036854775807
                        · rw [if_pos c14] at H
                          have c14b0 := eq_true c14
                          have c14b1 : decide (4 + (strOfNums y101).size ≤ 9223372036854775807) = true := decide_eq_true c14
                          try have c14b2 : (9223372036854775807 < 4 + (strOfNums y101).size) = False := eq_false (Nat.not_lt.2 c14)
                          by_cases c15 : ((⟨#[38, 35, 120, 52]⟩ : ByteArray) ++ (strOfNums y101)).size + 1 ≤ 9223372036854775807
                          · rw [if_pos c15] at H
                            have c15b0 := eq_true c15
                            have c15b1 : decide (((⟨#[38, 35, 120, 52]⟩ : ByteArray) ++ (strOfNums y101)).size + 1 ≤ 9223372036854775807) = true := decide_eq_true c15
                            try have c15b2 : (9223372036854775807 < ((⟨#[38, 35, 120, 52]⟩ : ByteArray) ++ (strOfNums y101)).size + 1) = False := eq_false (Nat.not_lt.2 c15)
                            replace H := Option.bind_eq_some_iff.mp H
                            obtain ⟨t108, A160, H⟩ := H
                            replace H : (if t108 = true then (if 3 + (strOfNums y101).size ≤ 9223372036854775807 then (if ((⟨#[38, 35, 54]⟩ : ByteArray) ++ (strOfNums y101)).size + 2 ≤ 9223372036854775807 then ((Go.Proofs.YtjciehecedepeaaDoor.X.EntityDecode.f (((⟨#[38, 35, 54]⟩ : ByteArray) ++ (strOfNums y101)) ++ (⟨#[53, 59]⟩ : ByteArray))).bind fun t109 => (if t109 = true then ((Go.Proofs.YtjciehecedepeaaDoor.X.EntityDecode.f ((⟨#[38, 97, 109, 112]⟩ : ByteArray) ++ (strOfNums y101))).bind fun t110 => (if t110 = true then (if (strOfNums y101).size + 1 ≤ 9223372036854775807 then (if ((strOfNums y101) ++ (⟨#[38]⟩ : ByteArray)).size + (strOfNums y101).size ≤ 9223372036854775807 then ((Go.Proofs.YtjciehecedepeaaDoor.X.EntityBack.f (((strOfNums y101) ++ (⟨#[38]⟩ : ByteArray)) ++ (strOfNums y101)) true).bind fun t111 => (if t111 = true then (hopscotchlaw03_EntityKnown.l0 k1 (wrap64 (x1_1 + 1))) else (some false))) else (none)) else (none)) else (some false))) else (some false))) else (none)) else (none)) else (some false)) = some r := H
                            have A16 := Aside0.mk A160
                            clear A160
                            by_cases c17 : t108 = true
                            · subst c17
                              have H1 : (if 3 + (strOfNums y101).size ≤ 9223372036854775807 then (if ((⟨#[38, 35, 54]⟩ : ByteArray) ++ (strOfNums y101)).size + 2 ≤ 9223372036854775807 then ((Go.Proofs.YtjciehecedepeaaDoor.X.EntityDecode.f (((⟨#[38, 35, 54]⟩ : ByteArray) ++ (strOfNums y101)) ++ (⟨#[53, 59]⟩ : ByteArray))).bind fun t109 => (if t109 = true then ((Go.Proofs.YtjciehecedepeaaDoor.X.EntityDecode.f ((⟨#[38, 97, 109, 112]⟩ : ByteArray) ++ (strOfNums y101))).bind fun t110 => (if t110 = true then (if (strOfNums y101).size + 1 ≤ 9223372036854775807 then (if ((strOfNums y101) ++ (⟨#[38]⟩ : ByteArray)).size + (strOfNums y101).size ≤ 9223372036854775807 then ((Go.Proofs.YtjciehecedepeaaDoor.X.EntityBack.f (((strOfNums y101) ++ (⟨#[38]⟩ : ByteArray)) ++ (strOfNums y101)) true).bind fun t111 => (if t111 = true then (hopscotchlaw03_EntityKnown.l0 k1 (wrap64 (x1_1 + 1))) else (some false))) else (none)) else (none)) else (some false))) else (some false))) else (none)) else (none)) = some r := by rw [if_pos rfl] at H; exact H
                              clear H
                              have H := H1
                              clear H1
                              by_cases c18 : 3 + (strOfNums y101).size ≤ 9223372036854775807
                              · rw [if_pos c18] at H
                                have c18b0 := eq_true c18
                                have c18b1 : decide (3 + (strOfNums y101).size ≤ 9223372036854775807) = true := decide_eq_true c18
                                try have c18b2 : (9223372036854775807 < 3 + (strOfNums y101).size) = False := eq_false (Nat.not_lt.2 c18)
                                by_cases c19 : ((⟨#[38, 35, 54]⟩ : ByteArray) ++ (strOfNums y101)).size + 2 ≤ 9223372036854775807
                                · rw [if_pos c19] at H
                                  have c19b0 := eq_true c19
                                  have c19b1 : decide (((⟨#[38, 35, 54]⟩ : ByteArray) ++ (strOfNums y101)).size + 2 ≤ 9223372036854775807) = true := decide_eq_true c19
                                  try have c19b2 : (9223372036854775807 < ((⟨#[38, 35, 54]⟩ : ByteArray) ++ (strOfNums y101)).size + 2) = False := eq_false (Nat.not_lt.2 c19)
                                  replace H := Option.bind_eq_some_iff.mp H
                                  obtain ⟨t109, A200, H⟩ := H
                                  replace H : (if t109 = true then ((Go.Proofs.YtjciehecedepeaaDoor.X.EntityDecode.f ((⟨#[38, 97, 109, 112]⟩ : ByteArray) ++ (strOfNums y101))).bind fun t110 => (if t110 = true then (if (strOfNums y101).size + 1 ≤ 9223372036854775807 then (if ((strOfNums y101) ++ (⟨#[38]⟩ : ByteArray)).size + (strOfNums y101).size ≤ 9223372036854775807 then ((Go.Proofs.YtjciehecedepeaaDoor.X.EntityBack.f (((strOfNums y101) ++ (⟨#[38]⟩ : ByteArray)) ++ (strOfNums y101)) true).bind fun t111 => (if t111 = true then (hopscotchlaw03_EntityKnown.l0 k1 (wrap64 (x1_1 + 1))) else (some false))) else (none)) else (none)) else (some false))) else (some false)) = some r := H
                                  have A20 := Aside0.mk A200
                                  clear A200
                                  by_cases c21 : t109 = true
                                  · subst c21
                                    have H1 : ((Go.Proofs.YtjciehecedepeaaDoor.X.EntityDecode.f ((⟨#[38, 97, 109, 112]⟩ : ByteArray) ++ (strOfNums y101))).bind fun t110 => (if t110 = true then (if (strOfNums y101).size + 1 ≤ 9223372036854775807 then (if ((strOfNums y101) ++ (⟨#[38]⟩ : ByteArray)).size + (strOfNums y101).size ≤ 9223372036854775807 then ((Go.Proofs.YtjciehecedepeaaDoor.X.EntityBack.f (((strOfNums y101) ++ (⟨#[38]⟩ : ByteArray)) ++ (strOfNums y101)) true).bind fun t111 => (if t111 = true then (hopscotchlaw03_EntityKnown.l0 k1 (wrap64 (x1_1 + 1))) else (some false))) else (none)) else (none)) else (some false))) = some r := by rw [if_pos rfl] at H; exact H
                                    clear H
                                    have H := H1
                                    clear H1
                                    replace H := Option.bind_eq_some_iff.mp H
                                    obtain ⟨t110, A220, H⟩ := H
                                    replace H : (if t110 = true then (if (strOfNums y101).size + 1 ≤ 9223372036854775807 then (if ((strOfNums y101) ++ (⟨#[38]⟩ : ByteArray)).size + (strOfNums y101).size ≤ 9223372036854775807 then ((Go.Proofs.YtjciehecedepeaaDoor.X.EntityBack.f (((strOfNums y101) ++ (⟨#[38]⟩ : ByteArray)) ++ (strOfNums y101)) true).bind fun t111 => (if t111 = true then (hopscotchlaw03_EntityKnown.l0 k1 (wrap64 (x1_1 + 1))) else (some false))) else (none)) else (none)) else (some false)) = some r := H
                                    have A22 := Aside0.mk A220
                                    clear A220
                                    by_cases c23 : t110 = true
                                    · subst c23
                                      have H1 : (if (strOfNums y101).size + 1 ≤ 9223372036854775807 then (if ((strOfNums y101) ++ (⟨#[38]⟩ : ByteArray)).size + (strOfNums y101).size ≤ 9223372036854775807 then ((Go.Proofs.YtjciehecedepeaaDoor.X.EntityBack.f (((strOfNums y101) ++ (⟨#[38]⟩ : ByteArray)) ++ (strOfNums y101)) true).bind fun t111 => (if t111 = true then (hopscotchlaw03_EntityKnown.l0 k1 (wrap64 (x1_1 + 1))) else (some false))) else (none)) else (none)) = some r := by rw [if_pos rfl] at H; exact H
                                      clear H
                                      have H := H1
                                      clear H1
                                      by_cases c24 : (strOfNums y101).size + 1 ≤ 9223372036854775807
                                      · rw [if_pos c24] at H
                                        have c24b0 := eq_true c24
                                        have c24b1 : decide ((strOfNums y101).size + 1 ≤ 9223372036854775807) = true := decide_eq_true c24
                                        try have c24b2 : (9223372036854775807 < (strOfNums y101).size + 1) = False := eq_false (Nat.not_lt.2 c24)
                                        by_cases c25 : ((strOfNums y101) ++ (⟨#[38]⟩ : ByteArray)).size + (strOfNums y101).size ≤ 9223372036854775807
                                        · rw [if_pos c25] at H
                                          have c25b0 := eq_true c25
                                          have c25b1 : decide (((strOfNums y101) ++ (⟨#[38]⟩ : ByteArray)).size + (strOfNums y101).size ≤ 9223372036854775807) = true := decide_eq_true c25
                                          try have c25b2 : (9223372036854775807 < ((strOfNums y101) ++ (⟨#[38]⟩ : ByteArray)).size + (strOfNums y101).size) = False := eq_false (Nat.not_lt.2 c25)
                                          replace H := Option.bind_eq_some_iff.mp H
                                          obtain ⟨t111, A260, H⟩ := H
                                          replace H : (if t111 = true then (hopscotchlaw03_EntityKnown.l0 k1 (wrap64 (x1_1 + 1))) else (some false)) = some r := H
                                          have A26 := Aside0.mk A260
                                          clear A260
                                          by_cases c27 : t111 = true
                                          · subst c27
                                            have H1 : (hopscotchlaw03_EntityKnown.l0 k1 (wrap64 (x1_1 + 1))) = some r := by rw [if_pos rfl] at H; exact H
                                            clear H
                                            have H := H1
                                            clear H1
                                            have H' := Aside0.mk H
                                            clear H
                                            go_wp2_with (first | ((with_reducible refine gate_dst (N := 11) rfl ?_); refine Kd.R_lit (Kd.int .u8) _ 5 ?hg (N := 11) ?hd (xs := ([(x1_1) % 256] : List Int)) (inner := [.int .u8 ((x1_1) % 256)]) (ok := fun _ => True) (okp := fun _ => True) ?hr ?hp (fun _ hk => hk) trivial (Below.refl _ _) (Nat.le_refl _) (by simp) ?_; (case hd => rfl); (case hg => rfl); (case hr => first | (go_simp; done) | (go_simp; rfl)); (case hp => exact (Reps.one (show Kd.M (Kd.int .u8) _ _ _ ((x1_1) % 256) [.int .u8 ((x1_1) % 256)] from rfl) (Reps.none _ _))); intro v102 w28 ho29 hb hg_ hnew_; clear hg_ hnew_; (first | rw [← Ny101.out] at ho29 | (simp only [Int.reduceToNat] at ho29; rw [← Ny101.out] at ho29)); have n0_ := Aside0.mk (Kd.R_lower ho29 (below_size (by repeat (first | (with_reducible first | exact HB.out | apply below_alloc | apply pw_below_drewN | apply below_drew1) | exact HB.out)))); have n1_ := Aside0.mk (below_step (by repeat (first | (with_reducible first | exact HB.out | apply below_alloc | apply pw_below_drewN | apply below_drew1) | exact HB.out)) hb); clear HB; have HO103 := n0_; have HB := n1_; clear n0_ n1_; clear hb ho29; have hcv30 := own_string (P := Tryd.prog) Tryd.underlying33 Tryd.underlying5 Tryd.underlying9 (Kd.own_of_R HO103.out)) | ((with_reducible refine gate_callee (f := 4) rfl ?_); refine goesL_ (some 18) rfl rfl Tryd.func4 (by kernel_rfl) rfl #[.string ((⟨#[97]⟩ : ByteArray) ++ (strOfNums y101)), .bool ((Int.tmod x1_1 2) == 0)] rfl (by (try simp only [List.map_toArray, List.map_cons, List.map_nil]); first | done | rfl | (simp only [List.length_drop, List.length_take]; rfl)) ?_; (with_reducible refine (Go.Proofs.YtjciehecedepeaaDoor.X.EntityEncode.calls ((⟨#[97]⟩ : ByteArray) ++ (strOfNums y101)) ((Int.tmod x1_1 2) == 0) true _ ?side1 A3.out).mono ?_); (case side1 => exact Glob.of_below hG (by repeat (first | (with_reducible first | exact HB.out | apply below_alloc | apply pw_below_drewN | apply below_drew1) | exact HB.out))); rintro e w31 ⟨rfl, hb⟩; refine ⟨_, rfl, ?_⟩; have n0_ := Aside0.mk (Kd.R_below (by (with_reducible repeat (first | apply Kd.R_alloc | apply Kd.R_drewN | apply Kd.R_drew)); exact HO103.out) hb); have n1_ := Aside0.mk (below_step (by repeat (first | (with_reducible first | exact HB.out | apply below_alloc | apply pw_below_drewN | apply below_drew1) | exact HB.out)) hb); clear HO103; clear HB; have HO103 := n0_; have HB := n1_; clear n0_ n1_; (try clear hb); (try clear hb2); (try clear hk); (try clear hi)) | (go_at_call 4; (with_reducible refine (Go.Proofs.YtjciehecedepeaaDoor.X.EntityEncode.calls (strOfNums y101) ((Int.tmod x1_1 2) == 1) true _ ?side1 A5.out).mono ?_); (case side1 => exact Glob.of_below hG (by repeat (first | (with_reducible first | exact HB.out | apply below_alloc | apply pw_below_drewN | apply below_drew1) | exact HB.out))); rintro e w32 ⟨rfl, hb⟩; have n0_ := Aside0.mk (Kd.R_below (by (with_reducible repeat (first | apply Kd.R_alloc | apply Kd.R_drewN | apply Kd.R_drew)); exact HO103.out) hb); have n1_ := Aside0.mk (below_step (by repeat (first | (with_reducible first | exact HB.out | apply below_alloc | apply pw_below_drewN | apply below_drew1) | exact HB.out)) hb); clear HO103; clear HB; have HO103 := n0_; have HB := n1_; clear n0_ n1_; (try clear hb); (try clear hb2); (try clear hk); (try clear hi)) | (go_at_call 3; (with_reducible refine (Go.Proofs.YtjciehecedepeaaDoor.X.EntityDecode.calls (((⟨#[38]⟩ : ByteArray) ++ (strOfNums y101)) ++ (⟨#[116, 59]⟩ : ByteArray)) true _ ?side1 A8.out).mono ?_); (case side1 => exact Glob.of_below hG (by repeat (first | (with_reducible first | exact HB.out | apply below_alloc | apply pw_below_drewN | apply below_drew1) | exact HB.out))); rintro e w33 ⟨rfl, hb⟩; have n0_ := Aside0.mk (Kd.R_below (by (with_reducible repeat (first | apply Kd.R_alloc | apply Kd.R_drewN | apply Kd.R_drew)); exact HO103.out) hb); have n1_ := Aside0.mk (below_step (by repeat (first | (with_reducible first | exact HB.out | apply below_alloc | apply pw_below_drewN | apply below_drew1) | exact HB.out)) hb); clear HO103; clear HB; have HO103 := n0_; have HB := n1_; clear n0_ n1_; (try clear hb); (try clear hb2); (try clear hk); (try clear hi)) | (go_at_call 3; (with_reducible refine (Go.Proofs.YtjciehecedepeaaDoor.X.EntityDecode.calls (((⟨#[38, 35]⟩ : ByteArray) ++ (strOfNums y101)) ++ (⟨#[59]⟩ : ByteArray)) true _ ?side1 A12.out).mono ?_); (case side1 => exact Glob.of_below hG (by repeat (first | (with_reducible first | exact HB.out | apply below_alloc | apply pw_below_drewN | apply below_drew1) | exact HB.out))); rintro e w34 ⟨rfl, hb⟩; have n0_ := Aside0.mk (Kd.R_below (by (with_reducible repeat (first | apply Kd.R_alloc | apply Kd.R_drewN | apply Kd.R_drew)); exact HO103.out) hb); have n1_ := Aside0.mk (below_step (by repeat (first | (with_reducible first | exact HB.out | apply below_alloc | apply pw_below_drewN | apply below_drew1) | exact HB.out)) hb); clear HO103; clear HB; have HO103 := n0_; have HB := n1_; clear n0_ n1_; (try clear hb); (try clear hb2); (try clear hk); (try clear hi)) | (go_at_call 3; (with_reducible refine (Go.Proofs.YtjciehecedepeaaDoor.X.EntityDecode.calls (((⟨#[38, 35, 120, 52]⟩ : ByteArray) ++ (strOfNums y101)) ++ (⟨#[59]⟩ : ByteArray)) true _ ?side1 A16.out).mono ?_); (case side1 => exact Glob.of_below hG (by repeat (first | (with_reducible first | exact HB.out | apply below_alloc | apply pw_below_drewN | apply below_drew1) | exact HB.out))); rintro e w35 ⟨rfl, hb⟩; have n0_ := Aside0.mk (Kd.R_below (by (with_reducible repeat (first | apply Kd.R_alloc | apply Kd.R_drewN | apply Kd.R_drew)); exact HO103.out) hb); have n1_ := Aside0.mk (below_step (by repeat (first | (with_reducible first | exact HB.out | apply below_alloc | apply pw_below_drewN | apply below_drew1) | exact HB.out)) hb); clear HO103; clear HB; have HO103 := n0_; have HB := n1_; clear n0_ n1_; (try clear hb); (try clear hb2); (try clear hk); (try clear hi)) | (go_at_call 3; (with_reducible refine (Go.Proofs.YtjciehecedepeaaDoor.X.EntityDecode.calls (((⟨#[38, 35, 54]⟩ : ByteArray) ++ (strOfNums y101)) ++ (⟨#[53, 59]⟩ : ByteArray)) true _ ?side1 A20.out).mono ?_); (case side1 => exact Glob.of_below hG (by repeat (first | (with_reducible first | exact HB.out | apply below_alloc | apply pw_below_drewN | apply below_drew1) | exact HB.out))); rintro e w36 ⟨rfl, hb⟩; have n0_ := Aside0.mk (Kd.R_below (by (with_reducible repeat (first | apply Kd.R_alloc | apply Kd.R_drewN | apply Kd.R_drew)); exact HO103.out) hb); have n1_ := Aside0.mk (below_step (by repeat (first | (with_reducible first | exact HB.out | apply below_alloc | apply pw_below_drewN | apply below_drew1) | exact HB.out)) hb); clear HO103; clear HB; have HO103 := n0_; have HB := n1_; clear n0_ n1_; (try clear hb); (try clear hb2); (try clear hk); (try clear hi)) | (go_at_call 3; (with_reducible refine (Go.Proofs.YtjciehecedepeaaDoor.X.EntityDecode.calls ((⟨#[38, 97, 109, 112]⟩ : ByteArray) ++ (strOfNums y101)) true _ ?side1 A22.out).mono ?_); (case side1 => exact Glob.of_below hG (by repeat (first | (with_reducible first | exact HB.out | apply below_alloc | apply pw_below_drewN | apply below_drew1) | exact HB.out))); rintro e w37 ⟨rfl, hb⟩; have n0_ := Aside0.mk (Kd.R_below (by (with_reducible repeat (first | apply Kd.R_alloc | apply Kd.R_drewN | apply Kd.R_drew)); exact HO103.out) hb); have n1_ := Aside0.mk (below_step (by repeat (first | (with_reducible first | exact HB.out | apply below_alloc | apply pw_below_drewN | apply below_drew1) | exact HB.out)) hb); clear HO103; clear HB; have HO103 := n0_; have HB := n1_; clear n0_ n1_; (try clear hb); (try clear hb2); (try clear hk); (try clear hi)) | (go_at_call 5; (with_reducible refine (Go.Proofs.YtjciehecedepeaaDoor.X.EntityBack.calls (((strOfNums y101) ++ (⟨#[38]⟩ : ByteArray)) ++ (strOfNums y101)) true true _ ?side1 A26.out).mono ?_); (case side1 => exact Glob.of_below hG (by repeat (first | (with_reducible first | exact HB.out | apply below_alloc | apply pw_below_drewN | apply below_drew1) | exact HB.out))); rintro e w38 ⟨rfl, hb⟩; have n0_ := Aside0.mk (Kd.R_below (by (with_reducible repeat (first | apply Kd.R_alloc | apply Kd.R_drewN | apply Kd.R_drew)); exact HO103.out) hb); have n1_ := Aside0.mk (below_step (by repeat (first | (with_reducible first | exact HB.out | apply below_alloc | apply pw_below_drewN | apply below_drew1) | exact HB.out)) hb); clear HO103; clear HB; have HO103 := n0_; have HB := n1_; clear n0_ n1_; (try clear hb); (try clear hb2); (try clear hk); (try clear hi)))
                                            go_roundg k1
                                            case measure => have := HK1.out; omega
                                            case rel => exact ⟨(wrap64 (x1_1 + 1)), (by first | rfl | (simp; done) | (simp [*]; done) | (simp [bne, show ∀ l_ : List UInt8, (l_ == []) = l_.isEmpty from fun l_ => by cases l_ <;> rfl]; done)), H', ⟨by have := HK1.out; omega⟩, ⟨by repeat (first | (with_reducible first | exact HB.out | apply below_alloc | apply pw_below_drewN | apply below_drew1) | exact HB.out)⟩⟩
                                          · replace c27 := Bool.eq_false_iff.mpr c27
                                            subst c27
                                            exact False.elim (by first | exact X.EntityDecode.not A26.out | exact X.EntityEncode.not A26.out | exact X.EntityBack.not A26.out | exact X.EntityPieces.not A26.out)
                                        · rw [if_neg c25] at H
                                          exact absurd H (by simp)
                                      · rw [if_neg c24] at H
                                        exact absurd H (by simp)
                                    · replace c23 := Bool.eq_false_iff.mpr c23
                                      subst c23
                                      exact False.elim (by first | exact X.EntityDecode.not A22.out | exact X.EntityEncode.not A22.out | exact X.EntityBack.not A22.out | exact X.EntityPieces.not A22.out)
                                  · replace c21 := Bool.eq_false_iff.mpr c21
                                    subst c21
                                    exact False.elim (by first | exact X.EntityDecode.not A20.out | exact X.EntityEncode.not A20.out | exact X.EntityBack.not A20.out | exact X.EntityPieces.not A20.out)
                                · rw [if_neg c19] at H
                                  exact absurd H (by simp)
                              · rw [if_neg c18] at H
                                exact absurd H (by simp)
                            · replace c17 := Bool.eq_false_iff.mpr c17
                              subst c17
                              exact False.elim (by first | exact X.EntityDecode.not A16.out | exact X.EntityEncode.not A16.out | exact X.EntityBack.not A16.out | exact X.EntityPieces.not A16.out)
                          · rw [if_neg c15] at H
                            exact absurd H (by simp)
                        · rw [if_neg c14] at H
                          exact absurd H (by simp)
                      · replace c13 := Bool.eq_false_iff.mpr c13
                        subst c13
                        exact False.elim (by first | exact X.EntityDecode.not A12.out | exact X.EntityEncode.not A12.out | exact X.EntityBack.not A12.out | exact X.EntityPieces.not A12.out)
                    · rw [if_neg c11] at H
                      exact absurd H (by simp)
                  · rw [if_neg c10] at H
                    exact absurd H (by simp)
                · replace c9 := Bool.eq_false_iff.mpr c9
                  subst c9
                  exact False.elim (by first | exact X.EntityDecode.not A8.out | exact X.EntityEncode.not A8.out | exact X.EntityBack.not A8.out | exact X.EntityPieces.not A8.out)
              · rw [if_neg c7] at H
                exact absurd H (by simp)
            · replace c6 := Bool.eq_false_iff.mpr c6
              subst c6
              exact False.elim (by first | exact X.EntityDecode.not A5.out | exact X.EntityEncode.not A5.out | exact X.EntityBack.not A5.out | exact X.EntityPieces.not A5.out)
          · replace c4 := Bool.eq_false_iff.mpr c4
            subst c4
            exact False.elim (by first | exact X.EntityDecode.not A3.out | exact X.EntityEncode.not A3.out | exact X.EntityBack.not A3.out | exact X.EntityPieces.not A3.out)
        · rw [if_neg c2] at H
          exact absurd H (by simp)
      · rw [if_neg c1] at H
        have c1b0 : decide (x1_1 < 256) = false := decide_eq_false c1
        clear c1
        obtain ⟨y112, hy112⟩ : ∃ y_ : List ByteArray, y_ = (([(⟨#[38, 35, 48, 48, 48, 48, 48, 54, 53, 59]⟩ : ByteArray), (⟨#[38, 35, 48, 48, 48, 48, 48, 48, 54, 53, 59]⟩ : ByteArray), (⟨#[38, 35, 120, 48, 48, 48, 52, 49, 59]⟩ : ByteArray), (⟨#[38, 35, 120, 48, 48, 48, 48, 52, 49, 59]⟩ : ByteArray), (⟨#[38, 35, 120, 48, 48, 48, 48, 48, 52, 49, 59]⟩ : ByteArray), (⟨#[38, 35, 49, 49, 49, 52, 49, 49, 49, 59]⟩ : ByteArray), (⟨#[38, 35, 49, 49, 49, 52, 49, 49, 50, 59]⟩ : ByteArray), (⟨#[38, 35, 120, 49, 48, 70, 70, 70, 70, 59]⟩ : ByteArray), (⟨#[38, 35, 120, 49, 49, 48, 48, 48, 48, 59]⟩ : ByteArray), (⟨#[38, 35, 120, 100, 56, 48, 48, 59]⟩ : ByteArray), (⟨#[38, 35, 59]⟩ : ByteArray), (⟨#[38, 35, 120, 59]⟩ : ByteArray), (⟨#[38, 59]⟩ : ByteArray), (⟨#[38, 35, 43, 53, 59]⟩ : ByteArray), (⟨#[38, 35, 43, 54, 53, 59]⟩ : ByteArray), (⟨#[38, 35, 120, 43, 52, 49, 59]⟩ : ByteArray), (⟨#[38, 35, 120, 95, 49, 59]⟩ : ByteArray), (⟨#[38, 35, 49, 95, 48, 59]⟩ : ByteArray), (⟨#[38, 65, 77, 80, 59]⟩ : ByteArray), (⟨#[38, 97, 109, 112]⟩ : ByteArray), (⟨#[38, 35, 54, 53]⟩ : ByteArray), (⟨#[38, 97, 112, 111, 115, 59, 38, 113, 117, 111, 116, 59, 38, 103, 116, 59]⟩ : ByteArray), (⟨#[38, 38, 108, 116, 59]⟩ : ByteArray), (⟨#[]⟩ : ByteArray), (⟨#[97, 59, 98, 38, 99]⟩ : ByteArray), (⟨#[38, 35, 88, 52, 49, 59]⟩ : ByteArray), (⟨#[38, 32, 108, 116, 59]⟩ : ByteArray)] : List ByteArray)) := ⟨_, rfl⟩
        replace H : (hopscotchlaw03_EntityKnown.l1 k1 y112 (y112.length : Int) 0) = some r := by first | (rw [hy112]; with_reducible exact H) | (have H2_ := (Option.bind_some _ _).symm.trans H; rw [hy112]; with_reducible exact H2_) | (have H2_ := (Option.bind_some _ _).symm.trans H; with_reducible exact H2_) | with_reducible exact H | (rw [hy112]; exact H) | exact H
        have Ny112 := Aside0.mk hy112
        clear hy112
        have H' := Aside0.mk H
        clear H
        go_wp2_with (first | ((with_reducible refine gate_dst (N := 70) rfl ?_); refine Kd.R_lit Kd.string _ 9 ?hg (N := 70) ?hd (xs := ([(⟨#[38, 35, 48, 48, 48, 48, 48, 54, 53, 59]⟩ : ByteArray), (⟨#[38, 35, 48, 48, 48, 48, 48, 48, 54, 53, 59]⟩ : ByteArray), (⟨#[38, 35, 120, 48, 48, 48, 52, 49, 59]⟩ : ByteArray), (⟨#[38, 35, 120, 48, 48, 48, 48, 52, 49, 59]⟩ : ByteArray), (⟨#[38, 35, 120, 48, 48, 48, 48, 48, 52, 49, 59]⟩ : ByteArray), (⟨#[38, 35, 49, 49, 49, 52, 49, 49, 49, 59]⟩ : ByteArray), (⟨#[38, 35, 49, 49, 49, 52, 49, 49, 50, 59]⟩ : ByteArray), (⟨#[38, 35, 120, 49, 48, 70, 70, 70, 70, 59]⟩ : ByteArray), (⟨#[38, 35, 120, 49, 49, 48, 48, 48, 48, 59]⟩ : ByteArray), (⟨#[38, 35, 120, 100, 56, 48, 48, 59]⟩ : ByteArray), (⟨#[38, 35, 59]⟩ : ByteArray), (⟨#[38, 35, 120, 59]⟩ : ByteArray), (⟨#[38, 59]⟩ : ByteArray), (⟨#[38, 35, 43, 53, 59]⟩ : ByteArray), (⟨#[38, 35, 43, 54, 53, 59]⟩ : ByteArray), (⟨#[38, 35, 120, 43, 52, 49, 59]⟩ : ByteArray), (⟨#[38, 35, 120, 95, 49, 59]⟩ : ByteArray), (⟨#[38, 35, 49, 95, 48, 59]⟩ : ByteArray), (⟨#[38, 65, 77, 80, 59]⟩ : ByteArray), (⟨#[38, 97, 109, 112]⟩ : ByteArray), (⟨#[38, 35, 54, 53]⟩ : ByteArray), (⟨#[38, 97, 112, 111, 115, 59, 38, 113, 117, 111, 116, 59, 38, 103, 116, 59]⟩ : ByteArray), (⟨#[38, 38, 108, 116, 59]⟩ : ByteArray), (⟨#[]⟩ : ByteArray), (⟨#[97, 59, 98, 38, 99]⟩ : ByteArray), (⟨#[38, 35, 88, 52, 49, 59]⟩ : ByteArray), (⟨#[38, 32, 108, 116, 59]⟩ : ByteArray)] : List ByteArray)) (inner := [.string (⟨#[38, 35, 48, 48, 48, 48, 48, 54, 53, 59]⟩ : ByteArray), .string (⟨#[38, 35, 48, 48, 48, 48, 48, 48, 54, 53, 59]⟩ : ByteArray), .string (⟨#[38, 35, 120, 48, 48, 48, 52, 49, 59]⟩ : ByteArray), .string (⟨#[38, 35, 120, 48, 48, 48, 48, 52, 49, 59]⟩ : ByteArray), .string (⟨#[38, 35, 120, 48, 48, 48, 48, 48, 52, 49, 59]⟩ : ByteArray), .string (⟨#[38, 35, 49, 49, 49, 52, 49, 49, 49, 59]⟩ : ByteArray), .string (⟨#[38, 35, 49, 49, 49, 52, 49, 49, 50, 59]⟩ : ByteArray), .string (⟨#[38, 35, 120, 49, 48, 70, 70, 70, 70, 59]⟩ : ByteArray), .string (⟨#[38, 35, 120, 49, 49, 48, 48, 48, 48, 59]⟩ : ByteArray), .string (⟨#[38, 35, 120, 100, 56, 48, 48, 59]⟩ : ByteArray), .string (⟨#[38, 35, 59]⟩ : ByteArray), .string (⟨#[38, 35, 120, 59]⟩ : ByteArray), .string (⟨#[38, 59]⟩ : ByteArray), .string (⟨#[38, 35, 43, 53, 59]⟩ : ByteArray), .string (⟨#[38, 35, 43, 54, 53, 59]⟩ : ByteArray), .string (⟨#[38, 35, 120, 43, 52, 49, 59]⟩ : ByteArray), .string (⟨#[38, 35, 120, 95, 49, 59]⟩ : ByteArray), .string (⟨#[38, 35, 49, 95, 48, 59]⟩ : ByteArray), .string (⟨#[38, 65, 77, 80, 59]⟩ : ByteArray), .string (⟨#[38, 97, 109, 112]⟩ : ByteArray), .string (⟨#[38, 35, 54, 53]⟩ : ByteArray), .string (⟨#[38, 97, 112, 111, 115, 59, 38, 113, 117, 111, 116, 59, 38, 103, 116, 59]⟩ : ByteArray), .string (⟨#[38, 38, 108, 116, 59]⟩ : ByteArray), .string (⟨#[]⟩ : ByteArray), .string (⟨#[97, 59, 98, 38, 99]⟩ : ByteArray), .string (⟨#[38, 35, 88, 52, 49, 59]⟩ : ByteArray), .string (⟨#[38, 32, 108, 116, 59]⟩ : ByteArray)]) (ok := fun _ => True) (okp := fun _ => True) ?hr ?hp (fun _ hk => hk) trivial (Below.refl _ _) (Nat.le_refl _) (by simp) ?_; (case hd => rfl); (case hg => rfl); (case hr => first | (go_simp; done) | (go_simp; rfl)); (case hp => exact (Reps.one (show Kd.M Kd.string _ _ _ (⟨#[38, 35, 48, 48, 48, 48, 48, 54, 53, 59]⟩ : ByteArray) [.string (⟨#[38, 35, 48, 48, 48, 48, 48, 54, 53, 59]⟩ : ByteArray)] from rfl) (Reps.one (show Kd.M Kd.string _ _ _ (⟨#[38, 35, 48, 48, 48, 48, 48, 48, 54, 53, 59]⟩ : ByteArray) [.string (⟨#[38, 35, 48, 48, 48, 48, 48, 48, 54, 53, 59]⟩ : ByteArray)] from rfl) (Reps.one (show Kd.M Kd.string _ _ _ (⟨#[38, 35, 120, 48, 48, 48, 52, 49, 59]⟩ : ByteArray) [.string (⟨#[38, 35, 120, 48, 48, 48, 52, 49, 59]⟩ : ByteArray)] from rfl) (Reps.one (show Kd.M Kd.string _ _ _ (⟨#[38, 35, 120, 48, 48, 48, 48, 52, 49, 59]⟩ : ByteArray) [.string (⟨#[38, 35, 120, 48, 48, 48, 48, 52, 49, 59]⟩ : ByteArray)] from rfl) (Reps.one (show Kd.M Kd.string _ _ _ (⟨#[38, 35, 120, 48, 48, 48, 48, 48, 52, 49, 59]⟩ : ByteArray) [.string (⟨#[38, 35, 120, 48, 48, 48, 48, 48, 52, 49, 59]⟩ : ByteArray)] from rfl) (Reps.one (show Kd.M Kd.string _ _ _ (⟨#[38, 35, 49, 49, 49, 52, 49, 49, 49, 59]⟩ : ByteArray) [.string (⟨#[38, 35, 49, 49, 49, 52, 49, 49, 49, 59]⟩ : ByteArray)] from rfl) (Reps.one (show Kd.M Kd.string _ _ _ (⟨#[38, 35, 49, 49, 49, 52, 49, 49, 50, 59]⟩ : ByteArray) [.string (⟨#[38, 35, 49, 49, 49, 52, 49, 49, 50, 59]⟩ : ByteArray)] from rfl) (Reps.one (show Kd.M Kd.string _ _ _ (⟨#[38, 35, 120, 49, 48, 70, 70, 70, 70, 59]⟩ : ByteArray) [.string (⟨#[38, 35, 120, 49, 48, 70, 70, 70, 70, 59]⟩ : ByteArray)] from rfl) (Reps.one (show Kd.M Kd.string _ _ _ (⟨#[38, 35, 120, 49, 49, 48, 48, 48, 48, 59]⟩ : ByteArray) [.string (⟨#[38, 35, 120, 49, 49, 48, 48, 48, 48, 59]⟩ : ByteArray)] from rfl) (Reps.one (show Kd.M Kd.string _ _ _ (⟨#[38, 35, 120, 100, 56, 48, 48, 59]⟩ : ByteArray) [.string (⟨#[38, 35, 120, 100, 56, 48, 48, 59]⟩ : ByteArray)] from rfl) (Reps.one (show Kd.M Kd.string _ _ _ (⟨#[38, 35, 59]⟩ : ByteArray) [.string (⟨#[38, 35, 59]⟩ : ByteArray)] from rfl) (Reps.one (show Kd.M Kd.string _ _ _ (⟨#[38, 35, 120, 59]⟩ : ByteArray) [.string (⟨#[38, 35, 120, 59]⟩ : ByteArray)] from rfl) (Reps.one (show Kd.M Kd.string _ _ _ (⟨#[38, 59]⟩ : ByteArray) [.string (⟨#[38, 59]⟩ : ByteArray)] from rfl) (Reps.one (show Kd.M Kd.string _ _ _ (⟨#[38, 35, 43, 53, 59]⟩ : ByteArray) [.string (⟨#[38, 35, 43, 53, 59]⟩ : ByteArray)] from rfl) (Reps.one (show Kd.M Kd.string _ _ _ (⟨#[38, 35, 43, 54, 53, 59]⟩ : ByteArray) [.string (⟨#[38, 35, 43, 54, 53, 59]⟩ : ByteArray)] from rfl) (Reps.one (show Kd.M Kd.string _ _ _ (⟨#[38, 35, 120, 43, 52, 49, 59]⟩ : ByteArray) [.string (⟨#[38, 35, 120, 43, 52, 49, 59]⟩ : ByteArray)] from rfl) (Reps.one (show Kd.M Kd.string _ _ _ (⟨#[38, 35, 120, 95, 49, 59]⟩ : ByteArray) [.string (⟨#[38, 35, 120, 95, 49, 59]⟩ : ByteArray)] from rfl) (Reps.one (show Kd.M Kd.string _ _ _ (⟨#[38, 35, 49, 95, 48, 59]⟩ : ByteArray) [.string (⟨#[38, 35, 49, 95, 48, 59]⟩ : ByteArray)] from rfl) (Reps.one (show Kd.M Kd.string _ _ _ (⟨#[38, 65, 77, 80, 59]⟩ : ByteArray) [.string (⟨#[38, 65, 77, 80, 59]⟩ : ByteArray)] from rfl) (Reps.one (show Kd.M Kd.string _ _ _ (⟨#[38, 97, 109, 112]⟩ : ByteArray) [.string (⟨#[38, 97, 109, 112]⟩ : ByteArray)] from rfl) (Reps.one (show Kd.M Kd.string _ _ _ (⟨#[38, 35, 54, 53]⟩ : ByteArray) [.string (⟨#[38, 35, 54, 53]⟩ : ByteArray)] from rfl) (Reps.one (show Kd.M Kd.string _ _ _ (⟨#[38, 97, 112, 111, 115, 59, 38, 113, 117, 111, 116, 59, 38, 103, 116, 59]⟩ : ByteArray) [.string (⟨#[38, 97, 112, 111, 115, 59, 38, 113, 117, 111, 116, 59, 38, 103, 116, 59]⟩ : ByteArray)] from rfl) (Reps.one (show Kd.M Kd.string _ _ _ (⟨#[38, 38, 108, 116, 59]⟩ : ByteArray) [.string (⟨#[38, 38, 108, 116, 59]⟩ : ByteArray)] from rfl) (Reps.one (show Kd.M Kd.string _ _ _ (⟨#[]⟩ : ByteArray) [.string (⟨#[]⟩ : ByteArray)] from rfl) (Reps.one (show Kd.M Kd.string _ _ _ (⟨#[97, 59, 98, 38, 99]⟩ : ByteArray) [.string (⟨#[97, 59, 98, 38, 99]⟩ : ByteArray)] from rfl) (Reps.one (show Kd.M Kd.string _ _ _ (⟨#[38, 35, 88, 52, 49, 59]⟩ : ByteArray) [.string (⟨#[38, 35, 88, 52, 49, 59]⟩ : ByteArray)] from rfl) (Reps.one (show Kd.M Kd.string _ _ _ (⟨#[38, 32, 108, 116, 59]⟩ : ByteArray) [.string (⟨#[38, 32, 108, 116, 59]⟩ : ByteArray)] from rfl) (Reps.none _ _))))))))))))))))))))))))))))); intro v113 w99 ho100 hb hg_ hnew_; clear hg_ hnew_; (first | rw [← Ny112.out] at ho100 | (simp only [Int.reduceToNat] at ho100; rw [← Ny112.out] at ho100)); have n0_ := Aside0.mk (Kd.R_lower ho100 (below_size (by repeat (first | (with_reducible first | exact HB.out | apply below_alloc | apply pw_below_drewN | apply below_drew1) | exact HB.out)))); have n1_ := Aside0.mk (below_step (by repeat (first | (with_reducible first | exact HB.out | apply below_alloc | apply pw_below_drewN | apply below_drew1) | exact HB.out)) hb); clear HB; have HO114 := n0_; have HB := n1_; clear n0_ n1_; clear hb ho100; obtain ⟨Ao101, co101, eo101⟩ := Kd.R_slice HO114.out; subst eo101))
        go_loopg [72] k1 (fun kq v72 w' => ∃ (x72_2 : Int), v72 = .int .i64 x72_2 ∧ Aside0 (hopscotchlaw03_EntityKnown.l1 kq y112 (y112.length : Int) x72_2 = some r) ∧ Aside0 (kq ≤ k1) ∧ Aside0 (Kd.R Kd.string 9 w' w.heap.size (fun _ => True) (.slice Ao101 y112.length co101) y112) ∧ Aside0 (Below w.heap.size w w'))
        case atStart => exact ⟨(0), (by first | rfl | (simp; done) | (simp [*]; done) | (simp [bne, show ∀ l_ : List UInt8, (l_ == []) = l_.isEmpty from fun l_ => by cases l_ <;> rfl]; done)), H', ⟨Nat.le_refl _⟩, ⟨by (with_reducible repeat (first | apply Kd.R_alloc | apply Kd.R_drewN | apply Kd.R_drew)); exact HO114.out⟩, ⟨by repeat (first | (with_reducible first | exact HB.out | apply below_alloc | apply pw_below_drewN | apply below_drew1) | exact HB.out)⟩⟩
        case round =>
          clear H'
          try clear c1
          try clear c1b0
          try clear c2
          try clear c2b0
          try clear c2b1
          try clear c2b2
          try clear p2
          try clear hcv3
          try clear c4
          try clear hcv4
          try clear hcv5
          try clear c6
          try clear p6
          try clear hcv6
          try clear c7
          try clear c7b0
          try clear c7b1
          try clear c7b2
          try clear hcv7
          try clear hcv8
          try clear c9
          try clear hcv9
          try clear c10
          try clear c10b0
          try clear c10b1
          try clear c10b2
          try clear c11
          try clear c11b0
          try clear c11b1
          try clear c11b2
          try clear c13
          try clear c14
          try clear c14b0
          try clear c14b1
          try clear c14b2
          try clear c15
          try clear c15b0
          try clear c15b1
          try clear c15b2
          try clear c17
          try clear c18
          try clear c18b0
          try clear c18b1
          try clear c18b2
          try clear c19
          try clear c19b0
          try clear c19b1
          try clear c19b2
          try clear c21
          try clear c23
          try clear c24
          try clear c24b0
          try clear c24b1
          try clear c24b2
          try clear c25
          try clear c25b0
          try clear c25b1
          try clear c25b2
          try clear c27
          try clear hcv30
          try clear hcv41
          try clear hcv52
          try clear hcv62
          try clear p64
          try clear hcv71
          try clear hcv79
          try clear hcv86
          try clear hcv92
          try clear hcv97
          obtain ⟨x72_2, rfl, HA, HK2, HO_70, HB⟩ := hrel
          cases gk with
          | zero => exact absurd HA.out (by simp [hopscotchlaw03_EntityKnown.l1])
          | succ k2 =>
            have H := HA.out
            clear HA
            simp only [hopscotchlaw03_EntityKnown.l1] at H
            by_cases c102 : x72_2 < (y112.length : Int)
            · rw [if_pos c102] at H
              have c102b0 : decide (x72_2 < (y112.length : Int)) = true := decide_eq_true c102
              clear c102
              by_cases c103 : 0 ≤ x72_2
              · rw [if_pos c103] at H
                have c103b0 : decide (0 ≤ x72_2) = true := decide_eq_true c103
                clear c103
                by_cases c104 : x72_2 < (y112.length : Int)
                · rw [if_pos c104] at H
                  have c104b0 : decide (x72_2 < (y112.length : Int)) = true := decide_eq_true c104
                  clear c104
                  replace H := Option.bind_eq_some_iff.mp H
                  obtain ⟨t117, A1050, H⟩ := H
                  replace H : (if t117 = true then (if (rdOf ByteArray.empty y112 x72_2).size + 2 ≤ 9223372036854775807 then ((Go.Proofs.YtjciehecedepeaaDoor.X.EntityDecode.f ((rdOf ByteArray.empty y112 x72_2) ++ (⟨#[120, 59]⟩ : ByteArray))).bind fun t118 => (if t118 = true then ((Go.Proofs.YtjciehecedepeaaDoor.X.EntityBack.f (rdOf ByteArray.empty y112 x72_2) true).bind fun t119 => (if t119 = true then ((Go.Proofs.YtjciehecedepeaaDoor.X.EntityBack.f (rdOf ByteArray.empty y112 x72_2) false).bind fun t120 => (if t120 = true then ((Go.Proofs.YtjciehecedepeaaDoor.X.EntityPieces.f (rdOf ByteArray.empty y112 x72_2) (rdOf ByteArray.empty y112 x72_2) true).bind fun t121 => (if t121 = true then ((Go.Proofs.YtjciehecedepeaaDoor.X.EntityPieces.f (⟨#[97]⟩ : ByteArray) (rdOf ByteArray.empty y112 x72_2) false).bind fun t122 => (if t122 = true then (hopscotchlaw03_EntityKnown.l1 k2 y112 (y112.length : Int) (wrap64 (x72_2 + 1))) else (some false))) else (some false))) else (some false))) else (some false))) else (some false))) else (none)) else (some false)) = some r := H
                  have A105 := Aside0.mk A1050
                  clear A1050
                  by_cases c106 : t117 = true
                  · subst c106
                    have H1 : (if (rdOf ByteArray.empty y112 x72_2).size + 2 ≤ 9223372036854775807 then ((Go.Proofs.YtjciehecedepeaaDoor.X.EntityDecode.f ((rdOf ByteArray.empty y112 x72_2) ++ (⟨#[120, 59]⟩ : ByteArray))).bind fun t118 => (if t118 = true then ((Go.Proofs.YtjciehecedepeaaDoor.X.EntityBack.f (rdOf ByteArray.empty y112 x72_2) true).bind fun t119 => (if t119 = true then ((Go.Proofs.YtjciehecedepeaaDoor.X.EntityBack.f (rdOf ByteArray.empty y112 x72_2) false).bind fun t120 => (if t120 = true then ((Go.Proofs.YtjciehecedepeaaDoor.X.EntityPieces.f (rdOf ByteArray.empty y112 x72_2) (rdOf ByteArray.empty y112 x72_2) true).bind fun t121 => (if t121 = true then ((Go.Proofs.YtjciehecedepeaaDoor.X.EntityPieces.f (⟨#[97]⟩ : ByteArray) (rdOf ByteArray.empty y112 x72_2) false).bind fun t122 => (if t122 = true then (hopscotchlaw03_EntityKnown.l1 k2 y112 (y112.length : Int) (wrap64 (x72_2 + 1))) else (some false))) else (some false))) else (some false))) else (some false))) else (some false))) else (none)) = some r := by rw [if_pos rfl] at H; exact H
                    clear H
                    have H := H1
                    clear H1
                    by_cases c107 : (rdOf ByteArray.empty y112 x72_2).size + 2 ≤ 9223372036854775807
                    · rw [if_pos c107] at H
                      have c107b0 := eq_true c107
                      have c107b1 : decide ((rdOf ByteArray.empty y112 x72_2).size + 2 ≤ 9223372036854775807) = true := decide_eq_true c107
                      try have c107b2 : (9223372036854775807 < (rdOf ByteArray.empty y112 x72_2).size + 2) = False := eq_false (Nat.not_lt.2 c107)
                      replace H := Option.bind_eq_some_iff.mp H
                      obtain ⟨t118, A1080, H⟩ := H
                      replace H : (if t118 = true then ((Go.Proofs.YtjciehecedepeaaDoor.X.EntityBack.f (rdOf ByteArray.empty y112 x72_2) true).bind fun t119 => (if t119 = true then ((Go.Proofs.YtjciehecedepeaaDoor.X.EntityBack.f (rdOf ByteArray.empty y112 x72_2) false).bind fun t120 => (if t120 = true then ((Go.Proofs.YtjciehecedepeaaDoor.X.EntityPieces.f (rdOf ByteArray.empty y112 x72_2) (rdOf ByteArray.empty y112 x72_2) true).bind fun t121 => (if t121 = true then ((Go.Proofs.YtjciehecedepeaaDoor.X.EntityPieces.f (⟨#[97]⟩ : ByteArray) (rdOf ByteArray.empty y112 x72_2) false).bind fun t122 => (if t122 = true then (hopscotchlaw03_EntityKnown.l1 k2 y112 (y112.length : Int) (wrap64 (x72_2 + 1))) else (some false))) else (some false))) else (some false))) else (some false))) else (some false)) = some r := H
                      have A108 := Aside0.mk A1080
                      clear A1080
                      by_cases c109 : t118 = true
                      · subst c109
                        have H1 : ((Go.Proofs.YtjciehecedepeaaDoor.X.EntityBack.f (rdOf ByteArray.empty y112 x72_2) true).bind fun t119 => (if t119 = true then ((Go.Proofs.YtjciehecedepeaaDoor.X.EntityBack.f (rdOf ByteArray.empty y112 x72_2) false).bind fun t120 => (if t120 = true then ((Go.Proofs.YtjciehecedepeaaDoor.X.EntityPieces.f (rdOf ByteArray.empty y112 x72_2) (rdOf ByteArray.empty y112 x72_2) true).bind fun t121 => (if t121 = true then ((Go.Proofs.YtjciehecedepeaaDoor.X.EntityPieces.f (⟨#[97]⟩ : ByteArray) (rdOf ByteArray.empty y112 x72_2) false).bind fun t122 => (if t122 = true then (hopscotchlaw03_EntityKnown.l1 k2 y112 (y112.length : Int) (wrap64 (x72_2 + 1))) else (some false))) else (some false))) else (some false))) else (some false))) = some r := by rw [if_pos rfl] at H; exact H
                        clear H
                        have H := H1
                        clear H1
                        replace H := Option.bind_eq_some_iff.mp H
                        obtain ⟨t119, A1100, H⟩ := H
                        replace H : (if t119 = true then ((Go.Proofs.YtjciehecedepeaaDoor.X.EntityBack.f (rdOf ByteArray.empty y112 x72_2) false).bind fun t120 => (if t120 = true then ((Go.Proofs.YtjciehecedepeaaDoor.X.EntityPieces.f (rdOf ByteArray.empty y112 x72_2) (rdOf ByteArray.empty y112 x72_2) true).bind fun t121 => (if t121 = true then ((Go.Proofs.YtjciehecedepeaaDoor.X.EntityPieces.f (⟨#[97]⟩ : ByteArray) (rdOf ByteArray.empty y112 x72_2) false).bind fun t122 => (if t122 = true then (hopscotchlaw03_EntityKnown.l1 k2 y112 (y112.length : Int) (wrap64 (x72_2 + 1))) else (some false))) else (some false))) else (some false))) else (some false)) = some r := H
                        have A110 := Aside0.mk A1100
                        clear A1100
                        by_cases c111 : t119 = true
                        · subst c111
                          have H1 : ((Go.Proofs.YtjciehecedepeaaDoor.X.EntityBack.f (rdOf ByteArray.empty y112 x72_2) false).bind fun t120 => (if t120 = true then ((Go.Proofs.YtjciehecedepeaaDoor.X.EntityPieces.f (rdOf ByteArray.empty y112 x72_2) (rdOf ByteArray.empty y112 x72_2) true).bind fun t121 => (if t121 = true then ((Go.Proofs.YtjciehecedepeaaDoor.X.EntityPieces.f (⟨#[97]⟩ : ByteArray) (rdOf ByteArray.empty y112 x72_2) false).bind fun t122 => (if t122 = true then (hopscotchlaw03_EntityKnown.l1 k2 y112 (y112.length : Int) (wrap64 (x72_2 + 1))) else (some false))) else (some false))) else (some false))) = some r := by rw [if_pos rfl] at H; exact H
                          clear H
                          have H := H1
                          clear H1
                          replace H := Option.bind_eq_some_iff.mp H
                          obtain ⟨t120, A1120, H⟩ := H
                          replace H : (if t120 = true then ((Go.Proofs.YtjciehecedepeaaDoor.X.EntityPieces.f (rdOf ByteArray.empty y112 x72_2) (rdOf ByteArray.empty y112 x72_2) true).bind fun t121 => (if t121 = true then ((Go.Proofs.YtjciehecedepeaaDoor.X.EntityPieces.f (⟨#[97]⟩ : ByteArray) (rdOf ByteArray.empty y112 x72_2) false).bind fun t122 => (if t122 = true then (hopscotchlaw03_EntityKnown.l1 k2 y112 (y112.length : Int) (wrap64 (x72_2 + 1))) else (some false))) else (some false))) else (some false)) = some r := H
                          have A112 := Aside0.mk A1120
                          clear A1120
                          by_cases c113 : t120 = true
                          · subst c113
                            have H1 : ((Go.Proofs.YtjciehecedepeaaDoor.X.EntityPieces.f (rdOf ByteArray.empty y112 x72_2) (rdOf ByteArray.empty y112 x72_2) true).bind fun t121 => (if t121 = true then ((Go.Proofs.YtjciehecedepeaaDoor.X.EntityPieces.f (⟨#[97]⟩ : ByteArray) (rdOf ByteArray.empty y112 x72_2) false).bind fun t122 => (if t122 = true then (hopscotchlaw03_EntityKnown.l1 k2 y112 (y112.length : Int) (wrap64 (x72_2 + 1))) else (some false))) else (some false))) = some r := by rw [if_pos rfl] at H; exact H
                            clear H
                            have H := H1
                            clear H1
                            replace H := Option.bind_eq_some_iff.mp H
                            obtain ⟨t121, A1140, H⟩ := H
                            replace H : (if t121 = true then ((Go.Proofs.YtjciehecedepeaaDoor.X.EntityPieces.f (⟨#[97]⟩ : ByteArray) (rdOf ByteArray.empty y112 x72_2) false).bind fun t122 => (if t122 = true then (hopscotchlaw03_EntityKnown.l1 k2 y112 (y112.length : Int) (wrap64 (x72_2 + 1))) else (some false))) else (some false)) = some r := H
                            have A114 := Aside0.mk A1140
                            clear A1140
                            by_cases c115 : t121 = true
                            · subst c115
                              have H1 : ((Go.Proofs.YtjciehecedepeaaDoor.X.EntityPieces.f (⟨#[97]⟩ : ByteArray) (rdOf ByteArray.empty y112 x72_2) false).bind fun t122 => (if t122 = true then (hopscotchlaw03_EntityKnown.l1 k2 y112 (y112.length : Int) (wrap64 (x72_2 + 1))) else (some false))) = some r := by rw [if_pos rfl] at H; exact H
                              clear H
                              have H := H1
                              clear H1
                              replace H := Option.bind_eq_some_iff.mp H
                              obtain ⟨t122, A1160, H⟩ := H
                              replace H : (if t122 = true then (hopscotchlaw03_EntityKnown.l1 k2 y112 (y112.length : Int) (wrap64 (x72_2 + 1))) else (some false)) = some r := H
                              have A116 := Aside0.mk A1160
                              clear A1160
                              by_cases c117 : t122 = true
                              · subst c117
                                have H1 : (hopscotchlaw03_EntityKnown.l1 k2 y112 (y112.length : Int) (wrap64 (x72_2 + 1))) = some r := by rw [if_pos rfl] at H; exact H
                                clear H
                                have H := H1
                                clear H1
                                have H' := Aside0.mk H
                                clear H
                                have p116 : 0 ≤ (x72_2 : Int) := of_decide_eq_true (by first | (with_reducible assumption) | assumption)
                                have q116 : x72_2 < (y112.length : Int) := of_decide_eq_true (by first | (with_reducible assumption) | assumption)
                                obtain ⟨ad116, e116, hx116_0⟩ := Kd.at_string (Kd.R_reads' HO_70.out).2.2 x72_2 p116 q116
                                cases e116
                                replace p116 := eq_true p116
                                replace q116 := eq_true q116
                                go_wp2_with (first | ((with_reducible refine gate_callee (f := 3) rfl ?_); refine goesL_ (some 77) rfl rfl Tryd.func3 (by kernel_rfl) rfl #[.string (rdOf ByteArray.empty y112 x72_2)] rfl (by (try simp only [List.map_toArray, List.map_cons, List.map_nil]); first | done | rfl | (simp only [List.length_drop, List.length_take]; rfl)) ?_; (with_reducible refine (Go.Proofs.YtjciehecedepeaaDoor.X.EntityDecode.calls (rdOf ByteArray.empty y112 x72_2) true _ ?side1 A105.out).mono ?_); (case side1 => exact Glob.of_below hG (by repeat (first | (with_reducible first | exact HB.out | apply below_alloc | apply pw_below_drewN | apply below_drew1) | exact HB.out))); rintro e w118 ⟨rfl, hb⟩; refine ⟨_, rfl, ?_⟩; have n0_ := Aside0.mk (Kd.R_below (by (with_reducible repeat (first | apply Kd.R_alloc | apply Kd.R_drewN | apply Kd.R_drew)); exact HO_70.out) hb); have n1_ := Aside0.mk (below_step (by repeat (first | (with_reducible first | exact HB.out | apply below_alloc | apply pw_below_drewN | apply below_drew1) | exact HB.out)) hb); clear HO_70; clear HB; have HO_70 := n0_; have HB := n1_; clear n0_ n1_; (try clear hb); (try clear hb2); (try clear hk); (try clear hi)) | (go_at_call 3; (with_reducible refine (Go.Proofs.YtjciehecedepeaaDoor.X.EntityDecode.calls ((rdOf ByteArray.empty y112 x72_2) ++ (⟨#[120, 59]⟩ : ByteArray)) true _ ?side1 A108.out).mono ?_); (case side1 => exact Glob.of_below hG (by repeat (first | (with_reducible first | exact HB.out | apply below_alloc | apply pw_below_drewN | apply below_drew1) | exact HB.out))); rintro e w119 ⟨rfl, hb⟩; have n0_ := Aside0.mk (Kd.R_below (by (with_reducible repeat (first | apply Kd.R_alloc | apply Kd.R_drewN | apply Kd.R_drew)); exact HO_70.out) hb); have n1_ := Aside0.mk (below_step (by repeat (first | (with_reducible first | exact HB.out | apply below_alloc | apply pw_below_drewN | apply below_drew1) | exact HB.out)) hb); clear HO_70; clear HB; have HO_70 := n0_; have HB := n1_; clear n0_ n1_; (try clear hb); (try clear hb2); (try clear hk); (try clear hi)) | (go_at_call 5; (with_reducible refine (Go.Proofs.YtjciehecedepeaaDoor.X.EntityBack.calls (rdOf ByteArray.empty y112 x72_2) true true _ ?side1 A110.out).mono ?_); (case side1 => exact Glob.of_below hG (by repeat (first | (with_reducible first | exact HB.out | apply below_alloc | apply pw_below_drewN | apply below_drew1) | exact HB.out))); rintro e w120 ⟨rfl, hb⟩; have n0_ := Aside0.mk (Kd.R_below (by (with_reducible repeat (first | apply Kd.R_alloc | apply Kd.R_drewN | apply Kd.R_drew)); exact HO_70.out) hb); have n1_ := Aside0.mk (below_step (by repeat (first | (with_reducible first | exact HB.out | apply below_alloc | apply pw_below_drewN | apply below_drew1) | exact HB.out)) hb); clear HO_70; clear HB; have HO_70 := n0_; have HB := n1_; clear n0_ n1_; (try clear hb); (try clear hb2); (try clear hk); (try clear hi)) | (go_at_call 5; (with_reducible refine (Go.Proofs.YtjciehecedepeaaDoor.X.EntityBack.calls (rdOf ByteArray.empty y112 x72_2) false true _ ?side1 A112.out).mono ?_); (case side1 => exact Glob.of_below hG (by repeat (first | (with_reducible first | exact HB.out | apply below_alloc | apply pw_below_drewN | apply below_drew1) | exact HB.out))); rintro e w121 ⟨rfl, hb⟩; have n0_ := Aside0.mk (Kd.R_below (by (with_reducible repeat (first | apply Kd.R_alloc | apply Kd.R_drewN | apply Kd.R_drew)); exact HO_70.out) hb); have n1_ := Aside0.mk (below_step (by repeat (first | (with_reducible first | exact HB.out | apply below_alloc | apply pw_below_drewN | apply below_drew1) | exact HB.out)) hb); clear HO_70; clear HB; have HO_70 := n0_; have HB := n1_; clear n0_ n1_; (try clear hb); (try clear hb2); (try clear hk); (try clear hi)) | (go_at_call 6; (with_reducible refine (Go.Proofs.YtjciehecedepeaaDoor.X.EntityPieces.calls (rdOf ByteArray.empty y112 x72_2) (rdOf ByteArray.empty y112 x72_2) true true _ ?side1 A114.out).mono ?_); (case side1 => exact Glob.of_below hG (by repeat (first | (with_reducible first | exact HB.out | apply below_alloc | apply pw_below_drewN | apply below_drew1) | exact HB.out))); rintro e w122 ⟨rfl, hb⟩; have n0_ := Aside0.mk (Kd.R_below (by (with_reducible repeat (first | apply Kd.R_alloc | apply Kd.R_drewN | apply Kd.R_drew)); exact HO_70.out) hb); have n1_ := Aside0.mk (below_step (by repeat (first | (with_reducible first | exact HB.out | apply below_alloc | apply pw_below_drewN | apply below_drew1) | exact HB.out)) hb); clear HO_70; clear HB; have HO_70 := n0_; have HB := n1_; clear n0_ n1_; (try clear hb); (try clear hb2); (try clear hk); (try clear hi)) | (go_at_call 6; (with_reducible refine (Go.Proofs.YtjciehecedepeaaDoor.X.EntityPieces.calls (⟨#[97]⟩ : ByteArray) (rdOf ByteArray.empty y112 x72_2) false true _ ?side1 A116.out).mono ?_); (case side1 => exact Glob.of_below hG (by repeat (first | (with_reducible first | exact HB.out | apply below_alloc | apply pw_below_drewN | apply below_drew1) | exact HB.out))); rintro e w123 ⟨rfl, hb⟩; have n0_ := Aside0.mk (Kd.R_below (by (with_reducible repeat (first | apply Kd.R_alloc | apply Kd.R_drewN | apply Kd.R_drew)); exact HO_70.out) hb); have n1_ := Aside0.mk (below_step (by repeat (first | (with_reducible first | exact HB.out | apply below_alloc | apply pw_below_drewN | apply below_drew1) | exact HB.out)) hb); clear HO_70; clear HB; have HO_70 := n0_; have HB := n1_; clear n0_ n1_; (try clear hb); (try clear hb2); (try clear hk); (try clear hi)))
                                go_roundg k2
                                case measure => have := HK1.out; have := HK2.out; omega
                                case rel => exact ⟨(wrap64 (x72_2 + 1)), (by first | rfl | (simp; done) | (simp [*]; done) | (simp [bne, show ∀ l_ : List UInt8, (l_ == []) = l_.isEmpty from fun l_ => by cases l_ <;> rfl]; done)), H', ⟨by have := HK1.out; have := HK2.out; omega⟩, ⟨by (with_reducible repeat (first | apply Kd.R_alloc | apply Kd.R_drewN | apply Kd.R_drew)); exact HO_70.out⟩, ⟨by repeat (first | (with_reducible first | exact HB.out | apply below_alloc | apply pw_below_drewN | apply below_drew1) | exact HB.out)⟩⟩
                              · replace c117 := Bool.eq_false_iff.mpr c117
                                subst c117
                                exact False.elim (by first | exact X.EntityDecode.not A116.out | exact X.EntityEncode.not A116.out | exact X.EntityBack.not A116.out | exact X.EntityPieces.not A116.out)
                            · replace c115 := Bool.eq_false_iff.mpr c115
                              subst c115
                              exact False.elim (by first | exact X.EntityDecode.not A114.out | exact X.EntityEncode.not A114.out | exact X.EntityBack.not A114.out | exact X.EntityPieces.not A114.out)
                          · replace c113 := Bool.eq_false_iff.mpr c113
                            subst c113
                            exact False.elim (by first | exact X.EntityDecode.not A112.out | exact X.EntityEncode.not A112.out | exact X.EntityBack.not A112.out | exact X.EntityPieces.not A112.out)
                        · replace c111 := Bool.eq_false_iff.mpr c111
                          subst c111
                          exact False.elim (by first | exact X.EntityDecode.not A110.out | exact X.EntityEncode.not A110.out | exact X.EntityBack.not A110.out | exact X.EntityPieces.not A110.out)
                      · replace c109 := Bool.eq_false_iff.mpr c109
                        subst c109
                        exact False.elim (by first | exact X.EntityDecode.not A108.out | exact X.EntityEncode.not A108.out | exact X.EntityBack.not A108.out | exact X.EntityPieces.not A108.out)
                    · rw [if_neg c107] at H
                      exact absurd H (by simp)
                  · replace c106 := Bool.eq_false_iff.mpr c106
                    subst c106
                    exact False.elim (by first | exact X.EntityDecode.not A105.out | exact X.EntityEncode.not A105.out | exact X.EntityBack.not A105.out | exact X.EntityPieces.not A105.out)
                · rw [if_neg c104] at H
                  exact absurd H (by simp)
              · rw [if_neg c103] at H
                exact absurd H (by simp)
            · rw [if_neg c102] at H
              have c102b0 : decide (x72_2 < (y112.length : Int)) = false := decide_eq_false c102
              clear c102
              replace H := Option.bind_eq_some_iff.mp H
              obtain ⟨t115, A1450, H⟩ := H
              replace H : (some t115) = some r := H
              have A145 := Aside0.mk A1450
              clear A1450
              obtain rfl := Option.some.inj H
              go_wp2_with (first | ((with_reducible refine gate_callee (f := 8) rfl ?_); refine goesL_ (some 107) rfl rfl Tryd.func8 (by kernel_rfl) rfl #[] rfl (by (try simp only [List.map_toArray, List.map_cons, List.map_nil]); first | done | rfl | (simp only [List.length_drop, List.length_take]; rfl)) ?_; (with_reducible refine (Go.Proofs.YtjciehecedepeaaDoor.PE.hopscotchlaw03_works.calls  t115 _ ?side1 A145.out).mono ?_); (case side1 => exact Glob.of_below hG (by repeat (first | (with_reducible first | exact HB.out | apply below_alloc | apply pw_below_drewN | apply below_drew1) | exact HB.out))); rintro e w146 ⟨rfl, hb⟩; refine ⟨_, rfl, ?_⟩; have n0_ := Aside0.mk (Kd.R_below (by (with_reducible repeat (first | apply Kd.R_alloc | apply Kd.R_drewN | apply Kd.R_drew)); exact HO_70.out) hb); have n1_ := Aside0.mk (below_step (by repeat (first | (with_reducible first | exact HB.out | apply below_alloc | apply pw_below_drewN | apply below_drew1) | exact HB.out)) hb); clear HO_70; clear HB; have HO_70 := n0_; have HB := n1_; clear n0_ n1_; (try clear hb); (try clear hb2); (try clear hk); (try clear hi)))
              go_ret
              exact ⟨by first | rfl | (simp [errW_none, errW_some] <;> rfl) | (simp [*, errW_none, errW_some] <;> rfl), by repeat (first | (with_reducible first | exact HB.out | apply below_alloc | apply pw_below_drewN | apply below_drew1) | exact HB.out)⟩
end Go.Proofs.YtjciehecedepeaaDoor.PN
