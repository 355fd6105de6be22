/- A text of the claim, with what no other text of it needs taken out. -/
import Derived.Test.YtebekjenmoijhaaDoorShelf
import Derived.Test.YtebekjenmoijhaaDoorMG
import Derived.Test.YtebekjenmoijhaaDoorPL1
import Derived.WalkKit
import Derived.LaidEql
import Derived.Stop.Asserts
import Derived.RowKitTokens
import Derived.Lib.Hide
import Derived.Deep.RegionWith
import Derived.Sort.Grow
namespace Go.Proofs.YtebekjenmoijhaaDoor.X
open Go.RowKit Go.Extern.Stop Go.Stop Go.Extern Go.Proofs.YtebekjenmoijhaaDoorW.PrintWords
set_option linter.unusedVariables false
set_option linter.unusedSimpArgs false
theorem isTypeOf (v : Value) (w : World) : (Extern.ReflectliteType.typeOf #[.iface 109 v]).run Tryd.prog w = .ok (.iface 78 (.agg #[.pointer (some ⟨5, 109, none⟩)])) w := by kernel_rfl
theorem isComparable (w : World) : ((Extern.ReflectliteType.method fun t => do Rtype.noPackHeld "Comparable" t; (fun a => Value.bool a.comparable) <$> typeInfo t) #[.agg #[.pointer (some ⟨5, 109, none⟩)]]).run Tryd.prog w = .ok (.bool true) w := by kernel_rfl
theorem isMethodComparable (v : Value) (w : World) : (Go.method 247 78 v "Comparable").run Tryd.prog w = .ok (98, v) w := by kernel_rfl
theorem isComp : (Tryd.prog.info? 109).map (·.comparable) = some true := by kernel_rfl
theorem isSize : (Tryd.prog.info? 111).map (·.size) = some 1 := by kernel_rfl
theorem noIsW (v : Value) (xT : TypeId) (w : World) : (Instr.typeAssert (.iface 74 v) xT 80 true).run Tryd.prog w = .ok (.tuple #[.nilIface, .bool false]) w := run_typeAssert_lacksB Tryd.underlying80 (by kernel_rfl) (by kernel_rfl) v xT w
theorem hasUnwrapW (v : Value) (xT : TypeId) (w : World) : (Instr.typeAssert (.iface 74 v) xT 83 true).run Tryd.prog w = .ok (.tuple #[.iface 74 v, .bool true]) w := run_typeAssert_hasB Tryd.underlying83 (by kernel_rfl) v xT w
theorem methodUnwrap (v : Value) (w : World) : (Go.method 247 74 v "Unwrap").run Tryd.prog w = .ok (94, v) w := by kernel_rfl
theorem is_nil (b : Addr) (w : World) :
    Calls Tryd.prog 29 #[.nilIface, .iface 109 (.pointer (some b))] w fun e w' => e = .returned (.bool false) ∧ w' = w := by
  have hn := run_eql_iface_nil_left (P := Tryd.prog) w 109 (.pointer (some b)) Tryd.underlying39
  go_enter Tryd.func29, Tryd.ntmps29
  go_wp2
  go_ret
  exact ⟨rfl, rfl⟩
theorem is_wrap_same (pb po : Nat) (b : Addr) (w : World) (h1 : w.cell? ⟨pb, po + 2, none⟩ = some (.iface 109 (.pointer (some b)))) :
    Calls Tryd.prog 29 #[.iface 74 (.pointer (some ⟨pb, po, none⟩)), .iface 109 (.pointer (some b))] w fun e w' => e = .returned (.bool true) ∧ w' = w := by
  obtain ⟨i, hi, hcmp⟩ := Option.map_eq_some_iff.1 isComp
  obtain ⟨j, hj, hjs⟩ := Option.map_eq_some_iff.1 isSize
  have h8 := @run_callFunc_extern Tryd.prog 44 _ Extern.ReflectliteType.typeOf Tryd.func44 (by kernel_rfl) (by kernel_rfl) (by kernel_rfl) (by kernel_rfl)
  have h32 := @run_callFunc_extern Tryd.prog 98 _ (Extern.ReflectliteType.method fun t => do Rtype.noPackHeld "Comparable" t; pure (.bool (← typeInfo t).comparable)) Tryd.func98 (by kernel_rfl) (by kernel_rfl) (by kernel_rfl) (by kernel_rfl)
  have tT := isTypeOf
  have cT := isComparable
  have mR := isMethodComparable
  have nW := noIsW
  have uW := hasUnwrapW
  have mU := methodUnwrap
  have heq := run_eql_iface_ptr_same (P := Tryd.prog) w b Tryd.underlying39 Tryd.underlying109 hi hcmp hj
  have hty := run_eql_iface_types (P := Tryd.prog) 74 109 (.pointer (some ⟨pb, po, none⟩)) (.pointer (some b)) Tryd.underlying39 (by decide) w
  go_enter Tryd.func29, Tryd.ntmps29
  go_wp2
  refine wp_loop_rounds 2 ?_
  rw [rounds_succ]
  go_wp2
  rw [rounds_succ]
  go_wp2
  go_ret
  exact ⟨rfl, rfl⟩
def num_Parse.f (k : Nat) (a0 : ByteArray) : Option (Int × Int) :=
  (PL.num_written.f k a0).bind fun b => if a0.size ≤ 140737488351232 then (if b = true then (match Lib.parseIntB 64 a0.data.toList with | .ok v => some (v, 0) | .range => some (0, 60) | _ => none) else some (0, 2)) else none
theorem num_Parse.mono : ∀ a0 k, LeO (num_Parse.f k a0) (num_Parse.f (k + 1) a0) := by
  intro a0 k
  unfold num_Parse.f
  exact LeO.bind (PL.num_written.mono a0 k) (fun _ => LeO.refl _)
theorem after_ok {w w' : World} {a : Addr} {v : Value} {e : TypeId} (m : Nat) (ha : w.cell? a = some v) (hw : w' = w.drewN m ∨ ∃ t, w' = Lib.bytesWorld (w.drewN m) e t) :
    Below w.heap.size w w' ∧ w'.cell? a = some v := by
  have hB : Below w.heap.size w w' := by
    rcases hw with rfl | ⟨t, rfl⟩
    · exact below_drewN (Below.refl _ _) _
    · exact (below_drewN (Below.refl _ _) m).trans (Lib.bytesWorld_below (w.drewN m) _ _)
  exact ⟨hB, pw_cell_below hB ha⟩
theorem after_range {w w' : World} {a : Addr} {v x y z : Value} {T : TypeId} (m N : Nat) (ha : w.cell? a = some v) (hcell : w'.heap[N]? = some (.cells #[x, y, z] T (0, 0))) (hw : Below (w.drewN m).heap.size (w.drewN m) w') :
    Below w.heap.size w w' ∧ w'.cell? a = some v ∧ w'.cell? ⟨N, 0 + 2, none⟩ = some z := by
  have hB : Below w.heap.size w w' := (below_drewN (Below.refl _ _) m).trans hw
  exact ⟨hB, pw_cell_below hB ha, by simp [World.cell?, hcell]⟩
set_option maxHeartbeats 2000000 in
set_option maxRecDepth 100000 in
theorem num_Parse.calls (k : Nat) (a0 : ByteArray) (r1 r2 : Int) (w : World) (hG : Glob w) (h : num_Parse.f k a0 = some (r1, r2)) :
    Calls Tryd.prog 11 #[.string a0] w fun e w' => e = .returned (.tuple #[.int .i64 r1, .int .i64 r2]) ∧ Below w.heap.size w w' := by
  unfold num_Parse.f at h
  obtain ⟨b, hb, h⟩ := Option.bind_eq_some_iff.mp h
  split at h
  rotate_left
  · cases h
  rename_i hz
  have HW := Lib.hid (PL.num_written.calls k a0 b · hb)
  clear hb
  obtain ⟨a, ha⟩ := hG.err
  split at h
  rotate_left
  · rename_i hb
    obtain rfl : b = false := by simpa using hb
    simp only [Option.some.injEq, Prod.mk.injEq] at h
    obtain ⟨rfl, rfl⟩ := h
    go_enter Tryd.func11, Tryd.ntmps11
    go_wp2_with (go_at_call 27; refine (HW.out _).mono ?_; rintro e w' ⟨rfl, ⟨⟨m, rfl⟩⟩⟩)
    go_ret2
    exact ⟨rfl, by repeat first | exact (Drawn0.mk ⟨_, rfl⟩).below | apply below_drewN⟩
  rename_i hb
  subst hb
  split at h
  · rename_i v hv
    simp only [Option.some.injEq, Prod.mk.injEq] at h
    obtain ⟨rfl, rfl⟩ := h
    have HP := Lib.hid (Tryd.strconv_ParseInt_10_at64_ok a0 (by omega) v hv)
    have HI := Lib.hid (is_nil a)
    go_enter Tryd.func11, Tryd.ntmps11
    go_wp2_with (first
      | (go_at_call 27; refine (HW.out _).mono ?_; rintro e w' ⟨rfl, ⟨⟨m, rfl⟩⟩⟩)
      | (go_at_call 28; refine (HP.out _).mono ?_; rintro e w' ⟨rfl, hw⟩; obtain ⟨hB, hc⟩ := after_ok m ha hw)
      | (go_at_call 29; refine (HI.out _).mono ?_; rintro e w' ⟨rfl, rfl⟩))
    go_ret2
    exact ⟨rfl, by repeat first | exact hB | apply below_drewN⟩
  · rename_i hv
    simp only [Option.some.injEq, Prod.mk.injEq] at h
    obtain ⟨rfl, rfl⟩ := h
    have hcw : ∀ m, (w.drewN m).cell? ⟨0, 0, none⟩ = some (.iface 109 (.pointer (some a))) := fun _ => ha
    have HP := Lib.hid (fun m => Tryd.strconv_ParseInt_10_at64_range a0 (by omega) hv _ (w.drewN m) (hcw m) (.inr ⟨_, _, rfl⟩))
    clear hcw
    have HI := Lib.hid (fun N => is_wrap_same N 0 a)
    go_enter Tryd.func11, Tryd.ntmps11
    go_wp2_with (first
      | (go_at_call 27; refine (HW.out _).mono ?_; rintro e w' ⟨rfl, ⟨⟨m, rfl⟩⟩⟩)
      | (go_at_call 28; refine (HP.out _).mono ?_; rintro e w' ⟨N, rfl, hN, hcell, hw⟩; obtain ⟨hB, hc, h2⟩ := after_range m N ha hcell hw)
      | (go_at_call 29; refine (HI.out _ _ ?_).mono ?_; exact h2; rintro e w' ⟨rfl, rfl⟩))
    go_ret2
    exact ⟨rfl, by repeat first | exact hB | apply below_drewN⟩
  · cases h
def strconv_FormatInt.f (a0 a1 : Int) : Option ByteArray :=
  if -9223372036854775808 ≤ a0 ∧ a0 ≤ 9223372036854775807 ∧ a1 = 10 then some ⟨(Lib.itoa a0).toArray⟩ else none
theorem strconv_FormatInt.calls (a0 a1 : Int) (r : ByteArray) (w : World) (hG : Glob w) (h : strconv_FormatInt.f a0 a1 = some r) :
    Calls Tryd.prog 32 #[.int .i64 a0, .int .i64 a1] w fun e w' => e = .returned (.string r) ∧ Below w.heap.size w w' := by
  unfold strconv_FormatInt.f at h
  split at h
  rotate_left
  · cases h
  rename_i hz
  obtain ⟨h0, h1, rfl⟩ := hz
  obtain rfl := Option.some.inj h
  refine (Tryd.strconv_FormatInt_10 a0 h0 h1 w hG.pow).mono ?_
  rintro e w' ⟨rfl, k, os, rfl⟩
  refine ⟨rfl, ⟨rfl, rfl, rfl, by simp [World.drewN], fun i hi => ?_⟩⟩
  exact Sort.heap_grow_old _ _ hi
end Go.Proofs.YtebekjenmoijhaaDoor.X
