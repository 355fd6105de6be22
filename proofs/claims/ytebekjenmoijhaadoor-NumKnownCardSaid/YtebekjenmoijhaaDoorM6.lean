/- A text of the claim, with what no other text of it needs taken out. -/
import Derived.Test.YtebekjenmoijhaaDoorM5
import Derived.Test.YtebekjenmoijhaaDoorPM1
import Derived.Test.YtebekjenmoijhaaDoorPM6
import Derived.Test.YtebekjenmoijhaaDoorPM7
import Derived.Shelf.Bits.Mul64
namespace Go.Proofs.YtebekjenmoijhaaDoor.M
open Go Go.RowKit Go.Proofs.YtebekjenmoijhaaDoorW.PrintWords Go.Proofs.YtebekjenmoijhaaDoorW.PrintMore Go.Proofs.YtebekjenmoijhaaDoor.PM
set_option linter.unusedVariables false
set_option linter.unusedSimpArgs false
theorem u64w (n : Int) : IntKind.u64.wrap n = n % 18446744073709551616 := by simp [IntKind.wrap, IntKind.bits, IntKind.signed]
theorem ofInt_msb {x : Int} (h : I x) : (BitVec.ofInt 64 x).msb = decide (x < 0) := by
  unfold I at h
  rw [BitVec.msb_eq_decide]
  apply decide_eq_decide.mpr
  rw [BitVec.toNat_ofInt]
  have : ((2 ^ 64 : Nat) : Int) = 18446744073709551616 := by decide
  rw [this]
  have h2 : (2 ^ (64 - 1) : Nat) = 9223372036854775808 := by decide
  rw [h2]
  omega
theorem wrap_neg (v : BitVec 64) : decide (IntKind.i64.wrap (v.toNat : Int) < 0) = v.msb := by
  rw [BitVec.msb_eq_decide]
  apply decide_eq_decide.mpr
  have := v.isLt
  rw [IntKind.wrap_i64]
  have h2 : (2 ^ (64 - 1) : Nat) = 9223372036854775808 := by decide
  rw [h2]
  omega
theorem bits_I (op : BinOp) (x y : Int) : I (bits op .i64 x y) := by
  unfold I bits
  simp only [IntKind.wrap_i64]
  omega
theorem xor_neg {x y : Int} (hx : I x) (hy : I y) : decide (bits .xor .i64 x y < 0) = (decide (x < 0) != decide (y < 0)) := by
  rw [← ofInt_msb hx, ← ofInt_msb hy]
  unfold bits
  simp only
  rw [show decide (IntKind.i64.wrap ((BitVec.ofInt IntKind.i64.bits x ^^^ BitVec.ofInt IntKind.i64.bits y).toNat : Int) < 0) = (BitVec.ofInt 64 x ^^^ BitVec.ofInt 64 y).msb from wrap_neg _, BitVec.msb_xor]
theorem and_neg {x y : Int} (hx : I x) (hy : I y) : decide (bits .and .i64 x y < 0) = (decide (x < 0) && decide (y < 0)) := by
  rw [← ofInt_msb hx, ← ofInt_msb hy]
  unfold bits
  simp only
  rw [show decide (IntKind.i64.wrap ((BitVec.ofInt IntKind.i64.bits x &&& BitVec.ofInt IntKind.i64.bits y).toNat : Int) < 0) = (BitVec.ofInt 64 x &&& BitVec.ofInt 64 y).msb from wrap_neg _, BitVec.msb_and]
theorem wrap_I (x : Int) : I (wrap64 x) := by unfold I wrap64; omega
theorem Add_eq {a b : Int} (ha : I a) (hb : I b) : num_Add.f a b = some (toldR (a + b)) := by
  have key := and_neg (bits_I .xor a (wrap64 (a + b))) (bits_I .xor b (wrap64 (a + b)))
  rw [xor_neg ha (wrap_I _), xor_neg hb (wrap_I _)] at key
  unfold I at ha hb
  unfold num_Add.f toldR
  by_cases h : bits .and .i64 (bits .xor .i64 a (wrap64 (a + b))) (bits .xor .i64 b (wrap64 (a + b))) < 0
  · rw [decide_eq_true h] at key
    have k2 := key.symm
    simp only [Bool.and_eq_true, bne_iff_ne, ne_eq, decide_eq_decide] at k2
    rw [if_pos h, if_neg]
    unfold wrap64 at k2
    omega
  · rw [decide_eq_false h] at key
    have k2 : ¬ ((decide (a < 0) != decide (wrap64 (a + b) < 0)) && (decide (b < 0) != decide (wrap64 (a + b) < 0))) = true := by rw [← key]; decide
    simp only [Bool.and_eq_true, bne_iff_ne, ne_eq, decide_eq_decide] at k2
    rw [if_neg h]
    have hI : -9223372036854775808 ≤ a + b ∧ a + b ≤ 9223372036854775807 := by
      unfold wrap64 at k2
      omega
    rw [if_pos hI, wrap_id hI.1 hI.2]
theorem Sub_eq {a b : Int} (ha : I a) (hb : I b) : num_Sub.f a b = some (toldR (a - b)) := by
  have key := and_neg (bits_I .xor a b) (bits_I .xor a (wrap64 (a - b)))
  rw [xor_neg ha hb, xor_neg ha (wrap_I _)] at key
  unfold I at ha hb
  unfold num_Sub.f toldR
  by_cases h : bits .and .i64 (bits .xor .i64 a b) (bits .xor .i64 a (wrap64 (a - b))) < 0
  · rw [decide_eq_true h] at key
    have k2 := key.symm
    simp only [Bool.and_eq_true, bne_iff_ne, ne_eq, decide_eq_decide] at k2
    rw [if_pos h, if_neg]
    unfold wrap64 at k2
    omega
  · rw [decide_eq_false h] at key
    have k2 : ¬ ((decide (a < 0) != decide (b < 0)) && (decide (a < 0) != decide (wrap64 (a - b) < 0))) = true := by rw [← key]; decide
    simp only [Bool.and_eq_true, bne_iff_ne, ne_eq, decide_eq_decide] at k2
    rw [if_neg h]
    have hI : -9223372036854775808 ≤ a - b ∧ a - b ≤ 9223372036854775807 := by
      unfold wrap64 at k2
      omega
    rw [if_pos hI, wrap_id hI.1 hI.2]
theorem Neg_eq {a : Int} (ha : I a) : num_Neg.f a = some (toldR (-a)) := by
  unfold num_Neg.f
  rw [Sub_eq (by unfold I; omega) ha, show (0 : Int) - a = -a by omega]
  rfl
theorem size_eq {a : Int} (ha : I a) : num_size.f a = some (a.natAbs : Int) := by
  unfold I at ha
  unfold num_size.f
  simp only [u64w]
  by_cases h : a < 0
  · rw [if_pos h]; congr 1; omega
  · rw [if_neg h]; congr 1; omega
theorem signed_ev {n : Int} (h0 : 0 ≤ n) (h1 : n < 18446744073709551616) (b : Bool) : Ev (fun k => num_signed.f k n b) (toldR (sg n b)) := by
  have hj : ∀ c : Bool, (c = true → b = true) → (b = true → c = decide (n ≤ 9223372036854775808)) → Ev (fun k => num_signed.j0 k n b c) (toldR (sg n b)) := by
    intro c hc1 hc2
    refine Ev.step (f := fun _ => some (toldR (sg n b))) (fun k => ?_) (Ev.now _)
    simp only [num_signed.j0, u64w]
    unfold toldR sg
    cases b
    · have : c = false := by cases c <;> simp_all
      subst this
      simp only [Bool.false_eq_true, if_false]
      by_cases h : n ≤ 9223372036854775807
      · rw [if_pos h, if_pos (by omega), wrap_id (by omega) (by omega)]
      · rw [if_neg h, if_neg (by omega)]
    · have hc := hc2 rfl
      by_cases h : n ≤ 9223372036854775808
      · rw [decide_eq_true h] at hc
        subst hc
        simp only [if_true]
        rw [if_pos (by omega)]
        congr 2
        unfold wrap64
        omega
      · rw [decide_eq_false h] at hc
        subst hc
        simp only [if_true, Bool.false_eq_true, if_false]
        rw [if_neg (by omega)]
  unfold num_signed.f
  cases b
  · simp only [Bool.false_eq_true, if_false]
    exact hj false (by simp) (by simp)
  · simp only [if_true]
    exact hj _ (by simp) (by simp)
theorem Mul64_eq (x y : Nat) (hx : x < 18446744073709551616) (hy : y < 18446744073709551616) : bits_Mul64.f (x : Int) (y : Int) = some (((x * y / 18446744073709551616 : Nat) : Int), ((x * y % 18446744073709551616 : Nat) : Int)) := by
  obtain ⟨bd, bt, bw, hhi⟩ := Lib.mul64_hi x y hx hy
  have ba := Lib.half_mul_le (a := x / 4294967296) (b := y / 4294967296) (by omega) (by omega)
  have bb := Lib.half_mul_le (a := x / 4294967296) (b := y % 4294967296) (by omega) (by omega)
  have bc := Lib.half_mul_le (a := x % 4294967296) (b := y / 4294967296) (by omega) (by omega)
  have ba' : x / 4294967296 * (y / 4294967296) < 18446744073709551616 := by omega
  have bb' : x / 4294967296 * (y % 4294967296) < 18446744073709551616 := by omega
  have bc' : x % 4294967296 * (y / 4294967296) < 18446744073709551616 := by omega
  have bh1 : x / 4294967296 * (y / 4294967296) + (x / 4294967296 * (y % 4294967296) + x % 4294967296 * (y % 4294967296) / 4294967296) / 4294967296 < 18446744073709551616 := by omega
  have bh : x / 4294967296 * (y / 4294967296) + (x / 4294967296 * (y % 4294967296) + x % 4294967296 * (y % 4294967296) / 4294967296) / 4294967296 + ((x / 4294967296 * (y % 4294967296) + x % 4294967296 * (y % 4294967296) / 4294967296) % 4294967296 + x % 4294967296 * (y / 4294967296)) / 4294967296 < 18446744073709551616 := by omega
  unfold bits_Mul64.f
  simp only [Mul64.maskN x hx, Mul64.maskN y hy, Mul64.divN, Mul64.mulN, Mul64.addN, Mul64.wrapN _ bd, Mul64.wrapN _ bb', Mul64.wrapN _ bt, Mul64.maskN _ bt, Mul64.wrapN _ bc', Mul64.wrapN _ bw, Mul64.wrapN _ ba', Mul64.wrapN _ bh1, Mul64.wrapN _ bh, Mul64.wrapM (x * y)]
  rw [hhi]
theorem told_out {x : Int} (h : x < -9223372036854775808 ∨ 9223372036854775807 < x) : toldR x = (0, 60) := by unfold toldR; rw [if_neg (by omega)]
theorem Mul_ev {a b : Int} (ha : I a) (hb : I b) : Ev (fun k => num_Mul.f k a b) (toldR (a * b)) := by
  have e := sg_mul a b
  have ha' := size_eq ha
  have hb' := size_eq hb
  unfold I at ha hb
  unfold num_Mul.f
  simp only [ha', hb', Option.bind_some, Mul64_eq a.natAbs b.natAbs (by omega) (by omega)]
  by_cases h : a.natAbs * b.natAbs < 18446744073709551616
  · rw [Nat.div_eq_of_lt h, Nat.mod_eq_of_lt h]
    simp only [Int.natCast_zero, if_true]
    rw [← e]
    exact Ev.bind (signed_ev (by omega) (by omega) _) (Ev.now _)
  · have : ¬ (((a.natAbs * b.natAbs / 18446744073709551616 : Nat) : Int) = 0) := by omega
    simp only [if_neg this]
    rw [← e, told_out (by unfold sg; split <;> omega)]
    exact Ev.now _
theorem Div_ev {a b : Int} (ha : I a) (hb : I b) : Ev (fun k => num_Div.f k a b) (divR a b) := by
  have e := sg_div a b
  have ha' := size_eq ha
  have hb' := size_eq hb
  unfold I at ha hb
  unfold num_Div.f divR
  by_cases h : b = 0
  · simp only [if_pos h]; exact Ev.now _
  · have hn : ¬ ((b.natAbs : Int) = 0) := by omega
    have hd : a.natAbs / b.natAbs ≤ 9223372036854775808 := Nat.le_trans (Nat.div_le_self _ _) (by omega)
    simp only [if_neg h, ha', hb', Option.bind_some, if_neg hn]
    rw [← e, show IntKind.u64.wrap (Int.tdiv (a.natAbs : Int) (b.natAbs : Int)) = ((a.natAbs / b.natAbs : Nat) : Int) by
      rw [← Int.ofNat_tdiv, u64w]; generalize a.natAbs / b.natAbs = d at hd ⊢; omega]
    exact Ev.bind (signed_ev (Int.natCast_nonneg _) (by generalize a.natAbs / b.natAbs = d at hd ⊢; omega) _) (Ev.now _)
theorem Mod_ev {a b : Int} (ha : I a) (hb : I b) : Ev (fun k => num_Mod.f k a b) (modR a b) := by
  have e := sg_mod a b
  have ha' := size_eq ha
  have hb' := size_eq hb
  unfold I at ha hb
  unfold num_Mod.f modR
  by_cases h : b = 0
  · simp only [if_pos h]; exact Ev.now _
  · have hn : ¬ ((b.natAbs : Int) = 0) := by omega
    have hd : a.natAbs % b.natAbs ≤ 9223372036854775808 := Nat.le_trans (Nat.mod_le _ _) (by omega)
    simp only [if_neg h, ha', hb', Option.bind_some, if_neg hn]
    rw [← e, ← Int.ofNat_tmod]
    exact Ev.bind (signed_ev (Int.natCast_nonneg _) (by generalize a.natAbs % b.natAbs = d at hd ⊢; omega) _) (Ev.now _)
theorem toldR_I (x : Int) : I (toldR x).1 := by unfold toldR I; split <;> simp <;> omega
end Go.Proofs.YtebekjenmoijhaaDoor.M
