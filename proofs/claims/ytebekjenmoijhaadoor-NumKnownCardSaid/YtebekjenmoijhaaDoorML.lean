/- A text of the claim, with what no other text of it needs taken out. -/
import Derived.Test.YtebekjenmoijhaaDoorMG
import Derived.Test.YtebekjenmoijhaaDoorRows
import Derived.ProofKit
import Derived.OpenShut
import Derived.LaidMore
import Derived.Lib.LaidTab
import Derived.Stop.LaidErr
namespace Go.Proofs.YtebekjenmoijhaaDoor.L
open Go Go.ChangeShapes Go.WideShapes Go.ChangeAt Go.RowKit
set_option linter.unusedVariables false
set_option linter.unusedSimpArgs false
theorem tP : (Tryd.prog.globals[2]?).map (·.type) = some 103 := by kernel_rfl
theorem cells20 : Tryd.prog.cellsOf 103 = 20 := by kernel_rfl
theorem cells1 : Tryd.prog.cellsOf 53 = 1 := by kernel_rfl
theorem gE : Tryd.prog.globalNamed "strconv.ErrRange" = some 0 := by kernel_rfl
theorem tE : (Tryd.prog.globals[0]?).map (·.type) = some 39 := by kernel_rfl
theorem cellsE : Tryd.prog.cellsOf 111 = 1 := by kernel_rfl
theorem cells9 : Tryd.prog.cellsOf 9 = 1 := by kernel_rfl
theorem star : "*" ++ "errors.errorString" = "*errors.errorString" := by decide
theorem rowE (u : TypeId) (h : Tryd.prog.typeName? 3 u = some "*errors.errorString") : u = 109 :=
  typeName_ptr_named (nm := "errors.errorString") (by rw [star]; kernel_rfl) (by kernel_rfl) (by decide) u (by rw [star]; exact h)
theorem glob_of_laid {W : World} (h : laidMetH Tryd.prog [("math/bits.deBruijn32tab", Rows.laid_math_bits_deBruijn32tab), ("math/bits.deBruijn64tab", Rows.laid_math_bits_deBruijn64tab), ("internal/strconv.uint64pow10", Rows.laid_internal_strconv_uint64pow10), ("strconv.ErrRange", Rows.laid_strconv_ErrRange), ("strconv.ErrSyntax", Rows.laid_strconv_ErrSyntax)] W) : Glob W := by
  have h' : laidMet Tryd.prog [("math/bits.deBruijn32tab", Rows.laid_math_bits_deBruijn32tab), ("math/bits.deBruijn64tab", Rows.laid_math_bits_deBruijn64tab), ("internal/strconv.uint64pow10", Rows.laid_internal_strconv_uint64pow10), ("strconv.ErrRange", Rows.laid_strconv_ErrRange), ("strconv.ErrSyntax", Rows.laid_strconv_ErrSyntax)] W := h
  have h2 := laidMet.tail (laidMet.tail h')
  have hp : Lib.TabIs Tryd.prog W "internal/strconv.uint64pow10" .u64 Lib.pow10Tab := Lib.tabIs_of_head gPow tP Tryd.underlying103 Tryd.underlying53 cells1 cells20 h2
  obtain ⟨a, s, hv, hc, _, _⟩ := laid_sentinel (laidMet.tail h2) gE tE Tryd.underlying39 rowE Tryd.underlying109 Tryd.underlying111 rfl rfl Tryd.underlying9 cellsE cells9
  have hb : 2 < W.heap.size := by
    unfold Lib.TabIs World.var? at hp
    rw [gPow] at hp
    rcases Nat.lt_or_ge 2 W.heap.size with h | h
    · exact h
    · rw [Option.bind_some, Array.getElem?_eq_none h] at hp
      cases hp
  refine ⟨hp, hb, a, ?_⟩
  have := World.var?_cell gE hv 0
  simpa using this
end Go.Proofs.YtebekjenmoijhaaDoor.L
