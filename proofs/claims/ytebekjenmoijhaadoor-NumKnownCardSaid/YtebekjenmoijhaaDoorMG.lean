/- A text of the claim, with what no other text of it needs taken out. -/
import Derived.Test.YtebekjenmoijhaaDoorWWords
import Derived.Test.YtebekjenmoijhaaDoorProg
import Derived.Lib.LaidTab
import Derived.Lib.ItoaNum
import Derived.WalkSmall
import Derived.KernelRfl
namespace Go.Proofs.YtebekjenmoijhaaDoor
open Go.RowKit Go.Proofs.YtebekjenmoijhaaDoorW.PrintWords
structure Glob (w : World) : Prop where
  pow : Lib.TabIs Tryd.prog w "internal/strconv.uint64pow10" .u64 Lib.pow10Tab
  big : 2 < w.heap.size
  err : ∃ a, w.cell? ⟨0, 0, none⟩ = some (.iface 109 (.pointer (some a)))
theorem gPow : Tryd.prog.globalNamed "internal/strconv.uint64pow10" = some 2 := by kernel_rfl
theorem Glob.of_below {w W : World} (h : Glob w) (hb : Below w.heap.size w W) : Glob W :=
  ⟨var?_below hb gPow h.big h.pow, Nat.lt_of_lt_of_le h.big hb.size, let ⟨a, ha⟩ := h.err; ⟨a, pw_cell_below hb ha⟩⟩
end Go.Proofs.YtebekjenmoijhaaDoor
