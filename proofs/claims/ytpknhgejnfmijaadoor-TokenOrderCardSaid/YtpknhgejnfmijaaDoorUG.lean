/- A text of the claim, with what no other text of it needs taken out. -/
import Derived.Test.YtpknhgejnfmijaaDoorWMore
import Derived.Test.YtpknhgejnfmijaaDoorProg
namespace Go.Proofs.YtpknhgejnfmijaaDoor
open Go.RowKit Go.Proofs.YtpknhgejnfmijaaDoorW.PrintWords
structure Glob (w : World) : Prop where
  b0 : w.cell? ⟨0, 0, none⟩ = some (.int .i32 9)
  b1 : w.cell? ⟨0, 1, none⟩ = some (.int .i32 10)
  b2 : w.cell? ⟨0, 2, none⟩ = some (.int .i32 13)
  b3 : w.cell? ⟨0, 3, none⟩ = some (.int .i32 13)
  b4 : w.cell? ⟨0, 4, none⟩ = some (.int .i32 32)
  b5 : w.cell? ⟨0, 5, none⟩ = some (.int .i32 55295)
  b6 : w.cell? ⟨0, 6, none⟩ = some (.int .i32 57344)
  b7 : w.cell? ⟨0, 7, none⟩ = some (.int .i32 65533)
  b8 : w.cell? ⟨0, 8, none⟩ = some (.int .i32 65536)
  b9 : w.cell? ⟨0, 9, none⟩ = some (.int .i32 1114111)
  syn : ∃ a, w.cell? ⟨4, 0, none⟩ = some (.iface 128 (.pointer (some a)))
  ml : ∃ m, w.cell? ⟨1, 0, none⟩ = some (.int .i64 m)
theorem Glob.of_below {w W : World} (h : Glob w) (hb : Below w.heap.size w W) : Glob W :=
  ⟨pw_cell_below hb h.b0, pw_cell_below hb h.b1, pw_cell_below hb h.b2, pw_cell_below hb h.b3, pw_cell_below hb h.b4, pw_cell_below hb h.b5, pw_cell_below hb h.b6, pw_cell_below hb h.b7, pw_cell_below hb h.b8, pw_cell_below hb h.b9, (let ⟨a, ha⟩ := h.syn; ⟨a, pw_cell_below hb ha⟩), let ⟨m, hm⟩ := h.ml; ⟨m, pw_cell_below hb hm⟩⟩
end Go.Proofs.YtpknhgejnfmijaaDoor
