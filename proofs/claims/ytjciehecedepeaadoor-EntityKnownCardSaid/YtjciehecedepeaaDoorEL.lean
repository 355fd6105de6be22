/- A text of the claim, with what no other text of it needs taken out. -/
import Derived.Test.YtjciehecedepeaaDoorUG
import Derived.Test.YtjciehecedepeaaDoorRows
import Derived.ProofKit
import Derived.OpenShut
import Derived.LaidMore
import Derived.Lib.LaidTab
import Derived.Stop.LaidErr
namespace Go.Proofs.YtjciehecedepeaaDoor.L
open Go Go.ChangeShapes Go.WideShapes Go.ChangeAt Go.RowKit
set_option linter.unusedVariables false
set_option linter.unusedSimpArgs false
theorem gB : Tryd.prog.globalNamed "hopscotch/utf.bounds" = some 1 := by kernel_rfl
theorem tB : (Tryd.prog.globals[1]?).map (·.type) = some 95 := by kernel_rfl
theorem cells5 : Tryd.prog.cellsOf 95 = 10 := by kernel_rfl
theorem cells2 : Tryd.prog.cellsOf 94 = 2 := by kernel_rfl
theorem cells1 : Tryd.prog.cellsOf 21 = 1 := by kernel_rfl
theorem pair_cells {H : Type} {enc : TypeId × Value → H} {w : World} {base : Nat} {sp : Nat → Bool} {held : Bool} {fuel : Nat} {cs : List Value} {a b : Int} {x : DataW H × List MemPlace} (h : DataW.trod enc Tryd.prog w base sp held fuel 94 cs = some x) (e : x.1 = .agg [.lit (.int .i32 a), .lit (.int .i32 b)]) : cs = [.int .i32 a, .int .i32 b] := by
  obtain ⟨d, p⟩ := x
  simp only at e
  subst e
  exact Lib.cells_of_tab (zs := [a, b]) Tryd.underlying94 Tryd.underlying21 cells1 cells2 h
set_option maxRecDepth 100000 in
theorem bounds_cells {H : Type} {enc : TypeId × Value → H} {w : World} {base : Nat} {sp : Nat → Bool} {held : Bool} {fuel : Nat} {cs : List Value} {p : List MemPlace} (h : DataW.trod enc Tryd.prog w base sp held fuel 95 cs = some (Rows.laid_hopscotch_utf_bounds, p)) :
    cs = [.int .i32 9, .int .i32 10, .int .i32 13, .int .i32 13, .int .i32 32, .int .i32 55295, .int .i32 57344, .int .i32 65533, .int .i32 65536, .int .i32 1114111] := by
  obtain ⟨xs, m, rfl, hx, hlen, hn, hel⟩ := DataW.trod_array Tryd.underlying95 h
  rw [cells5] at hlen
  simp only [cells2] at hel
  simp only [Rows.laid_hopscotch_utf_bounds, Prod.mk.injEq, DataW.agg.injEq] at hx
  match xs, hn, hx, hel with
  | [x0, x1, x2, x3, x4], _, hx, hel =>
    simp only [List.map_cons, List.map_nil, List.cons.injEq] at hx
    obtain ⟨⟨e0, e1, e2, e3, e4, _⟩, _⟩ := hx
    have h0 := pair_cells (hel 0 (by decide)) e0.symm
    have h1 := pair_cells (hel 1 (by decide)) e1.symm
    have h2 := pair_cells (hel 2 (by decide)) e2.symm
    have h3 := pair_cells (hel 3 (by decide)) e3.symm
    have h4 := pair_cells (hel 4 (by decide)) e4.symm
    match cs, hlen, h0, h1, h2, h3, h4 with
    | [c0, c1, c2, c3, c4, c5, c6, c7, c8, c9], _, h0, h1, h2, h3, h4 =>
      simp at h0 h1 h2 h3 h4
      obtain ⟨rfl, rfl⟩ := h0
      obtain ⟨rfl, rfl⟩ := h1
      obtain ⟨rfl, rfl⟩ := h2
      obtain ⟨rfl, rfl⟩ := h3
      obtain ⟨rfl, rfl⟩ := h4
      rfl
theorem gE : Tryd.prog.globalNamed "strconv.ErrSyntax" = some 2 := by kernel_rfl
theorem tE : (Tryd.prog.globals[2]?).map (·.type) = some 41 := by kernel_rfl
theorem cellsE : Tryd.prog.cellsOf 107 = 1 := by kernel_rfl
theorem cells9 : Tryd.prog.cellsOf 9 = 1 := by kernel_rfl
theorem star : "*" ++ "errors.errorString" = "*errors.errorString" := by decide
theorem rowE (u : TypeId) (h : Tryd.prog.typeName? 3 u = some "*errors.errorString") : u = 105 :=
  typeName_ptr_named (nm := "errors.errorString") (by rw [star]; kernel_rfl) (by kernel_rfl) (by decide) u (by rw [star]; exact h)
set_option maxRecDepth 100000 in
theorem glob_of_laid {W : World} (h : laidMetH Tryd.prog [("math/bits.deBruijn32tab", Rows.laid_math_bits_deBruijn32tab), ("math/bits.deBruijn64tab", Rows.laid_math_bits_deBruijn64tab), ("internal/strconv.uint64pow10", Rows.laid_internal_strconv_uint64pow10), ("strconv.ErrRange", Rows.laid_strconv_ErrRange), ("strconv.ErrSyntax", Rows.laid_strconv_ErrSyntax), ("hopscotch/utf.bounds", Rows.laid_hopscotch_utf_bounds)] W) : Glob W := by
  have h' : laidMet Tryd.prog [("math/bits.deBruijn32tab", Rows.laid_math_bits_deBruijn32tab), ("math/bits.deBruijn64tab", Rows.laid_math_bits_deBruijn64tab), ("internal/strconv.uint64pow10", Rows.laid_internal_strconv_uint64pow10), ("strconv.ErrRange", Rows.laid_strconv_ErrRange), ("strconv.ErrSyntax", Rows.laid_strconv_ErrSyntax), ("hopscotch/utf.bounds", Rows.laid_hopscotch_utf_bounds)] W := h
  have h4 := laidMet.tail (laidMet.tail (laidMet.tail (laidMet.tail h')))
  obtain ⟨a, s, hv, hc, _, _⟩ := laid_sentinel h4 gE tE Tryd.underlying41 rowE Tryd.underlying105 Tryd.underlying107 rfl rfl Tryd.underlying9 cellsE cells9
  have hs : W.cell? ⟨2, 0, none⟩ = some (.iface 105 (.pointer (some a))) := by
    have := World.var?_cell gE hv 0
    simpa using this
  have h5 := laidMet.tail h4
  obtain ⟨ps, ⟨g0, t0, cs0, f0, p0, q0, hg0, ht0, hv0, hd0, _⟩, _⟩ := h5
  obtain rfl := Option.some.inj (gB.symm.trans hg0)
  obtain rfl := Option.some.inj (tB.symm.trans ht0)
  have hcs := bounds_cells hd0
  have key := World.var?_cell hg0 hv0
  have e : cs0 = #[.int .i32 9, .int .i32 10, .int .i32 13, .int .i32 13, .int .i32 32, .int .i32 55295, .int .i32 57344, .int .i32 65533, .int .i32 65536, .int .i32 1114111] := by
    apply Array.toList_inj.mp
    rw [hcs]
  subst e
  exact ⟨key 0, key 1, key 2, key 3, key 4, key 5, key 6, key 7, key 8, key 9, a, hs⟩
end Go.Proofs.YtjciehecedepeaaDoor.L
