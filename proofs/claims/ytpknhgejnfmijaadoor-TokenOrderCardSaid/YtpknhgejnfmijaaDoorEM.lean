/- A text of the claim, with what no other text of it needs taken out. -/
import Derived.MapKept
import Derived.StringKeys
import Derived.ChangeMaps4
import Derived.Carry
import Derived.Below
import Derived.Maps.RangeRun
namespace Go.Proofs.YtpknhgejnfmijaaDoor.MapS
open Go Go.RowKit Go.MapKept
open Go.ChangeMaps (setBlock)
variable {P : Program} {t k e : TypeId}
set_option linter.unusedVariables false
set_option linter.unusedSimpArgs false
def Strs (es : Array MapEntry) : Prop := ∀ x ∈ es.toList, IsKey .string x.key
def No (es : Array MapEntry) (s : ByteArray) : Prop := ∀ x ∈ es.toList, x.key ≠ .string s
def Has (es : Array MapEntry) (s : ByteArray) (v : Value) : Prop := (∃ x ∈ es.toList, x.key = .string s) ∧ ∀ x ∈ es.toList, x.key = .string s → x.val = v
theorem strs_nil : Strs #[] := by intro x hx; simp at hx
theorem no_nil (s : ByteArray) : No #[] s := by intro x hx; simp at hx
theorem strs_push {es : Array MapEntry} (h : Strs es) (s : ByteArray) (v : Value) (c : Nat) : Strs (es.push ⟨.string s, v, c⟩) := by
  intro x hx
  simp only [Array.toList_push, List.mem_append, List.mem_singleton] at hx
  rcases hx with hx | rfl
  · exact h x hx
  · trivial
theorem no_push {es : Array MapEntry} {s q : ByteArray} (h : No es q) (hne : q ≠ s) (v : Value) (c : Nat) : No (es.push ⟨.string s, v, c⟩) q := by
  intro x hx
  simp only [Array.toList_push, List.mem_append, List.mem_singleton] at hx
  rcases hx with hx | rfl
  · exact h x hx
  · exact fun e => hne (by cases e; rfl)
theorem has_push {es : Array MapEntry} {s q : ByteArray} {u : Value} (h : Has es q u) (hne : q ≠ s) (v : Value) (c : Nat) : Has (es.push ⟨.string s, v, c⟩) q u := by
  obtain ⟨⟨x, hx, hk⟩, h2⟩ := h
  refine ⟨⟨x, by simp [hx], hk⟩, ?_⟩
  intro y hy hy2
  simp only [Array.toList_push, List.mem_append, List.mem_singleton] at hy
  rcases hy with hy | rfl
  · exact h2 y hy hy2
  · exact absurd (by cases hy2; rfl) hne
theorem has_new {es : Array MapEntry} {s : ByteArray} (h : No es s) (v : Value) (c : Nat) : Has (es.push ⟨.string s, v, c⟩) s v := by
  refine ⟨⟨⟨.string s, v, c⟩, by simp, rfl⟩, ?_⟩
  intro y hy hy2
  simp only [Array.toList_push, List.mem_append, List.mem_singleton] at hy
  rcases hy with hy | rfl
  · exact absurd hy2 (h y hy)
  · rfl
theorem find_no (hk : P.underlying k = some .string) {es : Array MapEntry} (hs : Strs es) {s : ByteArray} (h : No es s) (w : World) : (Instr.findKey k (.string s) es.toList).run P w = .ok none w := by
  rcases findNow_spec (d := .string) (k := .string s) trivial es.toList 0 hs with ⟨h1, h2⟩ | ⟨j, e0, h1, h2, h3⟩
  · exact run_findKey hk h1
  · exact absurd h3 (h e0 (List.mem_of_getElem? h2))
theorem find_has (hk : P.underlying k = some .string) {es : Array MapEntry} (hs : Strs es) {s : ByteArray} {v : Value} (h : Has es s v) (w : World) : ∃ j, (Instr.findKey k (.string s) es.toList).run P w = .ok (some (j, v)) w := by
  rcases findNow_spec (d := .string) (k := .string s) trivial es.toList 0 hs with ⟨h1, h2⟩ | ⟨j, e0, h1, h2, h3⟩
  · obtain ⟨⟨x, hx, hx2⟩, _⟩ := h
    exact absurd hx2 (h2 x hx)
  · have := h.2 e0 (List.mem_of_getElem? h2) h3
    rw [this] at h1
    exact ⟨j, by simpa using run_findKey hk h1⟩
variable {w : World} {b clock : Nat} {es : Array MapEntry}
theorem run_lookup_no (ht : P.underlying t = some (.map k e)) (hk : P.underlying k = some .string) (hb : w.heap[b]? = some (.map es clock)) (hs : Strs es) {s : ByteArray} (h : No es s) {z : Value} (hz : (zeroValue e).run P w = .ok z w) (ok : Bool) :
    (Instr.lookup t (.map (some b)) (.string s) ok).run P w = .ok (if ok = true then .tuple #[z, .bool false] else z) w := by
  simp [Instr.lookup, run_underlying ht, MapKept.run_getObj_map hb, run_checkKey hk (d := .string) (k := .string s) trivial, find_no hk hs h, Result.andThen, hz]
theorem run_lookup_has (ht : P.underlying t = some (.map k e)) (hk : P.underlying k = some .string) (hb : w.heap[b]? = some (.map es clock)) (hs : Strs es) {s : ByteArray} {v : Value} (h : Has es s v) (ok : Bool) :
    (Instr.lookup t (.map (some b)) (.string s) ok).run P w = .ok (if ok = true then .tuple #[v, .bool true] else v) w := by
  obtain ⟨j, hj⟩ := find_has hk hs h w
  simp [Instr.lookup, run_underlying ht, MapKept.run_getObj_map hb, run_checkKey hk (d := .string) (k := .string s) trivial, hj, Result.andThen]
theorem run_update_no (ht : P.underlying t = some (.map k e)) (hk : P.underlying k = some .string) (hb : w.heap[b]? = some (.map es clock)) (hs : Strs es) {s : ByteArray} (h : No es s) (v : Value) :
    (Instr.mapUpdate t (.map (some b)) (.string s) v).run P w = .ok () (setBlock w b (.map (es.push ⟨.string s, v, clock⟩) (clock + 1))) := by
  simp [Instr.mapUpdate, run_underlying ht, MapKept.run_getObj_map hb, run_checkKey hk (d := .string) (k := .string s) trivial, find_no hk hs h, MapKept.run_setObj_map _ hb, Result.andThen, setBlock]
theorem heap_set (w : World) {b : Nat} (h : b < w.heap.size) (o : Obj) : (setBlock w b o).heap[b]? = some o := by
  simp [setBlock, h]
theorem heap_set_ne (w : World) {b c : Nat} (h : b ≠ c) (o : Obj) : (setBlock w b o).heap[c]? = w.heap[c]? := by
  simp [setBlock, Array.getElem?_setIfInBounds, h]
theorem size_set (w : World) (b : Nat) (o : Obj) : (setBlock w b o).heap.size = w.heap.size := by
  simp [setBlock]
theorem upd (ht : P.underlying t = some (.map k e)) (hk : P.underlying k = some .string) (hb : w.heap[b]? = some (.map es clock)) (hs : Strs es) {s : ByteArray} (h : No es s) (v : Value) :
    ∃ W, (Instr.mapUpdate t (.map (some b)) (.string s) v).run P w = .ok () W ∧ W.heap[b]? = some (.map (es.push ⟨.string s, v, clock⟩) (clock + 1)) ∧ Strs (es.push ⟨.string s, v, clock⟩) ∧
      (∀ B, B ≤ b → Below B w W) ∧ (∀ c, b ≠ c → W.heap[c]? = w.heap[c]?) ∧ W.heap.size = w.heap.size := by
  have hlt : b < w.heap.size := (Array.getElem?_eq_some_iff.1 hb).1
  refine ⟨_, run_update_no ht hk hb hs h v, heap_set w hlt _, strs_push hs s v clock, fun B hB => ⟨rfl, rfl, rfl, by rw [size_set]; exact Nat.le_refl _, fun c hc => heap_set_ne w (by omega) _⟩, fun c hc => heap_set_ne w hc _, size_set w b _⟩
end Go.Proofs.YtpknhgejnfmijaaDoor.MapS
