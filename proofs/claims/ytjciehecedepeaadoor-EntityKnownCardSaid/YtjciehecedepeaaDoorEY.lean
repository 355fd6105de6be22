/- A text of the claim, with what no other text of it needs taken out. -/
import Derived.Test.YtjciehecedepeaaDoorEX
namespace Go.Proofs.YtjciehecedepeaaDoor.X
open Go.RowKit Go.Proofs.YtjciehecedepeaaDoorW.PrintWords Go.Proofs.YtjciehecedepeaaDoor
open Go.ChangeMaps (setBlock)
set_option linter.unusedVariables false
set_option linter.unusedSimpArgs false
def seenSaid (attr : Bool) (seen : Array Nat) (q : ByteArray) : Option ByteArray :=
  if q = ⟨#[38]⟩ then (if seen.contains 0 = true then some ⟨#[97, 109, 112]⟩ else none) else if q = ⟨#[60]⟩ then (if seen.contains 1 = true then some ⟨#[108, 116]⟩ else none)
  else if q = ⟨#[62]⟩ then (if seen.contains 2 = true then some ⟨#[103, 116]⟩ else none) else if q = ⟨#[34]⟩ then (if seen.contains 3 = true ∧ attr = true then some ⟨#[113, 117, 111, 116]⟩ else none) else none
def fullSaid (attr : Bool) (q : ByteArray) : Option ByteArray :=
  if q = ⟨#[38]⟩ then some ⟨#[97, 109, 112]⟩ else if q = ⟨#[60]⟩ then some ⟨#[108, 116]⟩ else if q = ⟨#[62]⟩ then some ⟨#[103, 116]⟩ else if q = ⟨#[34]⟩ then (if attr = true then some ⟨#[113, 117, 111, 116]⟩ else none) else none
def saidR (attr : Bool) (q : ByteArray) : Option ByteArray := if q = ⟨#[13]⟩ then some ⟨#[35, 49, 51]⟩ else fullSaid attr q
def saidT (q : ByteArray) : Option ByteArray := if q = ⟨#[9]⟩ then some ⟨#[35, 57]⟩ else saidR true q
def saidN (q : ByteArray) : Option ByteArray := if q = ⟨#[10]⟩ then some ⟨#[35, 49, 48]⟩ else saidR true q
def saidTN (q : ByteArray) : Option ByteArray := if q = ⟨#[10]⟩ then some ⟨#[35, 49, 48]⟩ else saidT q
def allSaid (attr : Bool) (q : ByteArray) : Option ByteArray := if attr = true then saidTN q else saidR attr q
theorem bne {a b : List UInt8} (h : a ≠ b) : (⟨a.toArray⟩ : ByteArray) ≠ ⟨b.toArray⟩ := fun e => h (by have := congrArg (fun x : ByteArray => x.data.toList) e; simpa using this)
theorem one_eq (c d : UInt8) : ((⟨#[c]⟩ : ByteArray) = ⟨#[d]⟩) = (c = d) := by
  apply propext
  constructor
  · intro e
    have := congrArg (fun x : ByteArray => x.data.toList) e
    simpa using this
  · rintro rfl; rfl
theorem word_byte (attr : Bool) (c : UInt8) : wordOr (allSaid attr) ⟨#[c]⟩ = E.encC attr c := by
  unfold wordOr allSaid saidTN saidT saidR fullSaid E.encC
  simp only [one_eq]
  cases attr with
  | true =>
    simp only [if_true, and_true]
    by_cases h1 : c = 10
    · subst h1; decide
    by_cases h2 : c = 9
    · subst h2; decide
    by_cases h3 : c = 13
    · subst h3; decide
    simp only [if_neg h1, if_neg h2, if_neg h3]
    repeat' split
    all_goals first | rfl | (simp_all; done) | (simp_all; subst_vars; rfl)
  | false =>
    simp only [Bool.false_eq_true, if_false, and_false]
    by_cases h3 : c = 13
    · subst h3; decide
    simp only [if_neg h3]
    repeat' split
    all_goals first | rfl | (simp_all; done) | (simp_all; subst_vars; rfl)
def cnt (seen : Array Nat) : Nat := (if seen.contains 0 then 0 else 1) + (if seen.contains 1 then 0 else 1) + (if seen.contains 2 then 0 else 1) + (if seen.contains 3 then 0 else 1) + (if seen.contains 4 then 0 else 1)
def toCome (r : Nat) (w : World) : Nat := match w.heap[r]? with | some (.mapIter _ _ seen _) => cnt seen | _ => 0
theorem contains_push (seen : Array Nat) (i j : Nat) : (seen.push i).contains j = (seen.contains j || j == i) := by
  rw [Array.contains_push]
def entity_Encode.f (a0 : ByteArray) (a1 : Bool) : Option (ByteArray × Int) :=
  if a0.size ≤ 1000000000 then some (if (U.validR a0.data.toList).2 = 0 then (⟨(E.enR a1 a0.data.toList).toArray⟩, 0) else (⟨#[]⟩, (U.validR a0.data.toList).2)) else none
theorem start_facts (wv w1 : World) (hB : Below ((wv.alloc (.map #[] 0)).alloc (.cells #[.map (some wv.heap.size)] 55)).heap.size ((wv.alloc (.map #[] 0)).alloc (.cells #[.map (some wv.heap.size)] 55)) w1)
    (hz : w1.heap.size = ((wv.alloc (.map #[] 0)).alloc (.cells #[.map (some wv.heap.size)] 55)).heap.size + 1) :
    w1.heap[wv.heap.size + 1]? = some (.cells #[.map (some wv.heap.size)] 55 (0, 0)) ∧ w1.heap[wv.heap.size]? = some (.map #[] 0) ∧ w1.heap.size = wv.heap.size + 3 ∧ Below wv.heap.size wv w1 := by
  have z1 : (wv.alloc (.map #[] 0)).heap.size = wv.heap.size + 1 := by show (wv.heap.push _).size = _; simp
  have z2 : ((wv.alloc (.map #[] 0)).alloc (.cells #[.map (some wv.heap.size)] 55)).heap.size = wv.heap.size + 2 := by show (Array.push _ _).size = _; rw [Array.size_push, z1]
  refine ⟨?_, ?_, by omega, ?_⟩
  · rw [hB.block _ (by omega)]
    have := heap_alloc_new (wv.alloc (.map #[] 0)) (.cells #[.map (some wv.heap.size)] 55)
    rw [z1] at this
    exact this
  · rw [hB.block _ (by omega), heap_alloc_old _ _ (by omega)]
    exact heap_alloc_new wv _
  · exact (((Below.refl _ wv).alloc (Nat.le_refl _) _).alloc (by omega) _).trans (hB.mono (by omega))
def isEntry (i : Nat) (nm tx : ByteArray) : Prop :=
  (i = 0 ∧ nm = ⟨#[97, 109, 112]⟩ ∧ tx = ⟨#[38]⟩) ∨ (i = 1 ∧ nm = ⟨#[108, 116]⟩ ∧ tx = ⟨#[60]⟩) ∨ (i = 2 ∧ nm = ⟨#[103, 116]⟩ ∧ tx = ⟨#[62]⟩) ∨ (i = 3 ∧ nm = ⟨#[113, 117, 111, 116]⟩ ∧ tx = ⟨#[34]⟩) ∨ (i = 4 ∧ nm = ⟨#[97, 112, 111, 115]⟩ ∧ tx = ⟨#[39]⟩)
theorem names_list : namesEs.toList = [⟨.string ⟨#[97, 109, 112]⟩, .agg #[.string ⟨#[38]⟩], 0⟩, ⟨.string ⟨#[108, 116]⟩, .agg #[.string ⟨#[60]⟩], 1⟩, ⟨.string ⟨#[103, 116]⟩, .agg #[.string ⟨#[62]⟩], 2⟩, ⟨.string ⟨#[113, 117, 111, 116]⟩, .agg #[.string ⟨#[34]⟩], 3⟩, ⟨.string ⟨#[97, 112, 111, 115]⟩, .agg #[.string ⟨#[39]⟩], 4⟩] := rfl
theorem names_mem {e : MapEntry} (h : e ∈ namesEs.toList) : ∃ nm tx, e.key = .string nm ∧ e.val = .agg #[.string tx] ∧ isEntry e.born nm tx := by
  rw [names_list] at h
  simp only [List.mem_cons, List.not_mem_nil, or_false] at h
  rcases h with rfl | rfl | rfl | rfl | rfl
  · exact ⟨_, _, rfl, rfl, .inl ⟨rfl, rfl, rfl⟩⟩
  · exact ⟨_, _, rfl, rfl, .inr (.inl ⟨rfl, rfl, rfl⟩)⟩
  · exact ⟨_, _, rfl, rfl, .inr (.inr (.inl ⟨rfl, rfl, rfl⟩))⟩
  · exact ⟨_, _, rfl, rfl, .inr (.inr (.inr (.inl ⟨rfl, rfl, rfl⟩)))⟩
  · exact ⟨_, _, rfl, rfl, .inr (.inr (.inr (.inr ⟨rfl, rfl, rfl⟩)))⟩
theorem names_at (i : Nat) (hi : i < 5) : ∃ e ∈ namesEs.toList, e.born = i := by
  rw [names_list]
  match i, hi with
  | 0, _ => exact ⟨_, List.mem_cons_self .., rfl⟩
  | 1, _ => exact ⟨_, List.mem_cons_of_mem _ (List.mem_cons_self ..), rfl⟩
  | 2, _ => exact ⟨_, List.mem_cons_of_mem _ (List.mem_cons_of_mem _ (List.mem_cons_self ..)), rfl⟩
  | 3, _ => exact ⟨_, List.mem_cons_of_mem _ (List.mem_cons_of_mem _ (List.mem_cons_of_mem _ (List.mem_cons_self ..))), rfl⟩
  | 4, _ => exact ⟨_, List.mem_cons_of_mem _ (List.mem_cons_of_mem _ (List.mem_cons_of_mem _ (List.mem_cons_of_mem _ (List.mem_cons_self ..)))), rfl⟩
theorem next_names (wr : World) (r bm : Nat) (seen : Array Nat) (ty : TypeId) (hr : wr.heap[r]? = some (.mapIter (some bm) 5 seen 5)) (hb : wr.heap[bm]? = some (.map namesEs 5)) :
    ((∀ i, i < 5 → seen.contains i = true) ∧ (Instr.next (.pointer (some ⟨r, 0, none⟩)) false ty).run Tryd.prog wr = .ok (.tuple #[.bool false]) wr) ∨
    ∃ (i : Nat) (nm tx : ByteArray) (W : World), isEntry i nm tx ∧ seen.contains i = false ∧ W.heap[r]? = some (.mapIter (some bm) 5 (seen.push i) 5) ∧ (∀ k, r ≠ k → W.heap[k]? = wr.heap[k]?) ∧ W.heap.size = wr.heap.size ∧ (∀ B, B ≤ r → Below B wr W) ∧
      (Instr.next (.pointer (some ⟨r, 0, none⟩)) false ty).run Tryd.prog wr = .ok (.tuple #[.bool true, .string nm, .agg #[.string tx]]) W ∧
      (Instr.entry (.pointer (some ⟨r, 0, none⟩))).run Tryd.prog W = .ok (.tuple #[.string nm, .agg #[.string tx]]) W := by
  have hold : ∀ x ∈ namesEs.toList, x.born < 5 := by
    rw [names_list]
    intro x hx
    simp only [List.mem_cons, List.not_mem_nil, or_false] at hx
    rcases hx with rfl | rfl | rfl | rfl | rfl <;> decide
  have hnd : (namesEs.toList.map (·.born)).Nodup := by rw [names_list]; decide
  have hlt : r < wr.heap.size := (Array.getElem?_eq_some_iff.1 hr).1
  have hne : r ≠ bm := by
    rintro rfl
    rw [hr] at hb
    cases hb
  rcases run_next_at (P := Tryd.prog) wr ty r bm 5 5 seen namesEs 5 hr hb hold (Nat.le_refl _) with ⟨h1, h2⟩ | ⟨e, he, w1, hw1, h2⟩
  · left
    refine ⟨fun i hi => ?_, h2⟩
    obtain ⟨e, he, rfl⟩ := names_at i hi
    have h3 := Array.eq_empty_of_size_eq_zero h1
    unfold leftOf at h3
    rw [Array.filter_eq_empty_iff] at h3
    have := h3 (a := e) (by simpa using he)
    simpa using this
  · right
    unfold leftOf at he
    have he' : e ∈ namesEs.toList ∧ seen.contains e.born = false := by simpa using he
    obtain ⟨nm, tx, hk, hv, hi⟩ := names_mem he'.1
    have hh : w1.heap = wr.heap := by rcases hw1 with rfl | rfl <;> rfl
    have hlt1 : r < w1.heap.size := by rw [hh]; exact hlt
    have hBw : ∀ B, Below B wr w1 := fun B => by
      rcases hw1 with rfl | rfl
      · exact Below.refl _ _
      · exact (Below.refl _ _).drew
    have hr2 := MapS.heap_set w1 hlt1 (.mapIter (some bm) 5 (seen.push e.born) 5)
    refine ⟨e.born, nm, tx, setBlock w1 r (.mapIter (some bm) 5 (seen.push e.born) 5), hi, he'.2, hr2, fun k hk => ?_, ?_, fun B hB => ?_, ?_, ?_⟩
    · rw [MapS.heap_set_ne w1 hk, hh]
    · rw [MapS.size_set, hh]
    · exact (hBw B).trans ⟨rfl, rfl, rfl, by rw [MapS.size_set]; exact Nat.le_refl _, fun c hc => MapS.heap_set_ne w1 (by omega) _⟩
    · rw [h2, hk, hv]
    · have := run_entry_at (P := Tryd.prog) (setBlock w1 r (.mapIter (some bm) 5 (seen.push e.born) 5)) r bm 5 seen namesEs 5 e hr2 (by rw [MapS.heap_set_ne w1 hne, hh]; exact hb) he'.1 hnd
      rw [this, hk, hv]
theorem cnt_push (seen : Array Nat) (i : Nat) (hi : i < 5) (h : seen.contains i = false) : cnt (seen.push i) < cnt seen := by
  unfold cnt
  simp only [contains_push]
  match i, hi with
  | 0, _ => simp at h; simp [h]
  | 1, _ => simp at h; simp [h]
  | 2, _ => simp at h; simp [h]
  | 3, _ => simp at h; simp [h]
  | 4, _ => simp at h; simp [h]
theorem entry_lt {i : Nat} {nm tx : ByteArray} (h : isEntry i nm tx) : i < 5 := by
  rcases h with ⟨rfl, _⟩ | ⟨rfl, _⟩ | ⟨rfl, _⟩ | ⟨rfl, _⟩ | ⟨rfl, _⟩ <;> decide
theorem bytes_ne {a b : ByteArray} (h : a.data.toList ≠ b.data.toList) : a ≠ b := fun e => h (by rw [e])
theorem said_step (a1 : Bool) (seen : Array Nat) (es : Array MapEntry) (c : Nat) (i : Nat) (nm tx : ByteArray) (h : isEntry i nm tx) (hn : seen.contains i = false) (hs : SaidIs es (seenSaid a1 seen)) (hw : i ≠ 4 ∧ (i = 3 → a1 = true)) :
    MapS.No es tx ∧ SaidIs (es.push ⟨.string tx, .agg #[.string nm], c⟩) (seenSaid a1 (seen.push i)) := by
  have hf : seenSaid a1 seen tx = none := by
    rcases h with ⟨rfl, rfl, rfl⟩ | ⟨rfl, rfl, rfl⟩ | ⟨rfl, rfl, rfl⟩ | ⟨rfl, rfl, rfl⟩ | ⟨rfl, rfl, rfl⟩
    · simp at hn; simp [seenSaid, hn]
    · simp at hn; simp [seenSaid, one_eq, hn]
    · simp at hn; simp [seenSaid, one_eq, hn]
    · simp at hn; simp [seenSaid, one_eq, hn]
    · exact absurd rfl hw.1
  have hno := hs.2 tx
  rw [hf] at hno
  refine ⟨hno, said_push hs tx nm c hf fun q => ?_⟩
  rcases h with ⟨rfl, rfl, rfl⟩ | ⟨rfl, rfl, rfl⟩ | ⟨rfl, rfl, rfl⟩ | ⟨rfl, rfl, rfl⟩ | ⟨rfl, rfl, rfl⟩
  · simp only [seenSaid, contains_push]
    by_cases hq : q = ⟨#[38]⟩
    · simp [hq]
    · simp [hq]
  · simp only [seenSaid, contains_push]
    by_cases hq : q = ⟨#[60]⟩
    · simp [hq, one_eq]
    · simp [hq]
  · simp only [seenSaid, contains_push]
    by_cases hq : q = ⟨#[62]⟩
    · simp [hq, one_eq]
    · simp [hq]
  · have ha := hw.2 rfl
    simp only [seenSaid, contains_push]
    by_cases hq : q = ⟨#[34]⟩
    · simp [hq, one_eq, ha]
    · simp [hq]
  · exact absurd rfl hw.1
theorem said_skip (a1 : Bool) (seen : Array Nat) (es : Array MapEntry) (i : Nat) (hs : SaidIs es (seenSaid a1 seen)) (hw : i = 4 ∨ (i = 3 ∧ a1 = false)) : SaidIs es (seenSaid a1 (seen.push i)) := by
  have e : seenSaid a1 (seen.push i) = seenSaid a1 seen := by
    funext q
    rcases hw with rfl | ⟨rfl, rfl⟩
    · simp [seenSaid, contains_push]
    · simp [seenSaid, contains_push]
  rw [e]
  exact hs
theorem said_full (a1 : Bool) (seen : Array Nat) (es : Array MapEntry) (hs : SaidIs es (seenSaid a1 seen)) (h : ∀ i, i < 5 → seen.contains i = true) : SaidIs es (fullSaid a1) := by
  have e : seenSaid a1 seen = fullSaid a1 := by
    funext q
    unfold seenSaid fullSaid
    rw [h 0 (by decide), h 1 (by decide), h 2 (by decide), h 3 (by decide)]
    simp
  rw [← e]
  exact hs
end Go.Proofs.YtjciehecedepeaaDoor.X
