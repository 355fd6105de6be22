/- A text of the claim, with what no other text of it needs taken out. -/
import Derived.Test.YtpknhgejnfmijaaGreatDoorEB
import Derived.Test.YtpknhgejnfmijaaGreatDoorNC
namespace Go.Proofs.YtpknhgejnfmijaaGreatDoor.T
open Go
set_option linter.unusedVariables false
set_option linter.unusedSimpArgs false
def blank (c : UInt8) : Bool := c == 32 || c == 9 || c == 10 || c == 13
def skipB (l : List UInt8) : List UInt8 := l.dropWhile blank
def cutAt (q : UInt8) : List UInt8 → Option (List UInt8 × List UInt8)
  | [] => none
  | c :: l => if c = q then some ([], l) else (cutAt q l).map fun x => (c :: x.1, x.2)
def behind (p : List UInt8) : List UInt8 → Option (List UInt8)
  | [] => none
  | c :: l => if p.isPrefixOf (c :: l) = true then some ((c :: l).drop p.length) else behind p l
structure Raw where
  name : List UInt8
  value : List UInt8
  left : Nat
structure Tok where
  kind : Nat
  name : List UInt8
  attrs : List (List UInt8 × List UInt8)
  text : List UInt8
  at_ : Nat
def attrL (l : List UInt8) : Option (Raw × List UInt8) :=
  if M.beginL l = 0 then none else
  match skipB (l.drop (M.beginL l)) with
  | 61 :: r => (match skipB r with
    | q :: v => if q = 34 ∨ q = 39 then (match cutAt q v with | none => none | some (x, rest) => if (60 : UInt8) ∈ x then none else some (⟨l.take (M.beginL l), x, v.length⟩, rest)) else none
    | [] => none)
  | _ => none
def tagLoop : Nat → List UInt8 → List Raw → Option (Nat × List Raw × List UInt8)
  | 0, _, _ => none
  | k + 1, l, acc =>
    if (skipB l).length < l.length ∧ (skipB l).head? ≠ none ∧ (skipB l).head? ≠ some 47 ∧ (skipB l).head? ≠ some 62 then
      (match attrL (skipB l) with | none => none | some (a, rest) => tagLoop k rest (acc ++ [a]))
    else if [47, 62].isPrefixOf (skipB l) = true then some (3, acc, (skipB l).drop 2)
    else (match skipB l with | 62 :: r => some (1, acc, r) | _ => none)
def tagL (l : List UInt8) : Option (Nat × List UInt8 × List Raw × List UInt8) :=
  if [60, 47].isPrefixOf l = true then
    (if M.beginL (l.drop 2) = 0 then none else match skipB ((l.drop 2).drop (M.beginL (l.drop 2))) with | 62 :: r => some (2, (l.drop 2).take (M.beginL (l.drop 2)), [], r) | _ => none)
  else if M.beginL (l.drop 1) = 0 then none
  else (tagLoop l.length ((l.drop 1).drop (M.beginL (l.drop 1))) []).map fun x => (x.1, (l.drop 1).take (M.beginL (l.drop 1)), x.2.1, x.2.2)
def remarkL (l : List UInt8) : Option (List UInt8) :=
  if [60, 33, 45, 45].isPrefixOf l = true then behind [45, 45, 62] (l.drop 4) else if [60, 63].isPrefixOf l = true then behind [63, 62] (l.drop 2) else none
def readL (all : Nat) : List Raw → List (List UInt8 × List UInt8) → List (List UInt8 × List UInt8) × Nat × Nat
  | [], acc => (acc, 0, 0)
  | a :: l, acc => if (E.D a.value).2.2 ≠ 0 then (acc, all - a.left + (E.D a.value).2.1, (E.D a.value).2.2) else readL all l (acc ++ [(a.name, (E.D a.value).1)])
def tokenL (all : Nat) (l : List UInt8) : Tok × Nat × Nat × List UInt8 :=
  if l.head? = some 60 then
    (match tagL l with
    | none => (⟨0, [], [], [], 0⟩, all - l.length, 40, [])
    | some (k, n, rs, rest) =>
      if (readL all rs []).2.2 ≠ 0 then (⟨0, [], [], [], 0⟩, (readL all rs []).2.1, (readL all rs []).2.2, []) else if 32 < rs.length then (⟨0, [], [], [], 0⟩, all - l.length, 3, [])
      else (⟨k, n, (readL all rs []).1, [], all - l.length⟩, 0, 0, rest))
  else if (E.D (l.takeWhile (· ≠ 60))).2.2 ≠ 0 then (⟨0, [], [], [], 0⟩, all - l.length + (E.D (l.takeWhile (· ≠ 60))).2.1, (E.D (l.takeWhile (· ≠ 60))).2.2, [])
  else (⟨4, [], [], (E.D (l.takeWhile (· ≠ 60))).1, all - l.length⟩, 0, 0, l.dropWhile (· ≠ 60))
def tokensF (all : Nat) : Nat → List UInt8 → List Tok → List Tok × Nat × Nat
  | 0, _, acc => (acc, 0, 0)
  | k + 1, l, acc => if l = [] then (acc, 0, 0) else
    match remarkL l with
    | some r => tokensF all k r acc
    | none => if (tokenL all l).2.2.1 ≠ 0 then ([], (tokenL all l).2.1, (tokenL all l).2.2.1) else tokensF all k (tokenL all l).2.2.2 (acc ++ [(tokenL all l).1])
def tokensL (l : List UInt8) : List Tok × Nat × Nat :=
  if 65536 < l.length then ([], 0, 3) else if (U.validR l).2 ≠ 0 then ([], (U.validR l).1.toNat, 10) else tokensF l.length l.length l []
theorem skipB_le (l : List UInt8) : (skipB l).length ≤ l.length := (List.dropWhile_suffix _).length_le
theorem cutAt_len (q : UInt8) : ∀ (l x r : List UInt8), cutAt q l = some (x, r) → x.length + r.length + 1 = l.length ∧ l = x ++ q :: r := by
  intro l
  induction l with
  | nil => intro x r h; cases h
  | cons c l ih =>
    intro x r h
    simp only [cutAt] at h
    by_cases hc : c = q
    · rw [if_pos hc] at h
      cases h
      exact ⟨by simp, by rw [hc]; rfl⟩
    · rw [if_neg hc] at h
      cases ht : cutAt q l with
      | none => rw [ht] at h; cases h
      | some y =>
        rw [ht] at h
        cases h
        obtain ⟨h1, h2⟩ := ih y.1 y.2 ht
        exact ⟨by simp; omega, by rw [h2]; rfl⟩
theorem behind_len (p : List UInt8) (hp : p ≠ []) : ∀ (l r : List UInt8), behind p l = some r → r.length < l.length := by
  intro l
  induction l with
  | nil => intro r h; cases h
  | cons c l ih =>
    intro r h
    simp only [behind] at h
    split at h
    · have e := Option.some.inj h
      rw [← e, List.length_drop]
      have := List.length_pos_iff.mpr hp
      simp
      omega
    · have := ih r h
      simp
      omega
end Go.Proofs.YtpknhgejnfmijaaGreatDoor.T
